/- The evaluator, part 8. -/
import Derived.OpenShut
import Derived.ChangeArms
import Derived.ChangeReads
import Derived.DataReads
import Derived.Deep.Slices
import Derived.ChangeSlices
import Derived.WideShapes
import Derived.Test.YtelimhjceiamcaaDoorBEv7
set_option linter.unusedVariables false
set_option linter.unusedSimpArgs false
set_option linter.unnecessarySimpa false
set_option linter.unusedVariables false
set_option linter.unnecessarySimpa false
namespace Go.Ev
inductive Cl where
 |i (k:IntKind)
 |b
inductive Sh where
 |one (c:Cl)
 |agg (l:List Cl)
def cellsOf:List Sh->List Cl
 |[]=>[]
 |.one c::r=>c::cellsOf r
 |.agg l::r=>l++cellsOf r
def encC:Cl->Int->Value
 |.i k,n=> .int k (k.wrap n)
 |.b,n=> .bool (!(n==0))
def Qn:List Cl->List Int->List Value
 |[],_=>[]
 |c::r,l=>encC c (l.headD 0)::Qn r l.tail
def encS:List Sh->List Int->List Value
 |[],_=>[]
 |.one c::r,l=>encC c (l.headD 0)::encS r l.tail
 |.agg cs::r,l=> .agg (Qn cs l).toArray::encS r (l.drop cs.length)
def encR (outs:List Sh) (l:List Int):Value:=
 match outs with
 |[s]=>(encS [s] l).headD (.tuple #[])
 |ss=> .tuple (encS ss l).toArray
def inC:Cl->Int->Prop
 |.i k,n=>k.wrap n=n
 |.b,n=>n=0\/n=1
def InR:List Cl->List Int->Prop
 |[],l=>l=[]
 |c::r,l=>match l with
  |[]=>False
  |n::l=>inC c n/\InR r l
def FnOk (P:Program) (f:FuncId) (ins outs:List Sh) (F:List Int->List Int):Prop:=
 ∀l,InR (cellsOf ins) l-> ∀w,Calls P f (encS ins l).toArray w fun e w'=>e=.returned (encR outs (F l))/\RowKit.Below w.heap.size w w'
def symC:Cl->Nat->AVal
 |.i k,j=> .symi k j
 |.b,j=> .symb j
def Qri:List Cl->Nat->List AVal
 |[],_=>[]
 |c::r,j=>symC c j::Qri r (j+1)
def Qhc:List Sh->Nat->List AVal
 |[],_=>[]
 |.one c::r,j=>symC c j::Qhc r (j+1)
 |.agg cs::r,j=> .agg (Qri cs j)::Qhc r (j+cs.length)
def Qe0:Cl->Option IntKind
 |.i k=>some k
 |.b=>none
theorem Q6h {g:Inj} {c:Cl} {j:Nat} {n:Int} (hi:g.sig.ival j=n) (hb:g.sig.bval j= !(n==0)) (hr:inC c n):VRel g (symC c j) (encC c n):=by
 cases c with
 |i k=>
  simp only [inC] at hr
  simp only [symC,encC]
  rw [hr,<-hi]
  exact .symi k j
 |b=>
  simp only [symC,encC,<-hb]
  exact .symb j
theorem Q6i {g:Inj}: ∀(cs:List Cl) (l:List Int) (j:Nat) (r:List Cl),InR (cs++r) l->(∀i,i<l.length->g.sig.ival (j+i)=l.getD i 0/\g.sig.bval (j+i)= !(l.getD i 0==0))->
  LRel g (Qri cs j) (Qn cs l)/\InR r (l.drop cs.length)/\cs.length<=l.length
 |[],l,j,r,h,_=>⟨.nil,by simpa using h,Nat.zero_le _⟩
 |c::cs,[],j,r,h,_=>h.elim
 |c::cs,n::l,j,r,h,hσ=>by
  obtain ⟨h1,h2⟩:=h
  have h0:=hσ 0 (by simp)
  obtain ⟨k1,k2,k3⟩:=Q6i cs l (j+1) r h2 (fun i hi=>by
   have:=hσ (i+1) (by simpa using hi)
   rw [show j+1+i=j+(i+1) by omega]
   simpa using this)
  refine ⟨?_,by simpa using k2,by simpa using k3⟩
  simp only [Qri,Qn,List.headD_cons,List.tail_cons]
  exact .cons _ _ _ _ (Q6h (by simpa using h0.1) (by simpa using h0.2) h1) k1
theorem Qxa {g:Inj}: ∀(ss:List Sh) (l:List Int) (j:Nat),InR (cellsOf ss) l->(∀i,i<l.length->g.sig.ival (j+i)=l.getD i 0/\g.sig.bval (j+i)= !(l.getD i 0==0))->LRel g (Qhc ss j) (encS ss l)
 |[],l,j,h,_=> .nil
 |.one c::r,[],j,h,_=>h.elim
 |.one c::r,n::l,j,h,hσ=>by
  obtain ⟨h1,h2⟩:=h
  have h0:=hσ 0 (by simp)
  simp only [Qhc,encS,List.headD_cons,List.tail_cons]
  refine .cons _ _ _ _ (Q6h (by simpa using h0.1) (by simpa using h0.2) h1) (Qxa r l (j+1) h2 (fun i hi=> ?_))
  have:=hσ (i+1) (by simpa using hi)
  rw [show j+1+i=j+(i+1) by omega]
  simpa using this
 |.agg cs::r,l,j,h,hσ=>by
  obtain ⟨k1,k2,k3⟩:=Q6i cs l j (cellsOf r) h hσ
  simp only [Qhc,encS]
  refine .cons _ _ _ _ (.agg _ _ (by simpa using k1)) (Qxa r (l.drop cs.length) (j+cs.length) k2 (fun i hi=> ?_))
  simp only [List.length_drop] at hi
  have:=hσ (cs.length+i) (by omega)
  rw [show j+cs.length+i=j+(cs.length+i) by omega]
  simpa [List.getD_eq_getElem?_getD,List.getElem?_drop] using this
def denC:Cl->Int->AVal
 |.i k,n=> .int k (k.wrap n)
 |.b,n=> .bool (!(n==0))
def Qrx (σ:Sig):List Cl->List AVal->List Int->Prop
 |[],[],_=>True
 |c::cs,a::as,l=>den σ a=denC c (l.headD 0)/\Qrx σ cs as l.tail
 |_,_,_=>False
def Qio (σ:Sig):List Sh->List AVal->List Int->Prop
 |[],[],_=>True
 |.one c::r,a::as,l=>den σ a=denC c (l.headD 0)/\Qio σ r as l.tail
 |.agg cs::r,a::as,l=>match a with
  |.agg es=>Qrx σ cs es l/\Qio σ r as (l.drop cs.length)
  |_=>False
 |_,_,_=>False
def Qnj (σ:Sig) (outs:List Sh) (v:AVal) (l:List Int):Prop:=
 match outs with
 |[s]=>Qio σ [s] [v] l
 |ss=>match v with
  |.tuple vs=>Qio σ ss vs l
  |_=>False
theorem Qyo {g:Inj} {c:Cl} {a:AVal} {n:Int} {u:Value} (h:den g.sig a=denC c n) (hu:VRel g a u):u=encC c n:=by
 have:=Qk.2 hu
 rw [h] at this
 cases c with
 |i k=>simp only [denC] at this;cases this;rfl
 |b=>simp only [denC] at this;cases this;rfl
theorem Q4j {g:Inj}: ∀{cs:List Cl} {as:List AVal} {l:List Int} {us:List Value},Qrx g.sig cs as l->LRel g as us->us=Qn cs l
 |[],[],_,_,_,h=>by cases h;rfl
 |c::cs,a::as,l,us,ho,h=>by
  cases h with
  |cons _ u _ m h1 h2=>
   simp only [Qn]
   rw [Qyo ho.1 h1,Q4j ho.2 h2]
 |[],_::_,_,_,ho,_=>ho.elim
 |_::_,[],_,_,ho,_=>ho.elim
theorem Qqp {g:Inj}: ∀{ss:List Sh} {as:List AVal} {l:List Int} {us:List Value},Qio g.sig ss as l->LRel g as us->us=encS ss l
 |[],[],_,_,_,h=>by cases h;rfl
 |.one c::r,a::as,l,us,ho,h=>by
  cases h with
  |cons _ u _ m h1 h2=>
   simp only [encS]
   rw [Qyo ho.1 h1,Qqp ho.2 h2]
 |.agg cs::r,a::as,l,us,ho,h=>by
  simp only [Qio] at ho
  split at ho
  ·rename_i es
   cases h with
   |cons _ u _ m h1 h2=>
    cases h1 with
    |agg _ l' h1=>
     obtain ⟨l'⟩:=l'
     simp only [encS]
     rw [Qqp ho.2 h2]
     have:l'=Qn cs l:=Q4j ho.1 h1
     rw [this]
  ·exact ho.elim
 |[],_::_,_,_,ho,_=>ho.elim
 |.one _::_,[],_,_,ho,_=>ho.elim
 |.agg _::_,[],_,_,ho,_=>ho.elim
theorem Qbge {g:Inj} {outs:List Sh} {v:AVal} {l:List Int} {u:Value} (h:Qnj g.sig outs v l) (hu:VRel g v u):u=encR outs l:=by
 unfold Qnj at h
 unfold encR
 split at h
 ·rename_i s
  have:=Qqp h (.cons _ u _ _ hu .nil)
  rw [<-this];rfl
 ·rename_i hne
  split at h
  ·rename_i vs
   cases hu with
   |tuple _ l' h1=>
    obtain ⟨l'⟩:=l'
    have:l'=encS outs l:=Qqp h h1
    rw [this]
  ·exact h.elim
def sigL (tab:TabF) (l:List Int):Sig:=⟨fun i=>l.getD i 0,fun i=> !(l.getD i 0==0),fun _=> .empty,tab,fun _=>none⟩
theorem Q0j: ∀{cs:List Cl} {l:List Int},InR cs l->l.length=cs.length
 |[],l,h=>by simp only [InR] at h;subst h;rfl
 |_::_,[],h=>h.elim
 |_::cs,_::l,h=>by simpa using Q0j h.2
theorem Q0i: ∀{cs:List Cl} {l:List Int},InR cs l-> ∀(i:Nat) (k:IntKind),cs[i]? =some (.i k)->k.wrap (l.getD i 0)=l.getD i 0
 |c::cs,n::l,h,0,k,hi=>by simp at hi;subst hi;simpa [inC] using h.1
 |c::cs,n::l,h,i+1,k,hi=>by simpa using Q0i h.2 i k (by simpa using hi)
 |[],_,_,_,_,hi=>by simp at hi
 |_::_,[],h,_,_,_=>h.elim
theorem Qzz {P:Program} {X:Ing} {mb:Bool} {fuel d:Nat} {f:FuncId} {ins outs:List Sh} {F:List Int->List Int} {W:Wr'} (hm:P.follows .mixedOrders=true)
  (hX:X.n=0/\X.rows=[]/\X.cuts=[]/\X.m=(cellsOf ins).length/\X.ins=(cellsOf ins).map Qe0) (hG:okG X.G X.m=true) (hT:okLT X.m X.G X.T=true) (hh: ∀F,Hooks P (cxOf X F))
  (h:okW (fun F=>(evD P (cxOf X) mb fuel d).1 F f (Qhc ins 0) ⟨[],[]⟩) W []=true)
  (hv: ∀(l:List Int) (σ:Sig),InR (cellsOf ins) l->Eqs σ X.m X.G->σ.tab=X.tab->(∀i,i<X.m->σ.ival i=l.getD i 0)->(∀i,i<X.m->σ.bval i= !(l.getD i 0==0))->Qie σ (fun v=>Qnj σ outs v (F l)) W []) (hinv: ∀σ,X.inv σ:=by exact fun _=>True.intro) (hkt:okKt X=true:=by exact rfl):
  FnOk P f ins outs F:=by
 intro l hl w
 obtain ⟨x1,x2,x3,x4,x5⟩:=hX
 have hlen:=Q0j hl
 have ag:=Qeo X.G X.m (sigL X.tab l)
 have hi: ∀i,i<X.m->(solve X.G X.m (sigL X.tab l)).ival i=l.getD i 0:=fun i hi=>(ag.val i hi).1.symm
 have hb: ∀i,i<X.m->(solve X.G X.m (sigL X.tab l)).bval i= !(l.getD i 0==0):=fun i hi=>(ag.val i hi).2.1.symm
 have hbase:BaseOk X (solve X.G X.m (sigL X.tab l)):=by
  refine ⟨Qgp hG,ag.tab.symm,fun i k him hk=> ?_,by rw [x2];exact Qbe,by rw [x3];exact Qn1,hinv _,hkt⟩
  rw [hi i him]
  refine Q0i hl i k ?_
  rw [x5,List.getElem?_map] at hk
  cases hc:(cellsOf ins)[i]? with
  |none=>rw [hc] at hk;simp at hk
  |some c=>
   rw [hc] at hk
   cases c with
   |i k'=>simp [Qe0] at hk;rw [hk]
   |b=>simp [Qe0] at hk
 refine (Qbjg (Q:=fun v=>Qnj (solve X.G X.m (sigL X.tab l)) outs v (F l)) hm hT hh x1 (fun i=>congrFun ag.ext.symm i) hbase h (hv l _ hl (Qgp hG) ag.tab.symm hi hb) (args':=(encS ins l).toArray) ?_ w).mono ?_
 ·refine Qxa ins l 0 hl (fun i hil=> ?_)
  have him:i<X.m:=by rw [x4,<-hlen];exact hil
  rw [Nat.zero_add]
  exact ⟨hi i him,hb i him⟩
 ·rintro e w' ⟨v,u,rfl,ho,hu,hB⟩
  exact ⟨by rw [Qbge ho hu],hB⟩
structure Ent where
 f:FuncId
 ins:List Sh
 outs:List Sh
 id:Nat
def Qfq:List Sh->List AVal->Option (List AVal)
 |[],[]=>some []
 |.one _::r,a::as=>match Qfq r as with
  |some l=>some (a::l)
  |none=>none
 |.agg cs::r,a::as=>match a with
  |.agg es=>match Nat.beq es.length cs.length with
   |true=>match Qfq r as with
    |some l=>some (es++l)
    |none=>none
   |false=>none
  |_=>none
 |_,_=>none
def Qmn (kd:Nat->Option IntKind):Cl->AVal->Bool
 |.i k,a=>inK kd k a
 |.b,a=>match a with
  |.bool _=>true
  |.symb _=>true
  |_=>false
def Qdg (kd:Nat->Option IntKind):List Cl->List AVal->Bool
 |[],[]=>true
 |c::cs,a::as=>Qmn kd c a&&Qdg kd cs as
 |_,_=>false
def Qcu:AVal->Bool
 |.int _ _=>true
 |.bool _=>true
 |_=>false
def outC (look:SDef->Option AVal) (tab:TabF) (lit:Bool) (cs:List AVal) (j:Nat):Cl->Option AVal
 |.i k=>match lit with
  |true=>some (.int k (k.wrap (tab j (cs.map numS))))
  |false=>look (.fn j k cs)
 |.b=>match lit with
  |true=>some (.bool (!(tab j (cs.map numS)==0)))
  |false=>look (.fnb j cs)
def Qms (look:SDef->Option AVal) (tab:TabF) (lit:Bool) (cs:List AVal):Nat->List Cl->Option (List AVal)
 |_,[]=>some []
 |j,c::r=>match outC look tab lit cs j c,Qms look tab lit cs (j+1) r with
  |some a,some l=>some (a::l)
  |_,_=>none
def Qh3 (look:SDef->Option AVal) (tab:TabF) (lit:Bool) (cs:List AVal):Nat->List Sh->Option (List AVal)
 |_,[]=>some []
 |j,.one c::r=>match outC look tab lit cs j c,Qh3 look tab lit cs (j+1) r with
  |some a,some l=>some (a::l)
  |_,_=>none
 |j,.agg c::r=>match Qms look tab lit cs j c,Qh3 look tab lit cs (j+c.length) r with
  |some a,some l=>some (.agg a::l)
  |_,_=>none
def Q4n (outs:List Sh) (l:List AVal):Option AVal:=
 match outs with
 |[_]=>match l with
  |[a]=>some a
  |_=>none
 |_=>some (.tuple l)
def Qk8 (f:FuncId):List Ent->Option Ent
 |[]=>none
 |e::r=>match Nat.beq e.f f with
  |true=>some e
  |false=>Qk8 f r
def Qrl (tab:TabF) (tbl:List Ent):Qrv:=fun look kd f args=>
 match Qk8 f tbl with
 |some e=>match Qfq e.ins args with
  |some cs=>match Qdg kd (cellsOf e.ins) cs with
   |true=>match Qh3 look tab (cs.all Qcu) cs (64*e.id) e.outs with
    |some l=>Q4n e.outs l
    |none=>none
   |false=>none
  |none=>none
 |none=>none
def Qfc (Fs:Nat->List Int->List Int):TabF:=fun id l=>(Fs (id/64) l).getD (id%64) 0
theorem Qx4 {P:Program} {ng:Cx} {f:FuncId} {args:List AVal} {v:AVal}
  (h: ∀(g:Inj) (w:World) (args':Array Value),ng.Good g.sig->LRel g args args'.toList->Calls P f args' w fun e w'=> ∃u,e=.returned u/\VRel g v u/\RowKit.Below w.heap.size w w') (hp:Hp):CallP P ng f args hp (.val v) hp:=by
 refine ⟨Touch.refl _,fun g w args' hH ha=>(h g w args' hH.sig ha).mono ?_⟩
 rintro e w' ⟨u,rfl,hu,hb⟩
 obtain ⟨h1,h2⟩:=hH.below hb
 exact ⟨g,⟨u,rfl,hu⟩,h1,h2⟩
theorem Qu7 {X:Ing} {F:List Fact} {g:Inj} {d:SDef} {r:AVal} (hT:okLT X.m X.G X.T=true) (hg:(cxOf X F).Good g.sig) (h:symS (Qq X F) d=some r): ∃q,Qb g.sig d=some q/\ ∀v,VRel g q v->VRel g r v:=
 Qch (Qsb hT hg.ok.2 hg.ok.1) h
section
variable {X : Ing} {F : List Fact} {g : Inj} {tab : TabF} {lit : Bool} {cs : List AVal}
theorem Qu5 {σ:Sig}: ∀{l:List AVal},l.all Qcu=true->(l.map fun a=>numS (den σ a))=l.map numS
 |[],_=>rfl
 |a::l,h=>by
  simp only [List.all_cons,Bool.and_eq_true] at h
  simp only [List.map_cons,Qu5 h.2]
  cases a<;>simp only [Qcu,Bool.false_eq_true,false_and] at h<;>rfl
theorem Q4i (hT:okLT X.m X.G X.T=true) (hg:(cxOf X F).Good g.sig) (ht:X.tab=tab) (hl:lit=true->cs.all Qcu=true) {j:Nat} {c:Cl} {a:AVal} (h:outC (symS (Qq X F)) tab lit cs j c=some a):
  ∀v,VRel g (denC c (tab j (cs.map fun a=>numS (den g.sig a)))) v->VRel g a v:=by
 unfold outC at h
 split at h
 ·rename_i k
  split at h
  ·cases h
   rw [Qu5 (hl rfl)]
   exact fun v hv=>hv
  ·obtain ⟨q,h1,h2⟩:=Qu7 hT hg h
   simp only [Qb,Option.some.injEq] at h1
   subst h1
   intro v hv
   refine h2 v ?_
   rw [show g.sig.tab=tab from by rw [<-ht];exact hg.tab]
   exact hv
 ·split at h
  ·cases h
   rw [Qu5 (hl rfl)]
   exact fun v hv=>hv
  ·obtain ⟨q,h1,h2⟩:=Qu7 hT hg h
   simp only [Qb,Option.some.injEq] at h1
   subst h1
   intro v hv
   refine h2 v ?_
   rw [show g.sig.tab=tab from by rw [<-ht];exact hg.tab]
   exact hv
theorem Qyn {c:Cl} {n:Int}:VRel g (denC c n) (encC c n):=by
 cases c with
 |i k=>exact .int k _
 |b=>exact .bool _
def Qdr (tab:TabF) (l:List Int) (j:Nat):Nat->List Int
 |0=>[]
 |n+1=>tab j l::Qdr tab l (j+1) n
theorem Q4k (hT:okLT X.m X.G X.T=true) (hg:(cxOf X F).Good g.sig) (ht:X.tab=tab) (hl:lit=true->cs.all Qcu=true): ∀{cl:List Cl} {j:Nat} {as:List AVal},Qms (symS (Qq X F)) tab lit cs j cl=some as->
  LRel g as (Qn cl (Qdr tab (cs.map fun a=>numS (den g.sig a)) j cl.length))
 |[],j,as,h=>by simp only [Qms] at h;cases h;exact .nil
 |c::cl,j,as,h=>by
  simp only [Qms] at h
  split at h
  ·rename_i a l h1 h2
   cases h
   simp only [List.length_cons,Qdr,Qn,List.headD_cons,List.tail_cons]
   exact .cons _ _ _ _ (Q4i hT hg ht hl h1 _ Qyn) (Q4k hT hg ht hl h2)
  ·cases h
theorem Q35 (l:List Int): ∀(k j n:Nat),k<=n->(Qdr tab l j n).drop k=Qdr tab l (j+k) (n-k)
 |0,j,n,_=>by simp
 |k+1,j,0,h=>by omega
 |k+1,j,n+1,h=>by
  simp only [Qdr,List.drop_succ_cons]
  rw [Q35 l k (j+1) n (by omega)]
  congr 1
  ·omega
  ·omega
theorem Qs1: ∀{cl:List Cl} {l m:List Int},(∀i,i<cl.length->l.getD i 0=m.getD i 0)->Qn cl l=Qn cl m
 |[],_,_,_=>rfl
 |c::cl,l,m,h=>by
  have h0:=h 0 (by simp)
  simp only [Qn]
  have e0:l.headD 0=m.headD 0:=by cases l<;>cases m<;>simpa using h0
  rw [e0,Qs1 (l:=l.tail) (m:=m.tail) (fun i hi=>by
   have:=h (i+1) (by simpa using hi)
   cases l<;>cases m<;>simpa using this)]
theorem Qqh (l:List Int): ∀(n j i:Nat),i<n->(Qdr tab l j n).getD i 0=tab (j+i) l
 |n+1,j,0,_=>by simp [Qdr]
 |n+1,j,i+1,h=>by
  simp only [Qdr,List.getD_cons_succ]
  rw [Qqh l n (j+1) i (by omega)]
  congr 1
  omega
theorem Qv2 (hT:okLT X.m X.G X.T=true) (hg:(cxOf X F).Good g.sig) (ht:X.tab=tab) (hl:lit=true->cs.all Qcu=true): ∀{ss:List Sh} {j:Nat} {as:List AVal},Qh3 (symS (Qq X F)) tab lit cs j ss=some as->
  LRel g as (encS ss (Qdr tab (cs.map fun a=>numS (den g.sig a)) j (cellsOf ss).length))
 |[],j,as,h=>by simp only [Qh3] at h;cases h;exact .nil
 |.one c::r,j,as,h=>by
  simp only [Qh3] at h
  split at h
  ·rename_i a l h1 h2
   cases h
   simp only [cellsOf,List.length_cons,Qdr,encS,List.headD_cons,List.tail_cons]
   exact .cons _ _ _ _ (Q4i hT hg ht hl h1 _ Qyn) (Qv2 hT hg ht hl h2)
  ·cases h
 |.agg c::r,j,as,h=>by
  simp only [Qh3] at h
  split at h
  ·rename_i a l h1 h2
   cases h
   simp only [cellsOf,List.length_append,encS]
   refine .cons _ _ _ _ (.agg _ _ ?_) ?_
   ·have:=Q4k hT hg ht hl h1
    rw [Qs1 (m:=Qdr tab (cs.map fun a=>numS (den g.sig a)) j (c.length+(cellsOf r).length)) (fun i hi=>by rw [Qqh _ _ _ _ hi,Qqh _ _ _ _ (by omega)])] at this
    simpa using this
   ·have:=Qv2 hT hg ht hl h2
    rw [Q35 _ _ _ _ (by omega)]
    rw [show c.length+(cellsOf r).length-c.length=(cellsOf r).length by omega]
    exact this
  ·cases h
theorem Qsi {kd:Nat->Option IntKind} (hk: ∀i k,kd i=some k->k.wrap (g.sig.ival i)=g.sig.ival i) {c:Cl} {a:AVal} (h:Qmn kd c a=true) {u:Value} (hu:VRel g a u):
  u=encC c (numS (den g.sig a))/\inC c (numS (den g.sig a)):=by
 cases c with
 |i k=>
  obtain ⟨n,h1,h2⟩:=Qey hk (show inK kd k a=true from h)
  have hd:=Qk.2 hu
  rw [h1] at hd
  cases hd
  simp only [h1,numS,encC,h2,inC]
  exact ⟨trivial,trivial⟩
 |b=>
  have: ∃x,den g.sig a=.bool x:=by
   unfold Qmn at h
   cases a<;>simp only [Bool.false_eq_true] at h<;>exact ⟨_,rfl⟩
  obtain ⟨x,hx⟩:=this
  have hd:=Qk.2 hu
  rw [hx] at hd
  cases hd
  simp only [hx,numS,encC,inC]
  cases x<;>simp
theorem Qyd {kd:Nat->Option IntKind} (hk: ∀i k,kd i=some k->k.wrap (g.sig.ival i)=g.sig.ival i): ∀(cl r:List Cl) (as rest:List AVal) (us:List Value),Qdg kd (cl++r) (as++rest)=true->as.length=cl.length->LRel g as us->
  us=Qn cl ((as++rest).map fun a=>numS (den g.sig a))/\Qdg kd r rest=true
 |[],r,[],rest,us,h,_,ha=>by cases ha;exact ⟨rfl,h⟩
 |c::cl,r,a::as,rest,us,h,hl,ha=>by
  cases ha with
  |cons _ u _ m h1 h2=>
   simp only [List.cons_append,Qdg,Bool.and_eq_true] at h
   obtain ⟨e1,e2⟩:=Qyd hk cl r as rest m h.2 (by simpa using hl) h2
   refine ⟨?_,e2⟩
   simp only [List.cons_append,List.map_cons,Qn,List.headD_cons,List.tail_cons]
   rw [<-(Qsi hk h.1 h1).1,<-e1]
 |[],_,_::_,_,_,_,hl,_=>by simp at hl
 |_::_,_,[],_,_,_,hl,_=>by simp at hl
theorem Qtg {kd:Nat->Option IntKind} (hk: ∀i k,kd i=some k->k.wrap (g.sig.ival i)=g.sig.ival i): ∀(ss:List Sh) (args cs:List AVal) (us:List Value),Qfq ss args=some cs->Qdg kd (cellsOf ss) cs=true->LRel g args us->us=encS ss (cs.map fun a=>numS (den g.sig a))
 |[],[],cs,us,h,_,ha=>by cases ha;rfl
 |.one c::r,a::as,cs,us,h,ho,ha=>by
  cases ha with
  |cons _ u _ m h1 h2=>
   simp only [Qfq] at h
   split at h
   ·rename_i l hl
    cases h
    simp only [cellsOf,Qdg,Bool.and_eq_true] at ho
    simp only [List.map_cons,encS,List.headD_cons,List.tail_cons]
    rw [<-(Qsi hk ho.1 h1).1,<-Qtg hk r as l m hl ho.2 h2]
   ·cases h
 |.agg cl::r,a::as,cs,us,h,ho,ha=>by
  cases ha with
  |cons _ u _ m h1 h2=>
   simp only [Qfq] at h
   split at h
   ·rename_i es
    split at h
    ·rename_i hlen
     have hlen:=Nat.eq_of_beq_eq_true hlen
     split at h
     ·rename_i l hl
      cases h
      cases h1 with
      |agg _ l' h1=>
      obtain ⟨l'⟩:=l'
      simp only [cellsOf] at ho
      obtain ⟨e1,e2⟩:=Qyd hk cl (cellsOf r) es l l' ho hlen h1
      simp only [encS]
      rw [<-e1,Qtg hk r as l m hl e2 h2]
      congr 1
      rw [List.map_append,List.drop_append_of_le_length (by simp [hlen]),List.drop_eq_nil_of_le (by simp [hlen])]
      simp
     ·cases h
    ·cases h
   ·cases h
 |[],_::_,_,_,h,_,_=>by simp [Qfq] at h
 |.one _::_,[],_,_,h,_,_=>by simp [Qfq] at h
 |.agg _::_,[],_,_,h,_,_=>by simp [Qfq] at h
theorem Q38 {kd:Nat->Option IntKind} (hk: ∀i k,kd i=some k->k.wrap (g.sig.ival i)=g.sig.ival i): ∀(cl:List Cl) (cs:List AVal),Qdg kd cl cs=true->(∀a,a∈cs-> ∃u,VRel g a u)->InR cl (cs.map fun a=>numS (den g.sig a))
 |[],[],_,_=>rfl
 |c::cl,a::as,h,hu=>by
  simp only [Qdg,Bool.and_eq_true] at h
  obtain ⟨u,h1⟩:=hu a (by simp)
  exact ⟨(Qsi hk h.1 h1).2,Q38 hk cl as h.2 (fun b hb=>hu b (by simp [hb]))⟩
 |[],_::_,h,_=>by simp [Qdg] at h
 |_::_,[],h,_=>by simp [Qdg] at h
theorem Q39 {kd:Nat->Option IntKind}: ∀(cl:List Cl) (cs:List AVal),Qdg kd cl cs=true-> ∀a,a∈cs-> ∃u,VRel g a u
 |c::cl,b::as,h,a,ha=>by
  simp only [Qdg,Bool.and_eq_true] at h
  rcases List.mem_cons.1 ha with rfl|ha
  ·have h1:=h.1
   cases c with
   |i k=>
    cases a<;>simp only [Qmn,inK,Bool.false_eq_true] at h1
    ·exact ⟨_,.int _ _⟩
    ·exact ⟨_,.symi _ _⟩
   |b=>
    cases a<;>simp only [Qmn,Bool.false_eq_true] at h1
    ·exact ⟨_,.bool _⟩
    ·exact ⟨_,.symb _⟩
  ·exact Q39 cl as h.2 a ha
 |[],_::_,h,_,_=>by simp [Qdg] at h
 |_,[],_,_,ha=>by cases ha
end
theorem Qzu {f:FuncId}: ∀{tbl:List Ent} {e:Ent},Qk8 f tbl=some e->e∈tbl/\e.f=f
 |[],_,h=>by simp [Qk8] at h
 |x::r,e,h=>by
  simp only [Qk8] at h
  split at h
  ·rename_i hb;cases h;exact ⟨by simp,Nat.eq_of_beq_eq_true hb⟩
  ·obtain ⟨h1,h2⟩:=Qzu h;exact ⟨by simp [h1],h2⟩
theorem Qs5: ∀{ss:List Sh} {l m:List Int},(∀i,i<(cellsOf ss).length->l.getD i 0=m.getD i 0)->encS ss l=encS ss m
 |[],_,_,_=>rfl
 |.one c::r,l,m,h=>by
  have h0:=h 0 (by simp [cellsOf])
  simp only [encS]
  have e0:l.headD 0=m.headD 0:=by cases l<;>cases m<;>simpa using h0
  rw [e0,Qs5 (l:=l.tail) (m:=m.tail) (fun i hi=>by
   have:=h (i+1) (by simpa [cellsOf] using hi)
   cases l<;>cases m<;>simpa using this)]
 |.agg cs::r,l,m,h=>by
  simp only [encS]
  rw [Qs1 (l:=l) (m:=m) (fun i hi=>h i (by simp [cellsOf];omega)),Qs5 (l:=l.drop cs.length) (m:=m.drop cs.length) (fun i hi=>by
   have:=h (cs.length+i) (by simp [cellsOf];omega)
   simpa [List.getD_eq_getElem?_getD,List.getElem?_drop] using this)]
theorem Qbjh {P:Program} {X:Ing} {Fs:Nat->List Int->List Int} {tbl:List Ent} (hT:okLT X.m X.G X.T=true) (hX:X.hook=Qrl (Qfc Fs) tbl) (ht:X.tab=Qfc Fs)
  (h: ∀e,e∈tbl->(cellsOf e.outs).length<=64/\FnOk P e.f e.ins e.outs (Fs e.id)) (F:List Fact): ∀f args v,(cxOf X F).hook f args=some v-> ∀hp,CallP P (cxOf X F) f args hp (.val v) hp:=by
 intro f args v hv hp
 replace hv:X.hook (symS (Qq X F)) (kdX X) f args=some v:=hv
 rw [hX] at hv
 unfold Qrl at hv
 split at hv
 ·rename_i e he
  obtain ⟨hmem,hf⟩:=Qzu he
  subst hf
  obtain ⟨h64,hok⟩:=h e hmem
  split at hv
  ·rename_i cs hcs
   split at hv
   ·rename_i hcell
    split at hv
    ·rename_i l hl
     refine Qx4 (fun g w args' hg ha=> ?_) hp
     have hk: ∀i k,kdX X i=some k->k.wrap (g.sig.ival i)=g.sig.ival i:=fun i k h=>hg.kd i k h
     have ea:=Qtg hk e.ins args cs args'.toList hcs hcell ha
     have hin:=Q38 hk (cellsOf e.ins) cs hcell (Q39 _ _ hcell)
     have hargs:args'=(encS e.ins (cs.map fun a=>numS (den g.sig a))).toArray:=by rw [<-ea]
     rw [hargs]
     refine (hok _ hin w).mono ?_
     rintro en w' ⟨rfl,hB⟩
     have hout:=Qv2 (lit:=cs.all Qcu) hT hg ht (fun h=>h) hl
     have hnum:encS e.outs (Qdr (Qfc Fs) (cs.map fun a=>numS (den g.sig a)) (64*e.id) (cellsOf e.outs).length)=encS e.outs (Fs e.id (cs.map fun a=>numS (den g.sig a))):=by
      refine Qs5 fun i hi=> ?_
      rw [Qqh _ _ _ _ hi]
      unfold Qfc
      rw [show (64*e.id+i)/64=e.id by omega,show (64*e.id+i)%64=i by omega]
     rw [hnum] at hout
     refine ⟨_,rfl,?_,hB⟩
     generalize Fs e.id (cs.map fun a=>numS (den g.sig a))=R at hout⊢
     generalize e.outs=outs at hv hout⊢
     unfold Q4n at hv
     unfold encR
     split at hv
     ·rename_i s
      split at hv
      ·rename_i a
       cases hv
       cases hE:encS [s] R with
       |nil=>rw [hE] at hout;cases hout
       |cons u us=>rw [hE] at hout;cases hout with|cons _ _ _ _ h1 _=>exact h1
      ·cases hv
     ·rename_i hne
      cases hv
      exact .tuple _ _ (by simpa using hout)
    ·cases hv
   ·cases hv
  ·cases hv
 ·cases hv
end Go.Ev
namespace Go.Ev
set_option linter.unusedVariables false
theorem Qbg4 {g:Inj} {k:IntKind} {i:Nat} {n:Int} (h:g.sig.ival i=n):VRel g (.symi k i) (.int k n):=h▸ .symi k i
theorem Qbg3 {g:Inj} {i:Nat} {n:Bool} (h:g.sig.bval i=n):VRel g (.symb i) (.bool n):=h▸ .symb i
theorem Qbg1 {g:Inj} {a:AVal} {u:Value} {k:IntKind} {n:Int} (h:VRel g a u) (hd:den g.sig a=.int k n):u=.int k n:=by
 have:=Qk.2 h
 rw [hd] at this
 cases this
 rfl
structure Shape where
 t:List (Nat×AVal)
 heap:List Blk
abbrev Asg:=List (Nat×AVal)
abbrev Bm:=List (Nat×Nat)
def Qwt:AVal->AVal->Bool
 |.int k a,.int k' b=>decide (k=k')&&a==b
 |.bool a,.bool b=>a==b
 |.str a,.str b=>a.toList==b.toList
 |.nilptr,.nilptr=>true
 |.nilslice,.nilslice=>true
 |.nilmap,.nilmap=>true
 |.nilfunc,.nilfunc=>true
 |.niliface,.niliface=>true
 |_,_=>false
def numP:AVal->Bool
 |.int _ _=>true
 |.symi _ _=>true
 |_=>false
def strP:AVal->Bool
 |.str _=>true
 |.syms _=>true
 |_=>false
theorem Qmv {g:Inj} {a:AVal} {k:IntKind} {n:Int} (h:den g.sig a=.int k n):VRel g a (.int k n):=Qk.1 (by rw [h];exact .int _ _)
theorem Q46 {g:Inj} {a:AVal} {s:ByteArray} (h:den g.sig a=.str s):VRel g a (.string s):=Qk.1 (by rw [h];exact .str _)
def Qwv:Fn->Fn->Bool
 |.func k,.func k'=>Nat.beq k k'
 |_,_=>false
theorem Qbir {a b:Fn} (h:Qwv a b=true):a=b:=by
 unfold Qwv at h
 split at h
 ·rw [Nat.eq_of_beq_eq_true h]
 ·cases h
mutual
def Qv (f:Bm):AVal->AVal->Option Asg
 |.symi k i,b=>match skOf b with
  |some (.i k')=>if k=k' then some [(i,b)] else none
  |_=>none
 |.symb i,b=>match skOf b with
  |some .b=>some [(i,b)]
  |_=>none
 |.syms i,b=>match skOf b with
  |some .s=>some [(i,b)]
  |_=>none
 |.ptr b o,c=>match c with
  |.ptr b' o'=>match f[b]? with
   |some (x,sh)=>if x=b'/\o'=o+sh then some [] else none
   |none=>none
  |_=>none
 |.agg l,c=>match c with
  |.agg m=>Qdp f l m
  |_=>none
 |.tuple l,c=>match c with
  |.tuple m=>Qdp f l m
  |_=>none
 |.iface t v,c=>match c with
  |.iface t' v'=>if t=t' then Qv f v v' else none
  |_=>none
 |.row i,c=>match c with
  |.row i'=>if i=i' then some [] else none
  |_=>none
 |.crow i,c=>match c with
  |.crow i'=>if i=i' then some [] else none
  |_=>none
 |.slice b o len cap ex,c=>match c with
  |.slice b' o' len' cap' ex'=>match f[b]? with
   |some (x,sh)=>if x=b'/\len=len'/\ex=ex'/\cap<=cap'/\(ex=none->cap=cap')/\(((0<len\/ex=none)/\o'=o+sh)\/(len=0/\cap=0/\ex≠none/\sh=0)) then some [] else none
   |none=>none
  |_=>none
 |.lsl b z ap off n,c=>match c with
  |.lsl b' z' ap' off' n'=>match f[b]? with
   |some (x,sh)=>match numP off&&(numP n&&(Nat.beq z z'&&((!ap||ap')&&(isZ n'||(Nat.beq x b'&&Nat.beq sh 0))))) with
    |true=>match Qv f off off',Qv f n n' with
     |some p,some q=>some (p++q)
     |_,_=>none
    |false=>none
   |none=>none
  |.nilslice=>match numP off&&numP n with
   |true=>match Qv f off (.int .i64 0),Qv f n (.int .i64 0) with
    |some p,some q=>some (p++q)
    |_,_=>none
   |false=>none
  |_=>none
 |.lptr b z ix j,c=>match c with
  |.lptr b' z' ix' j'=>match f[b]? with
   |some (x,sh)=>match numP ix&&(Nat.beq z z'&&(Nat.beq j j'&&(Nat.beq x b'&&Nat.beq sh 0))) with
    |true=>Qv f ix ix'
    |false=>none
   |none=>none
  |_=>none
 |.func fv fi ca,c=>match c with
  |.func fv' fi' ca'=>match Qwv fv fv' with
   |true=>match Qdp f fi fi',Qdp f ca ca' with
    |some p,some q=>some (p++q)
    |_,_=>none
   |false=>none
  |_=>none
 |a,b=>match Qwt a b with
  |true=>some []
  |false=>none
def Qdp (f:Bm):List AVal->List AVal->Option Asg
 |[],m=>match m with
  |[]=>some []
  |_=>none
 |a::l,m=>match m with
  |b::m=>match Qv f a b,Qdp f l m with
   |some x,some y=>some (x++y)
   |_,_=>none
  |[]=>none
end
def Fits (σ τ:Sig) (l:Asg):Prop:=
 ∀p,p∈l->(∀k n,den σ p.2=.int k n->τ.ival p.1=n)/\(∀b,den σ p.2=.bool b->τ.bval p.1=b)/\(∀s,den σ p.2=.str s->τ.sval p.1=s)
theorem Fits.left {σ τ:Sig} {l m:Asg} (h:Fits σ τ (l++m)):Fits σ τ l:=fun p hp=>h p (by simp [hp])
theorem Fits.right {σ τ:Sig} {l m:Asg} (h:Fits σ τ (l++m)):Fits σ τ m:=fun p hp=>h p (by simp [hp])
theorem Qbip {g g2:Inj} {a b:AVal} {v:Value} (h:Qwt a b=true) (hv:VRel g b v):VRel g2 a v:=by
 unfold Qwt at h
 split at h
 ·simp only [Bool.and_eq_true,decide_eq_true_eq,beq_iff_eq] at h
  obtain ⟨rfl,rfl⟩:=h
  cases hv;exact .int _ _
 ·simp only [beq_iff_eq] at h
  subst h
  cases hv;exact .bool _
 ·rw [toList_inj (eq_of_beq h)]
  cases hv;exact .str _
 ·cases hv;exact .nilptr
 ·cases hv;exact .nilslice
 ·cases hv;exact .nilmap
 ·cases hv;exact .nilfunc
 ·cases hv;exact .niliface
 ·cases h
theorem Qbg0 {g:Inj} {a:AVal} {u:Value} {n:Bool} (h:VRel g a u) (hd:den g.sig a=.bool n):u=.bool n:=by
 have:=Qk.2 h
 rw [hd] at this
 cases this
 rfl
theorem Qbg2 {g:Inj} {a:AVal} {u:Value} {n:ByteArray} (h:VRel g a u) (hd:den g.sig a=.str n):u=.string n:=by
 have:=Qk.2 h
 rw [hd] at this
 cases this
 rfl
def shift (L:Loc) (sh:Nat):Loc:=⟨L.blk,L.dl+sh,L.n-sh⟩
def Qrw (f:Bm) (g g2:Inj):Prop:=(∀b x sh L,f[b]? =some (x,sh)->g x=some L->g2 b=some (shift L sh))/\g2.sig.ext=g.sig.ext
theorem Qg6 {g:Inj} {a:AVal} {k:IntKind} {n:Int} (h:numP a=true) (hv:VRel g a (.int k n)):den g.sig a=.int k n:=by
 unfold numP at h
 split at h
 ·cases hv;rfl
 ·cases hv;rfl
 ·cases h
theorem Qw7 {g:Inj} {a:AVal} {s:ByteArray} (h:strP a=true) (hv:VRel g a (.string s)):den g.sig a=.str s:=by
 unfold strP at h
 split at h
 ·cases hv;rfl
 ·cases hv;rfl
 ·cases h
mutual
theorem Qb2 {f:Bm} {g g2:Inj} (hf:Qrw f g g2): ∀(a b:AVal) (l:Asg) (v:Value),Qv f a b=some l->Fits g.sig g2.sig l->VRel g b v->VRel g2 a v
 |.symi k i,b,l,v,h,hl,hv=>by
  simp only [Qv] at h
  split at h
  ·rename_i k' hk
   split at h
   ·rename_i hkk
    subst hkk
    cases h
    obtain ⟨⟨n,hn⟩,_⟩:=sk_i hk g.sig
    rw [Qbg1 hv hn]
    exact Qbg4 ((hl (i,b) (by simp)).1 _ _ hn)
   ·cases h
  ·cases h
 |.symb i,b,l,v,h,hl,hv=>by
  simp only [Qv] at h
  split at h
  ·rename_i hk
   cases h
   obtain ⟨⟨n,hn⟩,_⟩:=sk_b hk g.sig
   rw [Qbg0 hv hn]
   exact Qbg3 ((hl (i,b) (by simp)).2.1 _ hn)
  ·cases h
 |.syms i,b,l,v,h,hl,hv=>by
  simp only [Qv] at h
  split at h
  ·rename_i hk
   cases h
   obtain ⟨⟨n,hn⟩,_⟩:=sk_s hk g.sig
   rw [Qbg2 hv hn]
   have:=(hl (i,b) (by simp)).2.2 _ hn
   rw [<-this]
   exact .syms i
  ·cases h
 |.ptr b o,c,l,v,h,hl,hv=>by
  simp only [Qv] at h
  split at h
  ·rename_i b' o'
   split at h
   ·rename_i x sh hx
    split at h
    ·rename_i hc
     obtain ⟨rfl,rfl⟩:=hc
     cases hv with
     |ptr _ _ L hL=>
      have:=VRel.ptr (g:=g2) b o _ (hf.1 b x sh L hx hL)
      simpa [shift,Nat.add_assoc,Nat.add_comm sh o] using this
    ·cases h
   ·cases h
  ·cases h
 |.agg l0,c,l,v,h,hl,hv=>by
  simp only [Qv] at h
  split at h
  ·cases hv with
   |agg _ m hm=>exact .agg _ _ (Qjk hf _ _ _ _ h hl hm)
  ·cases h
 |.tuple l0,c,l,v,h,hl,hv=>by
  simp only [Qv] at h
  split at h
  ·cases hv with
   |tuple _ m hm=>exact .tuple _ _ (Qjk hf _ _ _ _ h hl hm)
  ·cases h
 |.iface t x,c,l,v,h,hl,hv=>by
  simp only [Qv] at h
  split at h
  ·split at h
   ·rename_i ht
    subst ht
    cases hv with
    |iface _ _ x' hx=>exact .iface _ _ _ (Qb2 hf _ _ _ _ h hl hx)
   ·cases h
  ·cases h
 |.row i,c,l,v,h,hl,hv=>by
  simp only [Qv] at h
  split at h
  ·split at h
   ·rename_i hi
    subst hi
    cases hv with
    |row _ X ao cap h1 h2 h3=>exact .row i X ao cap (by rw [hf.2];exact h1) h2 h3
   ·cases h
  ·cases h
 |.crow i,c,l,v,h,hl,hv=>by
  simp only [Qv] at h
  split at h
  ·split at h
   ·rename_i hi
    subst hi
    cases hv with
    |crow _ X ao h1 h2=>exact .crow i X ao (by rw [hf.2];exact h1) h2
   ·cases h
  ·cases h
 |.slice b o len cap ex,c,l,v,h,hl,hv=>by
  simp only [Qv] at h
  split at h
  ·rename_i b' o' len' cap' ex'
   split at h
   ·rename_i x sh hx
    split at h
    ·rename_i hc
     obtain ⟨rfl,rfl,rfl,hcap,hnone,hoff⟩:=hc
     cases hv with
     |slice _ _ _ _ _ o2 cv L hL h0 h1 h2=>
      have hm:=hf.1 b x sh L hx hL
      rcases hoff with ⟨hlen,rfl⟩|⟨rfl,rfl,hne,rfl⟩
      ·have ho:o2=o+sh:=by
        rcases h0 with h0|h0
        ·exact h0
        ·rcases hlen with hlen|hlen
         ·omega
         ·exact absurd hlen h0.2.2
       subst ho
       have:=VRel.slice (g:=g2) b o len cap ex o cv (shift L sh) hm (.inl rfl) (fun e=>by rw [h1 e,hnone e]) (fun z hz=>by
        obtain ⟨q1,q2⟩:=h2 z hz
        simp only [shift]
        exact ⟨by omega,by omega⟩)
       simpa [shift,Nat.add_assoc,Nat.add_comm sh o] using this
      ·have:=VRel.slice (g:=g2) b o 0 0 ex o2 cv (shift L 0) hm (.inr ⟨rfl,rfl,hne⟩) (fun e=>absurd e hne) (fun z hz=>by
        obtain ⟨q1,q2⟩:=h2 z hz
        simp only [shift]
        exact ⟨Nat.zero_le _,by omega⟩)
       simpa [shift] using this
    ·cases h
   ·cases h
  ·cases h
 |.lsl b z ap off n,c,l,v,h,hl,hv=>by
  simp only [Qv] at h
  split at h
  ·rename_i b' z' ap' off' n'
   split at h
   ·rename_i x sh hx
    split at h
    ·rename_i hc
     simp only [Bool.and_eq_true] at hc
     obtain ⟨c1,c2,c3,c4,c5⟩:=hc
     have c3:=Nat.eq_of_beq_eq_true c3
     subst c3
     split at h
     ·rename_i p q hp hq
      cases h
      cases hv with
      |lsl _ _ _ _ _ o m cap ao h1 h2 h3 h4 h5=>
       have d1:=Qg6 c1 (Qb2 hf off off' p _ hp hl.left (Qmv h1))
       have d2:=Qg6 c2 (Qb2 hf n n' q _ hq hl.right (Qmv h2))
       refine .lsl b z ap off n o m cap ao d1 d2 h3 (fun ha=>h4 ?_) (fun hm=> ?_)
       ·subst ha;simpa using c4
       ·obtain ⟨L,k1,k2,k3⟩:=h5 hm
        rw [Bool.or_eq_true] at c5
        rcases c5 with c5|c5
        ·rw [Qci c5] at h2
         simp only [den,AVal.int.injEq,true_and] at h2
         omega
        ·simp only [Bool.and_eq_true] at c5
         have e1:=Nat.eq_of_beq_eq_true c5.1
         have e2:=Nat.eq_of_beq_eq_true c5.2
         subst e1;subst e2
         have:=hf.1 b x 0 L hx k1
         exact ⟨shift L 0,this,by simpa [shift] using k2,by simpa [shift] using k3⟩
     ·cases h
    ·cases h
   ·cases h
  ·split at h
   ·rename_i hc
    simp only [Bool.and_eq_true] at hc
    split at h
    ·rename_i p q hp hq
     cases h
     cases hv
     have d1:=Qg6 hc.1 (Qb2 hf off _ p _ hp hl.left (.int _ _))
     have d2:=Qg6 hc.2 (Qb2 hf n _ q _ hq hl.right (.int _ _))
     exact .lsl b z ap off n 0 0 0 none d1 d2 ⟨Nat.le_refl _,by decide⟩ (fun _=>⟨rfl,fun _=>rfl⟩) (fun hm=>absurd hm (Nat.lt_irrefl 0))
    ·cases h
   ·cases h
  ·cases h
 |.lptr b z ix j,c,l,v,h,hl,hv=>by
  simp only [Qv] at h
  split at h
  ·rename_i b' z' ix' j'
   split at h
   ·rename_i x sh hx
    split at h
    ·rename_i hc
     simp only [Bool.and_eq_true] at hc
     obtain ⟨c1,c2,c3,c4,c5⟩:=hc
     have c2:=Nat.eq_of_beq_eq_true c2
     have c3:=Nat.eq_of_beq_eq_true c3
     have c4:=Nat.eq_of_beq_eq_true c4
     have c5:=Nat.eq_of_beq_eq_true c5
     subst c2;subst c3;subst c4;subst c5
     cases hv with
     |lptr _ _ _ _ m L h1 h2 h3 h4=>
      have d1:=Qg6 c1 (Qb2 hf ix ix' l _ h hl (Qmv h2))
      have:=VRel.lptr (g:=g2) b z ix j m (shift L 0) (hf.1 b x 0 L hx h1) d1 (by simpa [shift] using h3) h4
      simpa [shift] using this
    ·cases h
   ·cases h
  ·cases h
 |.func fv fi ca,c,l,v,h,hl,hv=>by
  simp only [Qv] at h
  split at h
  ·rename_i fv' fi' ca'
   split at h
   ·rename_i hs
    have:=Qbir hs
    subst this
    split at h
    ·rename_i p q hp hq
     cases h
     cases hv with
     |func _ _ _ fs cs h1 h2=>exact .func _ _ _ fs cs (Qjk hf _ _ _ _ hp hl.left h1) (Qjk hf _ _ _ _ hq hl.right h2)
    ·cases h
   ·cases h
  ·cases h
 |.yield _,b,l,v,h,hl,hv|.rptr _ _ _,b,l,v,h,hl,hv|.int _ _,b,l,v,h,hl,hv|.bool _,b,l,v,h,hl,hv|.float _ _,b,l,v,h,hl,hv|.str _,b,l,v,h,hl,hv|.nilptr,b,l,v,h,hl,hv|.nilslice,b,l,v,h,hl,hv
 |.nilmap,b,l,v,h,hl,hv|.map _,b,l,v,h,hl,hv|.nilfunc,b,l,v,h,hl,hv|.niliface,b,l,v,h,hl,hv=>by
  simp only [Qv] at h
  split at h
  ·rename_i hs;exact Qbip hs hv
  ·cases h
theorem Qjk {f:Bm} {g g2:Inj} (hf:Qrw f g g2): ∀(a b:List AVal) (l:Asg) (v:List Value),Qdp f a b=some l->Fits g.sig g2.sig l->LRel g b v->LRel g2 a v
 |[],b,l,v,h,hl,hv=>by
  simp only [Qdp] at h
  split at h
  ·cases hv;exact .nil
  ·cases h
 |a::r,b,l,v,h,hl,hv=>by
  simp only [Qdp] at h
  split at h
  ·split at h
   ·rename_i x y hx hy
    cases h
    cases hv with
    |cons _ u _ m h1 h2=>exact .cons _ _ _ _ (Qb2 hf _ _ _ _ hx hl.left h1) (Qjk hf _ _ _ _ hy hl.right h2)
   ·cases h
  ·cases h
end
def Qmf (f:Bm):List AVal->List AVal->Option Asg
 |[],_=>some []
 |a::l,m=>match m with
  |b::m=>match Qv f a b,Qmf f l m with
   |some x,some y=>some (x++y)
   |_,_=>none
  |[]=>none
theorem Qvm {f:Bm}: ∀(c d:List AVal) (l:Asg),Qmf f c d=some l-> ∀(i:Nat) (a:AVal),c[i]? =some a-> ∃b m,d[i]? =some b/\Qv f a b=some m/\ ∀p,p∈m->p∈l
 |[],_,_,_,i,a,h=>by simp at h
 |x::c,d,l,h,i,a,hi=>by
  simp only [Qmf] at h
  split at h
  ·rename_i b d
   split at h
   ·rename_i y z hy hz
    cases h
    cases i with
    |zero=>simp at hi;subst hi;exact ⟨b,y,by simp,hy,fun p hp=>by simp [hp]⟩
    |succ i=>
     obtain ⟨b',m,h1,h2,h3⟩:=Qvm c d z hz i a (by simpa using hi)
     exact ⟨b',m,by simpa using h1,h2,fun p hp=>by simp [h3 p hp]⟩
   ·cases h
  ·cases h
def Qme (f:Bm) (src:List Blk) (k:Blk) (i:Nat):Option Asg:=
 match k with
 |.gone=>some []
 |.map _=>none
 |.loop _=>none
 |.dfr=>none
 |.iter _ _ _=>none
 |.lst s n cl e=>match f[i]? with
  |some (x,sh)=>match strP s&&numP n with
   |true=>match src[x]? with
    |some (.lst s' n' cl' e')=>if sh=0/\cl=cl'/\(e=0\/e=e') then
      match Qv f s s',Qv f n n' with
      |some p,some q=>some (p++q)
      |_,_=>none
     else none
    |none=>match Qv f s (.str .empty),Qv f n (.int .i64 0) with
     |some p,some q=>some (p++q)
     |_,_=>none
    |_=>none
   |false=>none
  |none=>none
 |.cells c e=>match f[i]? with
  |some (x,sh)=>match src[x]? with
   |some (.cells c' e')=>if e=e'/\sh<=c'.length then Qmf f c (c'.drop sh) else none
   |_=>none
  |none=>none
def Qe2 (f:Bm) (src:List Blk):List Blk->Nat->Option Asg
 |[],_=>some []
 |k::ks,i=>match Qme f src k i,Qe2 f src ks (i+1) with
  |some x,some y=>some (x++y)
  |_,_=>none
theorem Qvk {f:Bm} {src:List Blk}: ∀(ks:List Blk) (n:Nat) (l:Asg),Qe2 f src ks n=some l-> ∀(i:Nat) (k:Blk),ks[i]? =some k-> ∃m,Qme f src k (n+i)=some m/\ ∀p,p∈m->p∈l
 |[],_,_,_,i,k,h=>by simp at h
 |x::ks,n,l,h,i,k,hi=>by
  simp only [Qe2] at h
  split at h
  ·rename_i y z hy hz
   cases h
   cases i with
   |zero=>simp at hi;subst hi;exact ⟨y,hy,fun p hp=>by simp [hp]⟩
   |succ i=>
    obtain ⟨m,h1,h2⟩:=Qvk ks (n+1) z hz i k (by simpa using hi)
    exact ⟨m,by rw [show n+(i+1)=n+1+i by omega];exact h1,fun p hp=>by simp [h2 p hp]⟩
  ·cases h
def Qmh (f:Bm) (t:Tm):List (Nat×AVal)->Option Asg
 |[]=>some []
 |p::r=>match t.get p.1 with
  |some b=>match Qv f p.2 b,Qmh f t r with
   |some x,some y=>some (x++y)
   |_,_=>none
  |none=>none
theorem Q3j {f:Bm} {t:Tm}: ∀(r:List (Nat×AVal)) (l:Asg),Qmh f t r=some l-> ∀p,p∈r-> ∃b m,t.get p.1=some b/\Qv f p.2 b=some m/\ ∀q,q∈m->q∈l
 |[],_,_,p,hp=>by cases hp
 |q::r,l,h,p,hp=>by
  simp only [Qmh] at h
  split at h
  ·rename_i b hb
   split at h
   ·rename_i x y hx hy
    cases h
    rcases List.mem_cons.1 hp with rfl|hp
    ·exact ⟨b,x,hb,hx,fun z hz=>by simp [hz]⟩
    ·obtain ⟨b',m,h1,h2,h3⟩:=Q3j r y hy p hp
     exact ⟨b',m,h1,h2,fun z hz=>by simp [h3 z hz]⟩
   ·cases h
  ·cases h
def Qqa (x:Nat):Bm->Bool
 |[]=>true
 |p::l=> !(Nat.beq p.1 x)&&Qqa x l
def Qd5:Bm->Bool
 |[]=>true
 |p::l=>Qqa p.1 l&&Qd5 l
theorem Qqb {x:Nat}: ∀{l:Bm},Qqa x l=true-> ∀(i y sh:Nat),l[i]? =some (y,sh)->y≠x
 |[],_,i,y,sh,h=>by simp at h
 |p::l,hl,i,y,sh,h=>by
  simp only [Qqa,Bool.and_eq_true,Bool.not_eq_true'] at hl
  cases i with
  |zero=>simp at h;subst h;exact Nat.ne_of_beq_eq_false hl.1
  |succ i=>exact Qqb hl.2 i y sh (by simpa using h)
theorem Q31: ∀{l:Bm},Qd5 l=true-> ∀(i j x sh sh':Nat),l[i]? =some (x,sh)->l[j]? =some (x,sh')->i=j
 |[],_,i,_,_,_,_,h,_=>by simp at h
 |p::l,hl,i,j,x,sh,sh',hi,hj=>by
  simp only [Qd5,Bool.and_eq_true] at hl
  cases i with
  |zero=>
   cases j with
   |zero=>rfl
   |succ j=>
    simp at hi;subst hi
    exact absurd rfl (Qqb hl.1 j x sh' (by simpa using hj))
  |succ i=>
   cases j with
   |zero=>
    simp at hj;subst hj
    exact absurd rfl (Qqb hl.1 i x sh (by simpa using hi))
   |succ j=>rw [Q31 hl.2 i j x sh sh' (by simpa using hi) (by simpa using hj)]
def Q8 (f:Bm) (g:Inj) (τ:Sig):Inj:=⟨fun b=>match f[b]? with
 |some (x,sh)=>(g x).map fun L=>shift L sh
 |none=>none,τ,fun _=>none⟩
theorem Qc7 (f:Bm) (g:Inj) (τ:Sig) (he:τ.ext=g.sig.ext):Qrw f g (Q8 f g τ):=by
 refine ⟨?_,he⟩
 intro b x sh L h1 h2
 simp [Q8,h1,h2]
theorem Qg5 {f:Bm} {g:Inj} {τ:Sig} {b:Nat} {M:Loc} (h:Q8 f g τ b=some M): ∃x sh L,f[b]? =some (x,sh)/\g x=some L/\M=shift L sh:=by
 simp only [Q8] at h
 split at h
 ·rename_i x sh hx
  simp only [Option.map_eq_some_iff] at h
  obtain ⟨L,hL,rfl⟩:=h
  exact ⟨x,sh,L,hx,hL,rfl⟩
 ·cases h
theorem Qjw {ng ng2:Cx} {f:Bm} {g:Inj} {τ:Sig} {H pats:List Blk} {w:World} {l:Asg} (hH:HRel ng g H w) (h0:ng2.n=0) (hG:ng2.Good τ) (hlen:f.length=pats.length) (htw:Qd5 f=true) (hm:Qe2 f H pats 0=some l) (hl:Fits g.sig τ l) (he:τ.ext=g.sig.ext):
  HRel ng2 (Q8 f g τ) pats w:=by
 have cell: ∀(i:Nat) (k:Blk),pats[i]? =some k->k≠.gone->(∃c e x sh c' m,k=.cells c e/\f[i]? =some (x,sh)/\H[x]? =some (.cells c' e)/\sh<=c'.length/\Qmf f c (c'.drop sh)=some m/\ ∀p,p∈m->p∈l)\/
   ∃s n cl e x sh,k=.lst s n cl e/\f[i]? =some (x,sh)/\strP s=true/\numP n=true/\ ∃p q,(∀r,r∈p->r∈l)/\(∀r,r∈q->r∈l)/\
    ((H[x]? =none/\Qv f s (.str .empty)=some p/\Qv f n (.int .i64 0)=some q)\/ ∃s' n' e',sh=0/\H[x]? =some (.lst s' n' cl e')/\(e=0\/e=e')/\Qv f s s'=some p/\Qv f n n'=some q):=by
  intro i k hi hk
  obtain ⟨m,h1,h2⟩:=Qvk pats 0 l hm i k hi
  rw [Nat.zero_add] at h1
  unfold Qme at h1
  split at h1
  ·exact absurd rfl hk
  ·cases h1
  ·cases h1
  ·cases h1
  ·cases h1
  ·rename_i s n cl e
   split at h1
   ·rename_i x sh hx
    split at h1
    ·rename_i hsn
     simp only [Bool.and_eq_true] at hsn
     split at h1
     ·rename_i s' n' cl' e' hc
      split at h1
      ·rename_i hcond
       obtain ⟨rfl,rfl,hee⟩:=hcond
       split at h1
       ·rename_i p q hp hq
        cases h1
        exact .inr ⟨s,n,cl,e,x,0,rfl,hx,hsn.1,hsn.2,p,q,fun r hr=>h2 r (by simp [hr]),fun r hr=>h2 r (by simp [hr]),.inr ⟨s',n',e',rfl,hc,hee,hp,hq⟩⟩
       ·cases h1
      ·cases h1
     ·rename_i hc
      split at h1
      ·rename_i p q hp hq
       cases h1
       exact .inr ⟨s,n,cl,e,x,sh,rfl,hx,hsn.1,hsn.2,p,q,fun r hr=>h2 r (by simp [hr]),fun r hr=>h2 r (by simp [hr]),.inl ⟨hc,hp,hq⟩⟩
      ·cases h1
     ·cases h1
    ·cases h1
   ·cases h1
  ·rename_i c e
   split at h1
   ·rename_i x sh hx
    split at h1
    ·rename_i c' e' hc
     split at h1
     ·rename_i hcond
      obtain ⟨rfl,hs⟩:=hcond
      exact .inl ⟨c,e,x,sh,c',m,rfl,hx,hc,hs,h1,h2⟩
     ·cases h1
    ·cases h1
   ·cases h1
 have live: ∀(i x sh:Nat) (L:Loc),Live pats i->f[i]? =some (x,sh)->g x=some L->Live H x:=by
  rintro i x sh L ⟨k,hk,hne⟩ hx hL
  rcases cell i k hk hne with ⟨c,e,x',sh',c',m,rfl,hx',hc,_⟩|⟨s,n,cl,e,x',sh',rfl,hx',_,_,p,q,_,_,hh⟩
  ·rw [hx] at hx';cases hx'
   exact ⟨_,hc,by simp⟩
  ·rw [hx] at hx';cases hx'
   rcases hh with ⟨h1,_⟩|⟨s',n',_,_,h1,_⟩
   ·have:=(hH.dom x L hL).1
    rw [List.getElem?_eq_none_iff] at h1
    omega
   ·exact ⟨_,h1,by simp⟩
 refine ⟨?_,?_,?_,fun i hi=>by omega,hG,⟨?_,(fun i X hi=>by cases hi),fun i X hi hX=>hH.frz.top i X hi (by rw [<-he];exact hX)⟩⟩
 rotate_left 3
 ·intro i X hi hlen'
  have hi:g.sig.ext i=some X:=by rw [<-he];exact hi
  refine ⟨(hH.frz.row i X hi hlen').1,?_⟩
  intro j M hj lj
  obtain ⟨x,sh,L,h1,h2,rfl⟩:=Qg5 hj
  exact (hH.frz.row i X hi hlen').2 x L h2 (live j x sh L lj h1 h2)
 ·intro i M hi
  obtain ⟨x,sh,L,h1,h2,rfl⟩:=Qg5 hi
  exact ⟨by rw [<-hlen];exact (List.getElem?_eq_some_iff.1 h1).1,(hH.dom x L h2).2⟩
 ·intro i j M N hi hj hb li lj
  obtain ⟨x,sh,L,h1,h2,rfl⟩:=Qg5 hi
  obtain ⟨x',sh',L',h1',h2',rfl⟩:=Qg5 hj
  have:=hH.inj x x' L L' h2 h2' hb (live i x sh L li h1 h2) (live j x' sh' L' lj h1' h2')
  subst this
  exact Q31 htw i j x sh sh' h1 h1'
 ·intro i k hi hk
  rcases cell i k hi hk with ⟨c,e,x,sh,c',m,rfl,hx,hc,hs,hpre,hsub⟩|⟨s,n,cl,e,x,sh,rfl,hx,hsp,hnp,p,q,hp,hq,hh⟩
  ·obtain ⟨L,hL,C,fr,b1,b2,b3,b4,b5⟩:=hH.blk x _ hc (by simp)
   refine .inr ⟨shift L sh,(Qc7 f g τ he).1 i x sh L hx hL,C,fr,b1,by simp only [shift];omega,b3,?_,?_⟩
   ·have hle:c.length<=(c'.drop sh).length:=by
     rcases Nat.lt_or_ge (c'.drop sh).length c.length with h9|h9
     ·have hget:c[(c'.drop sh).length]? =some c[(c'.drop sh).length]:=by simp
      obtain ⟨b,_,hb,_⟩:=Qvm c _ m hpre _ _ hget
      have:=(List.getElem?_eq_some_iff.1 hb).1
      omega
     ·exact h9
    simp only [List.length_drop] at hle
    simp only [shift];omega
   ·intro j a hj
    obtain ⟨b,m',q1,q2,q3⟩:=Qvm c _ m hpre j a hj
    rw [List.getElem?_drop] at q1
    obtain ⟨v,r1,r2,r3⟩:=b5 (sh+j) b q1
    refine ⟨v,?_,Qb2 (Qc7 f g τ he) a b m' v q2 (fun p hp=>hl p (hsub p (q3 p hp))) r2,r3⟩
    simpa [shift,Nat.add_assoc] using r1
  ·have hfp:Fits g.sig τ p:=fun r hr=>hl r (hp r hr)
   have hfq:Fits g.sig τ q:=fun r hr=>hl r (hq r hr)
   rcases hh with ⟨h1,m1,m2⟩|⟨s',n',e8,rfl,h1,hee,m1,m2⟩
   ·refine .inl ⟨s,n,cl,e,rfl,?_,?_⟩
    ·exact Qw7 hsp (Qb2 (Qc7 f g τ he) s _ p _ m1 hfp (.str _))
    ·exact Qg6 hnp (Qb2 (Qc7 f g τ he) n _ q _ m2 hfq (.int _ _))
   ·rcases hH.blk0 x _ h1 (by simp) with ⟨s2,n2,cl2,e2,hk2,d1,d2⟩|⟨L,hL,S,N,C,fr,e9,b1,b2,b3,b4,b5,b6,b7,b8⟩
    ·cases hk2
     refine .inl ⟨s,n,cl,e,rfl,?_,?_⟩
     ·exact Qw7 hsp (Qb2 (Qc7 f g τ he) s s' p _ m1 hfp (Q46 d1))
     ·exact Qg6 hnp (Qb2 (Qc7 f g τ he) n n' q _ m2 hfq (Qmv d2))
    ·refine .inr ⟨shift L 0,(Qc7 f g τ he).1 i x 0 L hx hL,S,N,C,fr,e9,?_,?_,b3,b4,by simp only [shift];omega,⟨fun h9=>hee.elim (fun h=>absurd h h9) (fun h=>by subst h;have:=b6.1 h9;exact ⟨this.1,this.2.1,fun i X hi hX=>this.2.2 i X hi (by rw [<-he];exact hX)⟩),fun i X hi hX hb=>b6.2 i X hi (by rw [<-he];exact hX) hb⟩,by simp only [shift];omega,fun m j hm hj=> ?_⟩
     ·exact Qw7 hsp (Qb2 (Qc7 f g τ he) s s' p _ m1 hfp (Q46 b1))
     ·exact Qg6 hnp (Qb2 (Qc7 f g τ he) n n' q _ m2 hfq (Qmv b2))
     ·obtain ⟨v,v1,v2,v3⟩:=b8 m j hm hj
      refine ⟨v,by simpa [shift] using v1,?_,v3⟩
      rcases Qiq cl j (S.data.toList.drop (m*rsz cl)) with ⟨k',n3,_,e3⟩|⟨_,b',e3⟩
      ·have:Qo cl S m j=.int k' n3:=e3
       rw [this] at v2⊢
       cases v2;exact .int _ _
      ·have:Qo cl S m j=.bool b':=e3
       rw [this] at v2⊢
       cases v2;exact .bool _
def cx0 (tab:TabF):Cx:={n:=0,look:=fun _=>none,fact:=fun _=>none,tab:=tab}
theorem Qgk {tab:TabF} {σ:Sig} (h:σ.tab=tab):(cx0 tab).Good σ:=
 ⟨fun _ _ h=>by simp [cx0] at h,fun _ _ h=>by simp [cx0] at h,fun _ _ h=>by simp [cx0] at h,h,fun _ _ _ h=>by simp [cx0] at h,fun _ _ _ _ h=>by simp [cx0] at h,fun _ _ _ _ h=>by simp [cx0] at h,fun _ _ h=>by simp [cx0] at h,fun _ _ h=>by simp [cx0] at h,fun _ _ _ _ h=>by simp [cx0] at h,trivial⟩
structure Fra where
 w:World
 own:Nat->Prop
 new: ∀b,w.heap.size<=b->own b
 pin:Nat->Option (Option Loc):=fun _=>none
def Fra.of (w:World):Fra:={w:=w,own:=fun b=>w.heap.size<=b,new:=fun _ h=>h}
instance:Coe World Fra:=⟨Fra.of⟩
structure BelowF (f:Fra) (w:World):Prop where
 os:w.os=f.w.os
 tape:w.tape=f.w.tape
 output:w.output=f.w.output
 size:f.w.heap.size<=w.heap.size
 frame: ∀b,b<f.w.heap.size-> ¬f.own b->w.heap[b]? =f.w.heap[b]?
theorem BelowF.below {w0 w:World} (h:BelowF (Fra.of w0) w):RowKit.Below w0.heap.size w0 w:=
 ⟨h.os,h.tape,h.output,h.size,fun k hk=>h.frame k hk (by show¬w0.heap.size<=k;omega)⟩
theorem BelowF.refl (f:Fra):BelowF f f.w:=⟨rfl,rfl,rfl,Nat.le_refl _,fun _ _ _=>rfl⟩
structure At (tab:TabF) (s:Shape) (n:Nat) (σ:Sig) (w0:Fra) (a:Act) (w:World):Prop where
 ex: ∃g:Inj,g.sig=σ/\HRel (cx0 tab) g s.heap w/\(∀p,p∈s.t-> ∃u,a.tmps[p.1]? =some u/\VRel g p.2 u)/\(∀i L,g i=some L->w0.own L.blk)/\ ∀i x,w0.pin i=some x->i<s.heap.length/\g i=x
 below:BelowF w0 w
 size:a.tmps.size=n
 defers:a.defers=[]
inductive SEx where
 |normal
 |exit (i:Nat)
 |ret
 |pan (v:AVal)
def Qbw (τ:Sig):SEx->Exit->Prop
 |.normal,.normal=>True
 |.exit i,.exit j=>i=j
 |.ret,.ret=>True
 |.pan v,.panic ch=> ∃u,ch=[{v:=u,recovered:=false}]/\ ∀g:Inj,g.sig=τ->VRel g v u
 |_,_=>False
def Qc5:Asg->Nat->Option AVal
 |[],_=>none
 |p::l,i=>match Nat.beq p.1 i with
  |true=>some p.2
  |false=>Qc5 l i
def Qgj (l:Asg):List (Nat×AVal)->Bool
 |[]=>true
 |p::r=>(match Qc5 l p.1 with
  |some y=>Qia p.2 y
  |none=>false)&&Qgj l r
def iOf:AVal->Int
 |.int _ n=>n
 |_=>0
def bOf:AVal->Bool
 |.bool b=>b
 |_=>false
def sOf:AVal->ByteArray
 |.str s=>s
 |_=> .empty
def valS (σ:Sig):AVal->AVal
 |.rptr i ix j=>match σ.ext i with
  |some X=>X.val (iOf (den σ ix)).toNat j
  |none=> .nilptr
 |a=>den σ a
def asgS (σ:Sig) (l:Asg):Sig where
 ival:=fun i=>match Qc5 l i with
  |some x=>iOf (valS σ x)
  |none=>0
 bval:=fun i=>match Qc5 l i with
  |some x=>bOf (valS σ x)
  |none=>false
 sval:=fun i=>match Qc5 l i with
  |some x=>sOf (valS σ x)
  |none=> .empty
 tab:=σ.tab
 ext:=σ.ext
theorem Qsl {l:Asg}: ∀{r:List (Nat×AVal)},Qgj l r=true-> ∀p,p∈r->Qc5 l p.1=some p.2
 |[],_,p,hp=>by cases hp
 |q::r,h,p,hp=>by
  simp only [Qgj,Bool.and_eq_true] at h
  rcases List.mem_cons.1 hp with rfl|hp
  ·have h1:=h.1
   split at h1
   ·rename_i y hy;rw [hy,Qm1 h1]
   ·cases h1
  ·exact Qsl h.2 p hp
theorem Qzt {x:Asg} (y:Asg) {i:Nat} {v:AVal} (h:Qc5 x i=some v):Qc5 (x++y) i=some v:=by
 induction x with
 |nil=>simp [Qc5] at h
 |cons p l ih=>
  simp only [List.cons_append,Qc5] at h⊢
  split at h
  ·exact h
  ·exact ih h
theorem Q92 {σ:Sig} {l r:Asg} (h:Qgj l r=true):Fits σ (asgS σ l) r:=by
 intro p hp
 have:=Qsl h p hp
 have hv: ∀a,den σ p.2=a->(∀i ix j,p.2=.rptr i ix j->False)->valS σ p.2=a:=by
  intro a ha hne
  unfold valS
  split
  ·rename_i i ix j he;exact (hne i ix j he).elim
  ·exact ha
 refine ⟨fun k n hn=> ?_,fun b hn=> ?_,fun s hn=> ?_⟩
 ·rw [show (asgS σ l).ival p.1=iOf (valS σ p.2) by simp only [asgS,this],hv _ hn (fun i ix j he=>by rw [he] at hn;cases hn)];rfl
 ·rw [show (asgS σ l).bval p.1=bOf (valS σ p.2) by simp only [asgS,this],hv _ hn (fun i ix j he=>by rw [he] at hn;cases hn)];rfl
 ·rw [show (asgS σ l).sval p.1=sOf (valS σ p.2) by simp only [asgS,this],hv _ hn (fun i ix j he=>by rw [he] at hn;cases hn)];rfl
def Qm2 (x:SEx) (y:Ex) (l:Asg):Bool:=
 match x,y with
 |.normal,.normal=>true
 |.exit i,.exit j=>Nat.beq i j
 |.ret,.ret=>true
 |.pan v,.pan u=>match Qv [] v u with
  |some r=>Qgj l r
  |none=>false
 |_,_=>false
theorem Qbit {g:Inj} {x:SEx} {y:Ex} {e:Exit} {l:Asg} (h:Qm2 x y l=true) (hr:Qbj g y e):Qbw (asgS g.sig l) x e:=by
 cases x<;>cases y<;>simp only [Qm2,Bool.false_eq_true] at h<;>cases e<;>simp only [Qbj] at hr<;>simp only [Qbw]
 ·have:=Nat.eq_of_beq_eq_true h
  omega
 ·split at h
  ·rename_i r hr0
   obtain ⟨u,rfl,hu⟩:=hr
   refine ⟨u,rfl,fun g2 hg2=>Qb2 (f:=[]) ⟨fun b x sh L hb=>by simp at hb,by rw [hg2];rfl⟩ _ _ r u hr0 ?_ hu⟩
   rw [hg2]
   exact Q92 h
  ·cases h
theorem Qzx {σ:Sig} {l:Asg} (ex:Asg) (h:Qgj l l=true):Fits σ (asgS σ (l++ex)) l:=by
 intro p hp
 have:=Qzt ex (Qsl h p hp)
 have hv: ∀a,den σ p.2=a->(∀i ix j,p.2=.rptr i ix j->False)->valS σ p.2=a:=by
  intro a ha hne
  unfold valS
  split
  ·rename_i i ix j he;exact (hne i ix j he).elim
  ·exact ha
 refine ⟨fun k n hn=> ?_,fun b hn=> ?_,fun s hn=> ?_⟩
 ·rw [show (asgS σ (l++ex)).ival p.1=iOf (valS σ p.2) by simp only [asgS,this],hv _ hn (fun i ix j he=>by rw [he] at hn;cases hn)];rfl
 ·rw [show (asgS σ (l++ex)).bval p.1=bOf (valS σ p.2) by simp only [asgS,this],hv _ hn (fun i ix j he=>by rw [he] at hn;cases hn)];rfl
 ·rw [show (asgS σ (l++ex)).sval p.1=sOf (valS σ p.2) by simp only [asgS,this],hv _ hn (fun i ix j he=>by rw [he] at hn;cases hn)];rfl
def Qj1:Asg->Asg->Bool
 |[],[]=>true
 |p::l,q::m=>Nat.beq p.1 q.1&&Qia p.2 q.2&&Qj1 l m
 |_,_=>false
theorem Q5t: ∀{l m:Asg},Qj1 l m=true->l=m
 |[],[],_=>rfl
 |(a,b)::l,(c,d)::m,h=>by
  simp only [Qj1,Bool.and_eq_true] at h
  obtain ⟨⟨h1,h2⟩,h3⟩:=h
  have:=Nat.eq_of_beq_eq_true h1
  rw [Q5t h3,Qm1 h2,this]
 |[],_::_,h=>by simp [Qj1] at h
 |_::_,[],h=>by simp [Qj1] at h
def Qmg (f:Bm) (s:Shape) (t:Tm) (H:List Blk) (l:Asg):Bool:=
 match Qmh f t s.t,Qe2 f H s.heap 0 with
 |some x,some y=>Qj1 (x++y) l&&Nat.beq f.length s.heap.length&&Qd5 f
 |_,_=>false
theorem Qbfe {f:Bm} {s:Shape} {t:Tm} {H:List Blk} {l:Asg} (h:Qmg f s t H l=true): ∃x y,Qmh f t s.t=some x/\Qe2 f H s.heap 0=some y/\l=x++y/\f.length=s.heap.length/\Qd5 f=true:=by
 unfold Qmg at h
 split at h
 ·rename_i x y hx hy
  simp only [Bool.and_eq_true] at h
  obtain ⟨⟨h1,h2⟩,h3⟩:=h
  exact ⟨x,y,hx,hy,(Q5t h1).symm,Nat.eq_of_beq_eq_true h2,h3⟩
 ·cases h
def Qqc:AVal->Bool
 |.rptr _ _ _=>false
 |_=>true
def Qkt (l:Asg):List (Nat×AVal)->Bool
 |[]=>true
 |p::r=>(match Qc5 l p.1 with
  |some y=>Qia p.2 y||(Qqc p.2&&Qqc y)
  |none=>false)&&Qkt l r
def EqsL (σ:Sig) (l:Asg):List (Nat×AVal)->Prop
 |[]=>True
 |p::r=>match Qc5 l p.1 with
  |some y=>match Qia p.2 y with
   |true=>EqsL σ l r
   |false=>den σ p.2=den σ y/\EqsL σ l r
  |none=>EqsL σ l r
theorem Q6r {σ:Sig} {a:AVal} (h:Qqc a=true):valS σ a=den σ a:=by
 cases a<;>first|rfl|simp [Qqc] at h
theorem Qzj {σ:Sig} {l:Asg}: ∀{r:List (Nat×AVal)},Qkt l r=true->EqsL σ l r-> ∀p,p∈r-> ∃y,Qc5 l p.1=some y/\valS σ p.2=valS σ y
 |[],_,_,p,hp=>by cases hp
 |q::r,h,he,p,hp=>by
  simp only [Qkt,Bool.and_eq_true] at h
  obtain ⟨h1,h2⟩:=h
  split at h1
  ·rename_i y hy
   simp only [EqsL,hy] at he
   have hr:EqsL σ l r:=by
    split at he
    ·exact he
    ·exact he.2
   rcases List.mem_cons.1 hp with rfl|hp
   ·refine ⟨y,hy,?_⟩
    split at he
    ·rename_i hs;rw [Qm1 hs]
    ·rename_i hs
     rw [hs,Bool.false_or,Bool.and_eq_true] at h1
     rw [Q6r h1.1,Q6r h1.2];exact he.1
   ·exact Qzj h2 hr p hp
  ·cases h1
theorem Q91 {σ:Sig} {l:Asg} (ex:Asg) (h:Qkt l l=true) (he:EqsL σ l l):Fits σ (asgS σ (l++ex)) l:=by
 intro p hp
 obtain ⟨y,h1,h2⟩:=Qzj h he p hp
 have:=Qzt ex h1
 have hv: ∀a,den σ p.2=a->(∀i ix j,p.2=.rptr i ix j->False)->valS σ p.2=a:=by
  intro a ha hne
  unfold valS
  split
  ·rename_i i ix j he;exact (hne i ix j he).elim
  ·exact ha
 refine ⟨fun k n hn=> ?_,fun b hn=> ?_,fun s hn=> ?_⟩
 ·rw [show (asgS σ (l++ex)).ival p.1=iOf (valS σ p.2) by simp only [asgS,this,h2],hv _ hn (fun i ix j he=>by rw [he] at hn;cases hn)];rfl
 ·rw [show (asgS σ (l++ex)).bval p.1=bOf (valS σ p.2) by simp only [asgS,this,h2],hv _ hn (fun i ix j he=>by rw [he] at hn;cases hn)];rfl
 ·rw [show (asgS σ (l++ex)).sval p.1=sOf (valS σ p.2) by simp only [asgS,this,h2],hv _ hn (fun i ix j he=>by rw [he] at hn;cases hn)];rfl
def idF:Nat->Nat->Bm
 |0,_=>[]
 |n+1,i=>(i,0)::idF n (i+1)
def TT.skel (n:Nat):Nat->Nat->Nat->TT
 |0,_,_=> .e
 |k+1,o,s=>match Nat.blt o n with
  |true=> .n (TT.skel n k (o+s) (2*s)) none (TT.skel n k (o+2*s) (2*s))
  |false=> .e
theorem TT.get_skel (n:Nat): ∀(k o s i:Nat),(TT.skel n k o s).get i=none
 |0,_,_,_=>rfl
 |k+1,o,s,i=>by
  simp only [TT.skel]
  split
  ·cases i with
   |zero=>rfl
   |succ i=>
    simp only [TT.get]
    split<;>exact TT.get_skel n k _ _ _
  ·rfl
def Qqx (t:TT):List (Nat×AVal)->TT
 |[]=>t
 |p::l=>Qqx (t.put p.1 p.2) l
theorem Qv7 {i:Nat} {v:AVal}: ∀(l:List (Nat×AVal)) (t:TT),(Qqx t l).get i=some v->(i,v)∈l\/t.get i=some v
 |[],_,h=> .inr h
 |p::l,t,h=>by
  rcases Qv7 l _ h with h|h
  ·exact .inl (List.mem_cons_of_mem _ h)
  ·rcases TT.get_put t p.1 i p.2 v h with ⟨rfl,rfl⟩|⟨_,h⟩
   ·exact .inl (by simp)
   ·exact .inr h
def tmOf (s:Shape) (n:Nat):Tm:=⟨n,Qqx (TT.skel n 12 0 1) s.t,[]⟩
theorem Q6n {s:Shape} {n i:Nat} {v:AVal} (h:(tmOf s n).get i=some v):(i,v)∈s.t:=by
 rcases Qv7 _ _ (Tm.get_tr h) with h|h
 ·exact h
 ·rw [TT.get_skel] at h;cases h
def Qfs (m:Nat):Asg->Bool
 |[]=>true
 |p::l=>(match p.2 with
  |.symi _ j=>Nat.beq p.1 j&&Nat.blt j m
  |.symb j=>Nat.beq p.1 j&&Nat.blt j m
  |.syms j=>Nat.beq p.1 j&&Nat.blt j m
  |_=>false)&&Qfs m l
def idOk (s:Shape) (m:Nat):Bool:=
 match Qdp (idF s.heap.length 0) (s.t.map (·.2)) (s.t.map (·.2)),Qe2 (idF s.heap.length 0) s.heap s.heap 0 with
 |some x,some y=>Qfs m x&&Qfs m y&&Qd5 (idF s.heap.length 0)
 |_,_=>false
theorem Qlj: ∀(n i:Nat),(idF n i).length=n
 |0,_=>rfl
 |n+1,i=>by simp [idF,Qlj n]
theorem Qli: ∀{n i b:Nat},b<n->(idF n i)[b]? =some (i+b,0)
 |0,_,_,h=>by omega
 |n+1,i,0,h=>by simp [idF]
 |n+1,i,b+1,h=>by
  have:=Qli (n:=n) (i:=i+1) (b:=b) (by omega)
  rw [show i+(b+1)=i+1+b by omega];simpa [idF] using this
theorem Qlh {m:Nat} {σ τ:Sig} (h:Agree m σ τ): ∀{l:Asg},Qfs m l=true->Fits σ τ l
 |[],_=>fun p hp=>by cases hp
 |q::l,hl=>by
  simp only [Qfs,Bool.and_eq_true] at hl
  intro p hp
  rcases List.mem_cons.1 hp with rfl|hp
  ·have h1:=hl.1
   split at h1
   all_goals first
    |cases h1
    |skip
   all_goals
    rename_i hx
    simp only [Bool.and_eq_true] at h1
    have e:=Nat.eq_of_beq_eq_true h1.1
    have lt:p.1<m:=by rw [e];simpa using h1.2
    have hv:=h.val _ lt
    rw [hx,<-e]
    refine ⟨fun k n hn=> ?_,fun b hn=> ?_,fun s hn=> ?_⟩<;>simp only [den,AVal.int.injEq,AVal.bool.injEq,AVal.str.injEq,reduceCtorEq] at hn
    first
     |exact hv.1.symm.trans hn.2
     |exact hv.2.1.symm.trans hn
     |exact hv.2.2.symm.trans hn
  ·exact Qlh h hl.2 p hp
theorem Qvl {f:Bm}: ∀(c d:List AVal) (l:Asg),Qdp f c d=some l->c=d-> ∀a,a∈c-> ∃m,Qv f a a=some m/\ ∀p,p∈m->p∈l
 |[],_,_,_,_,a,ha=>by cases ha
 |x::c,d,l,h,he,a,ha=>by
  subst he
  simp only [Qdp] at h
  split at h
  ·rename_i y z hy hz
   cases h
   rcases List.mem_cons.1 ha with rfl|ha
   ·exact ⟨y,hy,fun p hp=>by simp [hp]⟩
   ·obtain ⟨m,h1,h2⟩:=Qvl c c z hz rfl a ha
    exact ⟨m,h1,fun p hp=>by simp [h2 p hp]⟩
  ·cases h
inductive Sv where
 |leaf (x:SEx) (s:Shape) (f:Bm) (l ex:Asg)
 |leafE (x:SEx) (s:Shape) (f:Bm) (l ex:Asg)
 |req (o:Ob) (v:Sv)
 |dead
 |node (i:Nat) (yes no:Sv)
 |pick (i:Nat) (n:Int) (yes no:Sv)
def noDf:List ADef->Bool
 |[]=>true
 |_=>false
def okS:Tree (Ex×Tm×Hp)->Sv->Bool
 |.leaf y,.leaf x s f l ex=>Qm2 x y.1 (l++ex)&&(noDf y.2.1.df&&(Qmg f s y.2.1 y.2.2.heap l&&Qgj l l))
 |.leaf y,.leafE x s f l ex=>Qm2 x y.1 (l++ex)&&(noDf y.2.1.df&&(Qmg f s y.2.1 y.2.2.heap l&&Qkt l l))
 |_,.dead=>true
 |.node i y n,.node j y' n'=>Nat.beq i j&&(okS y y'&&okS n n')
 |.pick i k y n,.pick j k' y' n'=>Nat.beq i j&&(decide (k=k')&&(okS y y'&&okS n n'))
 |.req o t,.req o' v=>eqOb o o'&&okS t v
 |.or y n,v=>okS y v&&okS n v
 |_,_=>false
def segs (σ:Sig) (Q:SEx->Shape->Sig->Prop):Sv->List Fact->Prop
 |.leaf x s _ l ex,F=>Ql σ F->Q x s (asgS σ (l++ex))
 |.leafE x s _ l ex,F=>Ql σ F->EqsL σ l l/\Q x s (asgS σ (l++ex))
 |.req o v,F=>(Ql σ F->o.Sat σ)/\segs σ Q v F
 |.dead,F=> ¬Ql σ F
 |.node i y n,F=>segs σ Q y (.tru i true::F)/\segs σ Q n (.tru i false::F)
 |.pick i k y n,F=>segs σ Q y (.isn i k::F)/\segs σ Q n (.non i k::F)
theorem Qge {a b:Bool} (h:(a&&b)=true):a=true/\b=true:=by rwa [Bool.and_eq_true] at h
def Qo1 (o:Option (Nat×Nat)) (i:Nat):Bool:=
 match o with
 |some (x,sh)=>Nat.beq x i&&Nat.beq sh 0
 |none=>false
theorem Q0s {o:Option (Nat×Nat)} {i:Nat} (h:Qo1 o i=true):o=some (i,0):=by
 unfold Qo1 at h
 split at h
 ·rename_i x sh
  rw [Bool.and_eq_true] at h
  rw [Nat.eq_of_beq_eq_true h.1,Nat.eq_of_beq_eq_true h.2]
 ·cases h
def Qgx (R:Bm->Prop):Sv->Prop
 |.leaf _ _ f _ _=>R f
 |.leafE _ _ f _ _=>R f
 |.req _ v=>Qgx R v
 |.dead=>True
 |.node _ y n=>Qgx R y/\Qgx R n
 |.pick _ _ y n=>Qgx R y/\Qgx R n
def pinS (i:Nat):Sv->Bool
 |.leaf _ _ f _ _=>Qo1 f[i]? i
 |.leafE _ _ f _ _=>Qo1 f[i]? i
 |.req _ v=>pinS i v
 |.dead=>true
 |.node _ y n=>pinS i y&&pinS i n
 |.pick _ _ y n=>pinS i y&&pinS i n
theorem Qjb {pin:Nat->Prop}: ∀{V:Sv},(∀i,pin i->pinS i V=true)->Qgx (fun f=> ∀i,pin i->f[i]? =some (i,0)) V
 |.leaf _ _ f _ _,h=>fun i hi=>Q0s (h i hi)
 |.leafE _ _ f _ _,h=>fun i hi=>Q0s (h i hi)
 |.req _ v,h=>Qjb (V:=v) fun i hi=>h i hi
 |.dead,_=>trivial
 |.node _ y n,h=>⟨Qjb fun i hi=>(Qge (h i hi)).1,Qjb fun i hi=>(Qge (h i hi)).2⟩
 |.pick _ _ y n,h=>⟨Qjb fun i hi=>(Qge (h i hi)).1,Qjb fun i hi=>(Qge (h i hi)).2⟩
def EndS (σ:Sig) (R:Bm->Prop) (Q:SEx->Shape->Sig->Prop) (y:Ex×Tm×Hp):Prop:=
 ∃x s f l ex,Qm2 x y.1 (l++ex)=true/\y.2.1.df=[]/\Qmg f s y.2.1 y.2.2.heap l=true/\Fits σ (asgS σ (l++ex)) l/\Q x s (asgS σ (l++ex))/\R f
theorem Qcv {σ:Sig} {R:Bm->Prop} {Q:SEx->Shape->Sig->Prop}: ∀{T:Tree (Ex×Tm×Hp)} {V:Sv} {F:List Fact},okS T V=true->Qgx R V/\segs σ Q V F->Ql σ F->Sat σ (EndS σ R Q) T
 |T,.dead,F,_,hv,hF=>absurd hF hv.2
 |.leaf y,.leaf x s f l ex,F,h,hv,hF=>by
  simp only [okS,Bool.and_eq_true] at h
  refine ⟨x,s,f,l,ex,h.1,?_,h.2.2.1,Qzx ex h.2.2.2,hv.2 hF,hv.1⟩
  have:=h.2.1
  unfold noDf at this
  split at this
  ·assumption
  ·cases this
 |.leaf y,.leafE x s f l ex,F,h,hv,hF=>by
  simp only [okS,Bool.and_eq_true] at h
  obtain ⟨hv1,hv2⟩:=hv.2 hF
  refine ⟨x,s,f,l,ex,h.1,?_,h.2.2.1,Q91 ex h.2.2.2 hv1,hv2,hv.1⟩
  have:=h.2.1
  unfold noDf at this
  split at this
  ·assumption
  ·cases this
 |.node i y n,.node j y' n',F,h,hv,hF=>by
  simp only [okS,Bool.and_eq_true] at h
  have:=Nat.eq_of_beq_eq_true h.1
  subst this
  exact ⟨fun e=>Qcv h.2.1 ⟨hv.1.1,hv.2.1⟩ (Qbd (.tru _ _) e hF),fun e=>Qcv h.2.2 ⟨hv.1.2,hv.2.2⟩ (Qbd (.tru _ _) e hF)⟩
 |.pick i k y n,.pick j k' y' n',F,h,hv,hF=>by
  simp only [okS,Bool.and_eq_true,decide_eq_true_eq] at h
  have:=Nat.eq_of_beq_eq_true h.1
  subst this
  obtain ⟨rfl,h1,h2⟩:=h.2
  exact ⟨fun e=>Qcv h1 ⟨hv.1.1,hv.2.1⟩ (Qbd (.isn _ _) e hF),fun e=>Qcv h2 ⟨hv.1.2,hv.2.2⟩ (Qbd (.non _ _) e hF)⟩
 |.req o t,.req o' v,F,h,hv,hF=>by
  simp only [okS,Bool.and_eq_true] at h
  have:=Qi2 _ _ h.1
  subst this
  exact ⟨hv.2.1 hF,Qcv h.2 ⟨hv.1,hv.2.2⟩ hF⟩
 |.or y n,.leaf _ _ _ _ _,F,h,hv,hF=>by
  simp only [okS,Bool.and_eq_true] at h
  exact ⟨Qcv h.1 hv hF,Qcv h.2 hv hF⟩
 |.or y n,.leafE _ _ _ _ _,F,h,hv,hF=>by
  simp only [okS,Bool.and_eq_true] at h
  exact ⟨Qcv h.1 hv hF,Qcv h.2 hv hF⟩
 |.or y n,.node i a b,F,h,hv,hF=>by
  simp only [okS,Bool.and_eq_true] at h
  exact ⟨Qcv h.1 hv hF,Qcv h.2 hv hF⟩
 |.or y n,.pick i k a b,F,h,hv,hF=>by
  simp only [okS,Bool.and_eq_true] at h
  exact ⟨Qcv h.1 hv hF,Qcv h.2 hv hF⟩
 |.or y n,.req o v,F,h,hv,hF=>by
  simp only [okS,Bool.and_eq_true] at h
  exact ⟨Qcv h.1 hv hF,Qcv h.2 hv hF⟩
 |.leaf _,.node _ _ _,_,h,_,_=>by simp [okS] at h
 |.leaf _,.pick _ _ _ _,_,h,_,_=>by simp [okS] at h
 |.leaf _,.req _ _,_,h,_,_=>by simp [okS] at h
 |.node _ _ _,.leaf _ _ _ _ _,_,h,_,_=>by simp [okS] at h
 |.node _ _ _,.leafE _ _ _ _ _,_,h,_,_=>by simp [okS] at h
 |.node _ _ _,.pick _ _ _ _,_,h,_,_=>by simp [okS] at h
 |.node _ _ _,.req _ _,_,h,_,_=>by simp [okS] at h
 |.pick _ _ _ _,.leaf _ _ _ _ _,_,h,_,_=>by simp [okS] at h
 |.pick _ _ _ _,.leafE _ _ _ _ _,_,h,_,_=>by simp [okS] at h
 |.pick _ _ _ _,.node _ _ _,_,h,_,_=>by simp [okS] at h
 |.pick _ _ _ _,.req _ _,_,h,_,_=>by simp [okS] at h
 |.req _ _,.leaf _ _ _ _ _,_,h,_,_=>by simp [okS] at h
 |.req _ _,.leafE _ _ _ _ _,_,h,_,_=>by simp [okS] at h
 |.req _ _,.node _ _ _,_,h,_,_=>by simp [okS] at h
 |.req _ _,.pick _ _ _ _,_,h,_,_=>by simp [okS] at h
 |.dead,.leaf _ _ _ _ _,_,h,_,_=>by simp [okS] at h
 |.dead,.leafE _ _ _ _ _,_,h,_,_=>by simp [okS] at h
 |.dead,.node _ _ _,_,h,_,_=>by simp [okS] at h
 |.dead,.pick _ _ _ _,_,h,_,_=>by simp [okS] at h
 |.dead,.req _ _,_,h,_,_=>by simp [okS] at h
inductive Sw where
 |run (v:Sv)
 |dead
 |node (i:Nat) (yes no:Sw)
 |pick (i:Nat) (n:Int) (yes no:Sw)
def okSw (run:List Fact->Tree (Ex×Tm×Hp)):Sw->List Fact->Bool
 |.run v,F=>okS (run F) v
 |.dead,_=>true
 |.node i y n,F=>okSw run y (.tru i true::F)&&okSw run n (.tru i false::F)
 |.pick i k y n,F=>okSw run y (.isn i k::F)&&okSw run n (.non i k::F)
def Qds (σ:Sig) (Q:SEx->Shape->Sig->Prop):Sw->List Fact->Prop
 |.run v,F=>segs σ Q v F
 |.dead,F=> ¬Ql σ F
 |.node i y n,F=>Qds σ Q y (.tru i true::F)/\Qds σ Q n (.tru i false::F)
 |.pick i k y n,F=>Qds σ Q y (.isn i k::F)/\Qds σ Q n (.non i k::F)
def Qjc (R:Bm->Prop):Sw->Prop
 |.run v=>Qgx R v
 |.dead=>True
 |.node _ y n=>Qjc R y/\Qjc R n
 |.pick _ _ y n=>Qjc R y/\Qjc R n
def pinW (i:Nat):Sw->Bool
 |.run v=>pinS i v
 |.dead=>true
 |.node _ y n=>pinW i y&&pinW i n
 |.pick _ _ y n=>pinW i y&&pinW i n
theorem Qlt {pin:Nat->Prop}: ∀{V:Sw},(∀i,pin i->pinW i V=true)->Qjc (fun f=> ∀i,pin i->f[i]? =some (i,0)) V
 |.run v,h=>Qjb (V:=v) fun i hi=>h i hi
 |.dead,_=>trivial
 |.node _ y n,h=>⟨Qlt fun i hi=>(Qge (h i hi)).1,Qlt fun i hi=>(Qge (h i hi)).2⟩
 |.pick _ _ y n,h=>⟨Qlt fun i hi=>(Qge (h i hi)).1,Qlt fun i hi=>(Qge (h i hi)).2⟩
theorem Qmo {σ:Sig} {R:Bm->Prop} {Q:SEx->Shape->Sig->Prop} {run:List Fact->Tree (Ex×Tm×Hp)}: ∀{W:Sw} {F:List Fact},okSw run W F=true->Qjc R W/\Qds σ Q W F->Ql σ F-> ∃F',Ql σ F'/\Sat σ (EndS σ R Q) (run F')
 |.run v,F,h,hv,hF=>⟨F,hF,Qcv h hv hF⟩
 |.dead,_,_,hv,hF=>absurd hF hv.2
 |.node i y n,F,h,hv,hF=>by
  simp only [okSw,Bool.and_eq_true] at h
  cases hb:σ.bval i with
  |true=>exact Qmo h.1 ⟨hv.1.1,hv.2.1⟩ (Qbd (.tru i true) hb hF)
  |false=>exact Qmo h.2 ⟨hv.1.2,hv.2.2⟩ (Qbd (.tru i false) hb hF)
 |.pick i k y n,F,h,hv,hF=>by
  simp only [okSw,Bool.and_eq_true] at h
  rcases Classical.em (σ.ival i=k) with hb|hb
  ·exact Qmo h.1 ⟨hv.1.1,hv.2.1⟩ (Qbd (.isn i k) hb hF)
  ·exact Qmo h.2 ⟨hv.1.2,hv.2.2⟩ (Qbd (.non i k) hb hF)
def Qcs (P:Program):List Code->(Act->World->Prop)->(Exit->Act->World->Prop)->Act->World->Prop
 |[],K,_=>K
 |x::l,K,Q=>fun a w=>x.wpIn (FR none) 0 P (Exit.then (Qcs P l K Q) Q) a w
theorem Qrn {Q:Exit->Act->World->Prop}:Exit.then (Q .normal) Q=Q:=by
 funext e a w;cases e<;>rfl
theorem Qnx {P:Program} {Q:Exit->Act->World->Prop}: ∀(l m:List Code) (K:Act->World->Prop),Qcs P (l++m) K Q=Qcs P l (Qcs P m K Q) Q
 |[],_,_=>rfl
 |x::l,m,K=>by
  funext a w
  simp only [List.cons_append,Qcs,Qnx l m K]
def cutC:Code->Option (List Code×(Nat×Code)×List Code)
 |.seq x y=>match cutC x with
  |some (pre,lp,post)=>some (pre,lp,post++[y])
  |none=>match cutC y with
   |some (pre,lp,post)=>some (x::pre,lp,post)
   |none=>none
 |.block id c=>match c with
  |.loop b=>some ([],(id,b),[])
  |_=>none
 |_=>none
def Qca (c:Code):Code:=
 match cutC c with
 |some (_,(_,b),_)=>b
 |none=> .skip
def idOf (c:Code):Nat:=
 match cutC c with
 |some (_,(i,_),_)=>i
 |none=>0
def Qc (f:Func):Code:=
 match f.body with
 |some c=>c
 |none=> .skip
def runL (P:Program) (C:CxF) (mb:Bool) (fuel:Nat) (call:Q7) (round:Qbf):List Code->List Fact->Tm->Hp->Tree (Ex×Tm×Hp)
 |[],_,t,hp=> .leaf (.normal,t,hp)
 |c::l,F,t,hp=>Qbb F (Qbl P C mb fuel call round false c F t hp) fun F' x=>match x with
  |(.normal,t',hp')=>runL P C mb fuel call round l F' t' hp'
  |x=> .leaf x
theorem Q5m {P:Program} {C:CxF} {mb:Bool} {fuel:Nat} {call:Q7} {round:Qbf} (E:Env P C call round): ∀(l:List Code) (F:List Fact) (t:Tm) (hp:Hp) (Q:Ex×Tm×Hp->Prop) (g:Inj) (w:World) (a:Act),
  HRel (C F) g hp.heap w->FRel g t a->Sat g.sig Q (runL P C mb fuel call round l F t hp)-> ∀(K:Act->World->Prop) (Z:Exit->Act->World->Prop),(∀e a' w' x,Q x->Qp (C F) hp g w a x e a' w'->Exit.then K Z e a' w')->Qcs P l K Z a w
 |[],F,t,hp,Q,g,w,a,hH,ht,hs,K,Z,hq=>hq .normal a w _ hs ⟨Touch.refl _,g,trivial,hH,Ext.refl _ _ _,ht,rfl⟩
 |c::l,F,t,hp,Q,g,w,a,hH,ht,hs,K,Z,hq=>by
  simp only [runL] at hs
  have hs:=Qcc (E.ok.facts hH) hs
  simp only [Qcs]
  refine wpIn_mono ((Qdy (mb:=mb) (fuel:=fuel) E c false).wp F t hp _ none g w a (fun _=>rfl) hH ht hs) ?_
  rintro e a' w' ⟨⟨x,t',hp'⟩,⟨F',hF',q⟩,h0,g',h1,h2,h3,h4,h5⟩
  have hF0:Ql g'.sig F:=by rw [h3.sub.sig];exact E.ok.facts hH
  have other:e≠.normal->Sat g.sig Q (.leaf (x,t',hp'))->Exit.then (Qcs P l K Z) Z e a' w':=by
   intro hne q
   have:=hq e a' w' _ q ⟨h0,g',h1,h2,h3,h4,h5⟩
   cases e with
   |normal=>exact absurd rfl hne
   |_=>exact this
  cases x with
  |normal=>
   cases e<;>simp only [Qbj] at h1
   refine Q5m E l F' t' hp' Q g' w' a' (E.ok.move h2 (by rw [h3.sub.sig];exact hF')) h4 (by rw [h3.sub.sig];exact q) K Z ?_
   intro e2 a2 w2 x2 hx2 hc
   refine hq e2 a2 w2 x2 hx2 ?_
   exact Qp.trans hH h0 h3 h5 (hc.move E.ok hF0)
  |exit i=>exact other (by intro he;subst he;exact h1.elim) q
  |ret=>exact other (by intro he;subst he;exact h1.elim) q
  |pan v=>exact other (by intro he;subst he;exact h1.elim) q
theorem segL {P:Program} {X:Ing} {mb:Bool} {fuel d n:Nat} {c:List Code} {s:Shape} {W:Sw} {Q0:SEx->Shape->Sig->Prop} (hm:P.follows .mixedOrders=true) (hT:okLT X.m X.G X.T=true) (hG:okG X.G X.m=true) (hh: ∀F,Hooks P (cxOf X F)) (h0n:X.n=0) (hid:idOk s X.m=true)
  (h:okSw (fun F=>runL P (cxOf X) mb fuel (evD P (cxOf X) mb fuel d).1 (evD P (cxOf X) mb fuel d).2 c F (tmOf s n) ⟨s.heap,[]⟩) W []=true)
  {σ:Sig} {w0:Fra} {a:Act} {w:World} (hA:At X.tab s n σ w0 a w) (hi:Q4 σ X.m X.ins) (hob:Qds (solve X.G X.m σ) Q0 W []) {K:Act->World->Prop} {Z:Exit->Act->World->Prop}
  (hk: ∀e a' w' x s2 σ2,Qbw σ2 x e->Q0 x s2 σ2->At X.tab s2 n σ2 w0 a' w'->Exit.then K Z e a' w') (hr:Qeb (solve X.G X.m σ) X.rows) (hcut:Qru (solve X.G X.m σ) X.cuts) (hinv:X.inv (solve X.G X.m σ):=by exact True.intro) (hkt:okKt X=true:=by exact rfl) (hpin: ∀i,w0.pin i≠none->pinW i W=true:=by exact fun _ h=>absurd rfl h):Qcs P c K Z a w:=by
 obtain ⟨g,rfl,hH,hTm,hB,hP⟩:=hA.ex
 have ag:=Qeo X.G X.m g.sig
 have htab:(solve X.G X.m g.sig).tab=X.tab:=by rw [<-ag.tab];exact hH.sig.tab
 have hb:BaseOk X (solve X.G X.m g.sig):=⟨Qgp hG,htab,fun i k hlt hik=>by rw [<-(ag.val i hlt).1];exact hi i k hlt hik,hr,hcut,hinv,hkt⟩
 obtain ⟨F,hF,hsat⟩:=Qmo h ⟨Qlt hpin,hob⟩ trivial
 have hgood:(cxOf X F).Good (solve X.G X.m g.sig):=Qn2 hT hb hF
 have hid':=hid
 unfold idOk at hid'
 split at hid'
 ·rename_i lx ly hlx hly
  simp only [Bool.and_eq_true] at hid'
  obtain ⟨⟨i1,i2⟩,i3⟩:=hid'
  have hH1:HRel (cxOf X F) (Q8 (idF s.heap.length 0) g (solve X.G X.m g.sig)) s.heap w:=Qjw hH h0n hgood (Qlj _ _) i3 hly (Qlh ag i2) ag.ext.symm
  have hT1:FRel (Q8 (idF s.heap.length 0) g (solve X.G X.m g.sig)) (tmOf s n) a:=by
   refine ⟨⟨by simp only [tmOf,hA.size];exact Nat.le_refl _,?_⟩,by rw [hA.defers];exact .nil⟩
   intro i v hv
   have hmem:=Q6n hv
   obtain ⟨u,h1,h2⟩:=hTm _ hmem
   obtain ⟨mm,q1,q2⟩:=Qvl _ _ lx hlx rfl v (List.mem_map.2 ⟨_,hmem,rfl⟩)
   exact ⟨u,h1,Qb2 (Qc7 _ g _ ag.ext.symm) v v mm u q1 (fun p hp=>Qlh ag i1 p (q2 p hp)) h2⟩
  have hB1: ∀i L,Q8 (idF s.heap.length 0) g (solve X.G X.m g.sig) i=some L->w0.own L.blk:=by
   intro i L hi
   obtain ⟨y,sh,L',_,h2,rfl⟩:=Qg5 hi
   exact hB y L' h2
  refine Q5m (Qoh (mb:=mb) (fuel:=fuel) hm (cx_ok hT) hh d) c F (tmOf s n) ⟨s.heap,[]⟩ _ _ w a hH1 hT1 hsat K Z ?_
  rintro e a' w' ⟨e0,t,st⟩ ⟨x,s2,f,l,ex,hx,hdf,hmt,hft,hQ,hR⟩ ⟨_,g',r1,r2,r3,r4,r5⟩
  obtain ⟨y1,y2,m1,m2,rfl,m4,m5⟩:=Qbfe hmt
  have hsig:g'.sig=solve X.G X.m g.sig:=r3.sub.sig
  have hfit:Fits g'.sig (asgS (solve X.G X.m g.sig) (y1++y2++ex)) (y1++y2):=by rw [hsig];exact hft
  have hsz:w0.w.heap.size<=w.heap.size:=hA.below.size
  have hB': ∀i L,g' i=some L->w0.own L.blk:=by
   intro i L hi
   cases hg:Q8 (idF s.heap.length 0) g (solve X.G X.m g.sig) i with
   |some M=>
    have:=r3.sub i M hg
    rw [this] at hi;cases hi
    exact hB1 i _ hg
   |none=>
    obtain ⟨_,hb⟩:=r3.new i L hi hg
    rcases hb with hb|⟨j,M,hj,hM,_⟩
    ·exact w0.new _ (by omega)
    ·rw [<-hM];exact hB1 j M hj
  refine hk e a' w' x s2 _ (by have hs:=Qbit hx r1;rw [show g'.sig=solve X.G X.m g.sig from r3.sub.sig] at hs;exact hs) hQ ⟨⟨Q8 f g' (asgS (solve X.G X.m g.sig) (y1++y2++ex)),rfl,Qjw r2 rfl (Qgk htab) m4 m5 m2 hfit.right (by rw [hsig];rfl),?_,?_,?_⟩,?_,r5.trans hA.size,?_⟩
  ·intro p hp
   obtain ⟨b,mm,q1,q2,q3⟩:=Q3j _ _ m1 p hp
   obtain ⟨u,h1,h2⟩:=r4.1.2 p.1 b q1
   exact ⟨u,h1,Qb2 (Qc7 f g' _ (by rw [hsig];rfl)) p.2 b mm u q2 (fun z hz=>hfit z (by simp [q3 z hz])) h2⟩
  ·intro i L hi
   obtain ⟨y,sh,L',_,h2,rfl⟩:=Qg5 hi
   exact hB' y L' h2
  ·intro i x hi
   have hf:=hR i (by rw [hi];simp)
   obtain ⟨hlt,h0⟩:=hP i x hi
   refine ⟨by rw [<-m4];exact (List.getElem?_eq_some_iff.1 hf).1,?_⟩
   have hid0:(idF s.heap.length 0)[i]? =some (i,0):=by simpa using Qli (i:=0) hlt
   have e1:Q8 (idF s.heap.length 0) g (solve X.G X.m g.sig) i=x:=by
    simp only [Q8,hid0,h0]
    cases x<;>simp [shift]
   have e2:g' i=x:=by
    cases hx:g' i with
    |some L=>
     cases hg:Q8 (idF s.heap.length 0) g (solve X.G X.m g.sig) i with
     |some M=>rw [r3.sub i M hg] at hx;rw [<-e1,hg,hx]
     |none=>exact absurd (r3.new i L hx hg).1 (by show¬s.heap.length<=i;omega)
    |none=>
     cases x with
     |none=>rfl
     |some L=>rw [r3.sub i L e1] at hx;cases hx
   simp only [Q8,hf,e2]
   cases x<;>simp [shift]
  ·have hb:=hA.below
   refine ⟨r3.os.trans hb.os,r3.tape.trans hb.tape,r3.output.trans hb.output,Nat.le_trans hb.size r3.size,fun k hk hno=>(r3.frame k (by omega) ?_).trans (hb.frame k hk hno)⟩
   intro i L hi _ he
   exact hno (he▸hB1 i L hi)
  ·have:=r4.2
   rw [show t.df=[] from hdf] at this
   generalize a'.defers=ds at this
   cases this
   rfl
 ·cases hid'
theorem Qu9 {P:Program} {c:Code} {Inv:Nat->Act->World->Prop} {Q:Exit->Act->World->Prop}
  (hstep: ∀k a w,Inv k a w->c.wpIn (FR none) 0 P (fun e a' w'=>(e=.normal/\ ∃k',k'<k/\Inv k' a' w')\/(e≠.normal/\Q e a' w')) a w) (k:Nat) (a:Act) (w:World) (h:Inv k a w):(Code.loop c).wpIn (FR none) 0 P Q a w:=by
 have key: ∀(n k:Nat) (a:Act) (w:World),k<n->Inv k a w->Code.roundsIn (FR none) 0 P c Q n a w:=by
  intro n
  induction n with
  |zero=>intro k a w hk _;omega
  |succ n ih=>
   intro k a w hk hI
   rw [roundsIn_succ]
   refine wpIn_mono (hstep k a w hI) fun e a' w' he=> ?_
   rcases he with ⟨rfl,k',hk',hI'⟩|⟨hne,hq⟩
   ·exact ih k' a' w' (by omega) hI'
   ·cases e with
    |normal=>exact absurd rfl hne
    |_=>exact hq
 exact wpIn_loop_rounds (k+1) (key (k+1) k a w (Nat.lt_succ_self k) h)
theorem Qx7 {P:Program} {f:FuncId} {fn:Func} {args:Array Value} {w:World} {R:Ending->World->Prop} (hf:P.funcs[f]? =some fn) (hb:fn.body=some (Qc fn))
  (h:(Qc fn).wpIn (FR none) 0 P (bodyPost P fn R) {tmps:=args++Array.replicate (fn.ntmps-args.size) undef,defers:=[]} w):Calls P f args w R:=
 Qx6 (r:=none) (n:=0) (callsIn_of_wp hf hb trivial h)
def argT:Nat->List AVal->List (Nat×AVal)
 |_,[]=>[]
 |i,a::l=>(i,a)::argT (i+1) l
theorem Qr7: ∀(l:List AVal) (i:Nat) (p:Nat×AVal),p∈argT i l-> ∃j,p.1=i+j/\l[j]? =some p.2
 |[],_,p,h=>by cases h
 |a::l,i,p,h=>by
  simp only [argT,List.mem_cons] at h
  rcases h with rfl|h
  ·exact ⟨0,rfl,rfl⟩
  ·obtain ⟨j,h1,h2⟩:=Qr7 l (i+1) p h
   exact ⟨j+1,by omega,by simpa using h2⟩
theorem Q7x {tab:TabF} {args:List AVal} {args':Array Value} {σ:Sig} (ht:σ.tab=tab) (ha:LRel ⟨fun _=>none,σ,fun _=>none⟩ args args'.toList) {n:Nat} (hn:args'.size<=n) (w:World) (hz: ∀i X,σ.ext i=some X->0<X.len->FzOk X w:=by exact fun _ _ h=>by cases h)
  (hz2: ∀i X,1000<=i->σ.ext i=some X->X.blk<w.heap.size:=by (intro i X h0 h;first|(cases h;done)|(have h9:(if i=0 then _ else none)=some X:=h;rw [if_neg (by omega)] at h9;cases h9))):
  At tab ⟨argT 0 args,[]⟩ n σ w {tmps:=args'++Array.replicate (n-args'.size) undef,defers:=[]} w:=by
 refine ⟨⟨⟨fun _=>none,σ,fun _=>none⟩,rfl,⟨fun i L hi=>by simp at hi,fun i j L M hi=>by simp at hi,fun i k hi=>by simp at hi,fun i hi=>absurd hi (Nat.not_lt_zero i),Qgk ht,⟨fun i X hi hl=>⟨hz i X hi hl,fun j L hj=>by simp at hj⟩,(fun i X hi=>by cases hi),hz2⟩⟩,?_,(fun i L hi=>by simp at hi),fun i L hi=>by cases hi⟩,BelowF.refl (Fra.of w),by simp;omega,rfl⟩
 intro p hp
 obtain ⟨j,h1,h2⟩:=Qr7 _ _ _ hp
 obtain ⟨u,k1,k2⟩:=ha.get j p.2 h2
 refine ⟨u,?_,k2⟩
 have hlt:j<args'.size:=by
  have:=(List.getElem?_eq_some_iff.1 k1).1
  simpa using this
 rw [h1,Nat.zero_add,Array.getElem?_append_left hlt]
 simpa using k1
theorem Q7w {P:Program} {tab:TabF} {s:Shape} {n r:Nat} {σ:Sig} {w0:World} {a:Act} {w:World} {fn:Func} {b:Bool} (hr:fn.results.toList=[.tmp r]) (hA:At tab s n σ w0 a w) (hm:(r,.bool b)∈s.t) {e:Exit} (he:Qbw σ .ret e\/Qbw σ .normal e):
  bodyPost P fn (fun e w'=>e=.returned (.bool b)/\RowKit.Below w0.heap.size w0 w') e a w:=by
 obtain ⟨g,_,hH,hT,_,_⟩:=hA.ex
 obtain ⟨u,h1,h2⟩:=hT _ hm
 cases h2
 have hres:(results fn a.tmps).run P w=.ok (.bool b) w:=by
  rw [Q5f,Array.mapM_eq_mapM_toList,hr]
  simp only [Sem.run_bind,Sem.run_map,Sem.run_pure,List.mapM_cons,List.mapM_nil,Qmx,Result.andThen_ok]
  have h1':a.tmps.getD r undef=.bool b:=by rw [Array.getD_eq_getD_getElem?,h1];rfl
  simp [h1']
 have:a.defers=[]/\ ∃v,(results fn a.tmps).run P w=.ok v w/\(Ending.returned v=.returned (.bool b)/\RowKit.Below w0.heap.size w0 w):=⟨hA.defers,_,hres,rfl,hA.below.below⟩
 cases e with
 |normal=>exact this
 |ret=>exact this
 |_=>rcases he with he|he<;>exact he.elim
end Go.Ev
namespace Go.Ev
theorem eqB {σ:Sig} {d:SDef} {i:Nat} {x:Bool} (h:Qb σ d=some (.bool (σ.bval i))) (h':Qb σ d=some (.bool x)):σ.bval i=x:=by
 rw [h] at h';simpa using h'
theorem eqI {σ:Sig} {d:SDef} {k:IntKind} {i:Nat} {x:Int} (h:Qb σ d=some (.int k (σ.ival i))) (h':Qb σ d=some (.int k x)):σ.ival i=x:=by
 rw [h] at h';simpa using h'
theorem Qi0 {σ:Sig} {c a b:AVal} {k:IntKind} {i:Nat} {x:Bool} {p q:Int} (h:Qb σ (.ite c a b)=some (.int k (σ.ival i))) (hc:den σ c=.bool x) (ha:den σ a=.int k p) (hb:den σ b=.int k q):σ.ival i=bif x then p else q:=by
 simp only [Qb,hc,ha,hb] at h
 cases x<;>simpa using h.symm
theorem Qbx {σ:Sig} {c a b:AVal} {i:Nat} {x p q:Bool} (h:Qb σ (.ite c a b)=some (.bool (σ.bval i))) (hc:den σ c=.bool x) (ha:den σ a=.bool p) (hb:den σ b=.bool q):σ.bval i=bif x then p else q:=by
 simp only [Qb,hc,ha,hb] at h
 cases x<;>simpa using h.symm
end Go.Ev
namespace Go.Ev
def Qfp (g:TypeId->Option (List Cl)) (sz:TypeId->Nat):List Field->Nat->Option (List Cl)
 |[],_=>some []
 |f::fs,off=>match Nat.beq f.offset off with
  |true=>match g f.type with
   |some cl=>match Nat.beq (sz f.type) cl.length with
    |true=>match Qfp g sz fs (off+cl.length) with
     |some r=>some (cl++r)
     |none=>none
    |false=>none
   |none=>none
  |false=>none
def repl (cl:List Cl):Nat->List Cl
 |0=>[]
 |n+1=>cl++repl cl n
def flat (P:Program):Nat->TypeId->Option (List Cl)
 |0,_=>none
 |n+1,t=>match P.underlying t with
  |some (.int k)=>some [.i k]
  |some .bool=>some [.b]
  |some (.array m e)=>match flat P n e with
   |some cl=>match Nat.beq (P.cellsOf e) cl.length&&Nat.beq (P.cellsOf t) (repl cl m).length with
    |true=>some (repl cl m)
    |false=>none
   |none=>none
  |some (.struct fs)=>match Qfp (flat P n) P.cellsOf fs.toList 0 with
   |some cl=>match Nat.beq (P.cellsOf t) cl.length with
    |true=>some cl
    |false=>none
   |none=>none
  |_=>none
def isAgg (P:Program) (t:TypeId):Bool:=
 match P.underlying t with
 |some (.array _ _)=>true
 |some (.struct _)=>true
 |_=>false
theorem Qs0: ∀{a b:List Cl} {l m:List Int},InR a l->Qn (a++b) (l++m)=Qn a l++Qn b m
 |[],b,l,m,h=>by cases (show l=[] from h);simp [Qn]
 |c::a,b,[],m,h=>by cases h
 |c::a,b,n::l,m,h=>by simp [Qn,Qs0 (b:=b) (m:=m) h.2]
theorem Qtn: ∀{a b:List Cl} {l m:List Int},InR a l->InR b m->InR (a++b) (l++m)
 |[],b,l,m,h,h'=>by cases (show l=[] from h);simpa using h'
 |c::a,b,[],m,h,_=>by cases h
 |c::a,b,n::l,m,h,h'=>⟨h.1,Qtn h.2 h'⟩
theorem Qy0: ∀{a:List Cl} {l:List Int},(Qn a l).length=a.length
 |[],_=>rfl
 |c::a,l=>by simp [Qn,Qy0]
theorem Q49 (cl:List Cl): ∀n,(repl cl n).length=n*cl.length
 |0=>by simp [repl]
 |n+1=>by simp [repl,Q49 cl n,Nat.succ_mul,Nat.add_comm]
theorem Q65 {k:IntKind} {n:Int} (h:(Lit.int k n).wf=true):k.wrap n=n:=by
 cases k<;>simp [Lit.wf,IntKind.wrap,IntKind.min,IntKind.max,IntKind.signed,IntKind.bits] at h⊢ <;>(try split)<;>omega
theorem Q73 (b:Bool): ∃l,InR [Cl.b] l/\[Value.bool b]=Qn [Cl.b] l:=by
 cases b
 ·exact ⟨[0],⟨.inl rfl,rfl⟩,rfl⟩
 ·exact ⟨[1],⟨.inr rfl,rfl⟩,rfl⟩
section
variable {H : Type} {enc : TypeId × Value -> H} {P : Program} {w : World} {base : Nat} {sp : Nat -> Bool} {held : Bool}
theorem Qzy {g:TypeId->Option (List Cl)} {cs:List Value} {T:TypeId->List Value->Prop} (hg: ∀t cl us,g t=some cl->T t us-> ∃l,InR cl l/\us=Qn cl l):
  ∀{fs:List Field} {off:Nat} {cl:List Cl},Qfp g P.cellsOf fs off=some cl->(∀f,f∈fs->T f.type ((cs.drop f.offset).take (P.cellsOf f.type)))->cs.length=off+cl.length->
   ∃l,InR cl l/\cs.drop off=Qn cl l
 |[],off,cl,h,_,hl=>by
  simp only [Qfp,Option.some.injEq] at h
  subst h
  refine ⟨[],rfl,?_⟩
  simp only [Qn,List.drop_eq_nil_iff]
  simp at hl;omega
 |f::fs,off,cl,h,ht,hl=>by
  simp only [Qfp] at h
  split at h
  ·rename_i ho
   have ho:=Nat.eq_of_beq_eq_true ho
   split at h
   ·rename_i c1 h1
    split at h
    ·rename_i hs
     have hs:=Nat.eq_of_beq_eq_true hs
     split at h
     ·rename_i c2 h2
      cases h
      simp only [List.length_append] at hl
      obtain ⟨l1,i1,e1⟩:=hg _ _ _ h1 (ht f (by simp))
      obtain ⟨l2,i2,e2⟩:=Qzy hg h2 (fun f' hf=>ht f' (by simp [hf])) (by omega)
      refine ⟨l1++l2,Qtn i1 i2,?_⟩
      rw [Qs0 i1,<-e1,<-e2,ho,hs]
      rw [<-List.drop_drop,List.take_append_drop]
     ·cases h
    ·cases h
   ·cases h
  ·cases h
theorem Qxs {cs:List Value} {cl:List Cl} {s m:Nat} (hs:s=cl.length) (hl:cs.length=m*s) (hg: ∀i,i<m-> ∃l,InR cl l/\(cs.drop (i*s)).take s=Qn cl l):
  ∀{j i:Nat},i+j=m-> ∃l,InR (repl cl j) l/\cs.drop (i*s)=Qn (repl cl j) l
 |0,i,h=>by
  refine ⟨[],rfl,?_⟩
  have:i=m:=by omega
  subst this
  simp [repl,Qn,List.drop_eq_nil_iff,hl]
 |j+1,i,h=>by
  obtain ⟨l1,i1,e1⟩:=hg i (by omega)
  obtain ⟨l2,i2,e2⟩:=Qxs hs hl hg (j:=j) (i:=i+1) (by omega)
  refine ⟨l1++l2,Qtn i1 i2,?_⟩
  simp only [repl]
  rw [Qs0 i1,<-e1,<-e2,Nat.succ_mul,<-List.drop_drop,List.take_append_drop]
theorem Qjs: ∀(n:Nat) {t:TypeId} {cl:List Cl} {fuel:Nat} {cs:List Value} {x:DataW H×List MemPlace},flat P n t=some cl->DataW.trod enc P w base sp held fuel t cs=some x->
  (∃l,InR cl l/\cs=Qn cl l)/\x.2=[]
 |0,_,_,_,_,_,h,_=>by simp [flat] at h
 |n+1,t,cl,fuel,cs,x,h,hx=>by
  simp only [flat] at h
  split at h
  ·rename_i k ht
   cases h
   cases fuel with
   |zero=>simp [DataW.trod] at hx
   |succ fuel=>
    unfold DataW.trod at hx
    rw [ht] at hx
    split at hx<;>simp_all
    obtain ⟨⟨rfl,hw⟩,rfl⟩:=hx
    refine ⟨⟨[_],⟨Q65 hw,rfl⟩,?_⟩,rfl⟩
    simp [Qn,encC,Q65 hw]
  ·rename_i ht
   cases h
   cases fuel with
   |zero=>simp [DataW.trod] at hx
   |succ fuel=>
    unfold DataW.trod at hx
    rw [ht] at hx
    split at hx<;>simp_all
    subst hx
    exact ⟨Q73 _,rfl⟩
  ·rename_i m e ht
   split at h
   ·rename_i c1 h1
    split at h
    ·rename_i hb
     cases h
     simp only [Bool.and_eq_true] at hb
     have hs:=Nat.eq_of_beq_eq_true hb.1
     have hz:=Nat.eq_of_beq_eq_true hb.2
     obtain ⟨xs,m',rfl,rfl,hl,hxl,hf⟩:=DataW.trod_array ht hx
     rw [hz,Q49,<-hs] at hl
     refine ⟨?_,?_⟩
     ·have:=Qxs (cs:=cs) (cl:=c1) (m:=m) hs hl (fun i hi=>by
       have h2:=hf i hi
       rw [List.getElem?_eq_getElem (by omega)] at h2
       exact (Qjs n h1 h2).1) (j:=m) (i:=0) (by omega)
      simpa using this
     ·simp only [List.flatMap_eq_nil_iff]
      intro y hy
      obtain ⟨i,hi,rfl⟩:=List.getElem_of_mem hy
      have h2:=hf i (by omega)
      rw [List.getElem?_eq_getElem hi] at h2
      exact (Qjs n h1 h2).2
    ·cases h
   ·cases h
  ·rename_i fs ht
   split at h
   ·rename_i c1 h1
    split at h
    ·rename_i hb
     cases h
     have hz:=Nat.eq_of_beq_eq_true hb
     obtain ⟨xs,m',rfl,rfl,hl,hxl,hf⟩:=DataW.trod_struct ht hx
     rw [hz] at hl
     refine ⟨?_,?_⟩
     ·have:=Qzy (P:=P) (g:=flat P n) (cs:=cs) (T:=fun t us=> ∃y,DataW.trod enc P w base sp held m' t us=some y)
       (fun t cl us h2 ⟨y,hy⟩=>(Qjs n h2 hy).1) h1 (fun f hfm=>by
        obtain ⟨i,hi,rfl⟩:=List.getElem_of_mem hfm
        have h2:=hf i _ (by rw [<-Array.getElem?_toList];exact List.getElem?_eq_getElem hi)
        refine ⟨_,h2.trans (List.getElem?_eq_getElem (by rw [hxl];simpa using hi))⟩) (by omega)
      simpa using this
     ·simp only [List.flatMap_eq_nil_iff]
      intro y hy
      obtain ⟨i,hi,rfl⟩:=List.getElem_of_mem hy
      have hi':i<fs.size:=by omega
      have h2:=hf i fs[i] (by simp [hi'])
      rw [List.getElem?_eq_getElem hi] at h2
      have hm: ∃c,flat P n fs[i].type=some c:=by
       have: ∀{l:List Field} {off:Nat} {c:List Cl},Qfp (flat P n) P.cellsOf l off=some c-> ∀f,f∈l-> ∃c,flat P n f.type=some c:=by
        intro l
        induction l with
        |nil=>intro _ _ _ f hf;cases hf
        |cons a r ih=>
         intro off c h f hf
         simp only [Qfp] at h
         split at h
         ·split at h
          ·rename_i c' h'
           split at h
           ·split at h
            ·rename_i c2 h2
             rcases List.mem_cons.1 hf with rfl|hf
             ·exact ⟨_,h'⟩
             ·exact ih h2 f hf
            ·cases h
           ·cases h
          ·cases h
         ·cases h
       exact this h1 _ (by simp)
      obtain ⟨c,hc⟩:=hm
      exact (Qjs n hc h2).2
    ·cases h
   ·cases h
  ·cases h
theorem Qvi {α β:Type} {f g:α->Option β}: ∀{l:List α},(∀a,a∈l->f a=g a)->l.mapM f=l.mapM g
 |[],_=>rfl
 |a::l,h=>by
  simp only [List.mapM_cons]
  rw [h a (by simp),Qvi (l:=l) (fun b hb=>h b (by simp [hb]))]
theorem Q93 {g:TypeId->Option (List Cl)} {sz:TypeId->Nat}: ∀{l:List Field} {off:Nat} {c:List Cl},Qfp g sz l off=some c-> ∀f,f∈l-> ∃c,g f.type=some c:=by
 intro l
 induction l with
 |nil=>intro _ _ _ f hf;cases hf
 |cons a r ih=>
  intro off c h f hf
  simp only [Qfp] at h
  split at h
  ·split at h
   ·rename_i c' h'
    split at h
    ·split at h
     ·rename_i c2 h2
      rcases List.mem_cons.1 hf with rfl|hf
      ·exact ⟨_,h'⟩
      ·exact ih h2 f hf
     ·cases h
    ·cases h
   ·cases h
  ·cases h
theorem Qon {w':World} {base':Nat} {sp':Nat->Bool} {held':Bool}: ∀(n:Nat) {t:TypeId} {cl:List Cl},flat P n t=some cl-> ∀(fuel:Nat) (cs:List Value),
  DataW.trod enc P w base sp held fuel t cs=DataW.trod enc P w' base' sp' held' fuel t cs
 |0,_,_,h=>by simp [flat] at h
 |n+1,t,cl,h=>by
  intro fuel cs
  cases fuel with
  |zero=>rfl
  |succ fuel=>
  simp only [flat] at h
  split at h
  ·rename_i k ht
   unfold DataW.trod
   rw [ht]
   split<;>simp_all
  ·rename_i ht
   unfold DataW.trod
   rw [ht]
   split<;>simp_all
  ·rename_i m e ht
   split at h
   ·rename_i c1 h1
    unfold DataW.trod
    rw [ht]
    simp only [Qon (w':=w') (base':=base') (sp':=sp') (held':=held') n h1 fuel]
   ·cases h
  ·rename_i fs ht
   split at h
   ·rename_i c1 h1
    unfold DataW.trod
    rw [ht]
    have:=Qvi (l:=fs.toList) (f:=fun f=>DataW.trod enc P w base sp held fuel f.type ((cs.drop f.offset).take (P.cellsOf f.type))) (g:=fun f=>DataW.trod enc P w' base' sp' held' fuel f.type ((cs.drop f.offset).take (P.cellsOf f.type)))
     (fun f hf=>by obtain ⟨c,hc⟩:=Q93 h1 f hf;exact Qon n hc fuel _)
    simp only [this]
   ·cases h
  ·cases h
theorem Qbi2 {w':World} {base':Nat} {sp':Nat->Bool} {held':Bool} {n:Nat} {t:TypeId} {cl:List Cl} {v:Value} {d:DataW H} {ps:List MemPlace} (hf:flat P n t=some cl) (hd:DataW.Trod enc P w base sp held t v d ps):
  DataW.Trod enc P w' base' sp' held' t v d ps:=by
 obtain ⟨fuel,h⟩:=hd
 exact ⟨fuel,by rw [<-Qon n hf];exact h⟩
theorem Qbgb {n:Nat} {t:TypeId} {cl:List Cl} {v:Value} {d:DataW H} {ps:List MemPlace} {r:Reach} {b0:Nat} (hf:flat P n t=some cl) (ha:isAgg P t=true) (hv:Value.okWide P w r b0 t v)
  (hd:DataW.Trod enc P w base sp held t v d ps): ∃l,InR cl l/\v=.agg (Qn cl l).toArray/\ps=[]:=by
 obtain ⟨cs,rfl⟩: ∃cs,v=.agg cs:=by
  unfold isAgg at ha
  split at ha
  ·rename_i ht
   obtain ⟨cs,rfl,_⟩: ∃cs,v=.agg cs/\cs.size=P.cellsOf t/\Row.okWide P w r b0 t cs:=by simpa [Value.okWide,ht] using hv
   exact ⟨cs,rfl⟩
  ·rename_i ht
   obtain ⟨cs,rfl,_⟩: ∃cs,v=.agg cs/\cs.size=P.cellsOf t/\Row.okWide P w r b0 t cs:=by simpa [Value.okWide,ht] using hv
   exact ⟨cs,rfl⟩
  ·cases ha
 obtain ⟨fuel,h⟩:=hd
 obtain ⟨⟨l,hl,hc⟩,hp⟩:=Qjs n hf h
 refine ⟨l,hl,?_,hp⟩
 rw [<-show cs.toList=Qn cl l from hc]
end
end Go.Ev
namespace Go.Ev
def Qnv:Value->AVal
 |.int k n=> .int k n
 |.bool b=> .bool b
 |_=> .nilptr
def ElOk (cl:List Cl) (f:Nat->AVal):Prop:= ∃l,InR cl l/\ ∀j,j<cl.length->f j=Qnv ((Qn cl l).getD j .nilFunc)
structure RowV (W:World) (cl:List Cl) (v:Value) (X:Fz):Prop where
 z:X.z=cl.length
 ok:0<X.len->FzOk X W
 rel: ∀(g:Inj) (i:Nat),g.sig.ext i=some X->VRel g (.row i) v
 els: ∀m,m<X.len->ElOk cl (X.val m)
 len:(X.len:Int)<=9223372036854775807
structure RowIn {H:Type} (enc:TypeId×Value->H) (P:Program) (W:World) (t:TypeId) (cl:List Cl) (v:Value) (d:DataW H) (ps:List MemPlace) (X:Fz):Prop where
 z:X.z=cl.length
 ok:0<X.len->FzOk X W
 rel: ∀(g:Inj) (i:Nat),g.sig.ext i=some X->VRel g (.row i) v
 els: ∀m,m<X.len->ElOk cl (X.val m)
 len:(X.len:Int)<=9223372036854775807
 again: ∀W':World,RowKit.Below W.heap.size W W'-> ∀sp:Nat->Bool,(∀p∈ps,sp p.block=true)->DataW.Trod enc P W' 0 sp true t v d ps
theorem RowIn.row {H:Type} {enc:TypeId×Value->H} {P:Program} {W:World} {t:TypeId} {cl:List Cl} {v:Value} {d:DataW H} {ps:List MemPlace} {X:Fz} (h:RowIn enc P W t cl v d ps X):RowV W cl v X:=⟨h.z,h.ok,h.rel,h.els,h.len⟩
theorem Qyy: ∀{cl:List Cl} {l:List Int},InR cl l-> ∀(j:Nat) (v:Value),(Qn cl l)[j]? =some v->(∀g,VRel g (Qnv v) v)/\v.oneCell'=true
 |[],_,_,j,v,h=>by simp [Qn] at h
 |c::cl,[],h,_,_,_=>by cases h
 |c::cl,n::l,hr,0,v,h=>by
  simp only [Qn,List.getElem?_cons_zero,Option.some.injEq] at h
  subst h
  cases c with
  |i k=>exact ⟨fun g=> .int k _,rfl⟩
  |b=>exact ⟨fun g=> .bool _,rfl⟩
 |c::cl,n::l,hr,j+1,v,h=>Qyy hr.2 j v (by simpa [Qn] using h)
section
variable {H : Type} {enc : TypeId × Value -> H} {P : Program} {W : World}
theorem Q8e {W':World} {a:Addr} {n:Nat} (hb:W'.heap[a.block]? =W.heap[a.block]?):W'.cells? 0 a n=W.cells? 0 a n:=by
 unfold World.cells?
 rw [if_pos (Nat.zero_le _),if_pos (Nat.zero_le _)]
 refine Qvi fun i _=> ?_
 have hblk:(a.add i).block=a.block:=by unfold Addr.add;split<;>rfl
 unfold World.cell?
 rw [hblk,hb]
theorem Q7b (a:Addr) (i j:Nat):(a.add i).add j=a.add (i+j):=by
 unfold Addr.add
 by_cases hi:i=0<;>by_cases hj:j=0<;>simp [hi,hj,Nat.add_assoc]
theorem Qr0 (a:Addr) (i:Nat):(a.add i).block=a.block:=by unfold Addr.add;split<;>rfl
theorem Qbgc {n:Nat} {t e:TypeId} {cl:List Cl} {v:Value} {d:DataW H} {ps:List MemPlace} {r:Reach} {b0:Nat} (ht:P.underlying t=some (.slice e)) (hf:flat P n e=some cl) (hz:Nat.beq (P.cellsOf e) cl.length=true) (hpos:Nat.blt 0 cl.length=true)
  (hv:Value.okWide P W r b0 t v) (hd:DataW.Trod enc P W 0 (fun _=>true) true t v d ps): ∃X,RowIn enc P W t cl v d ps X:=by
 have hz:=Nat.eq_of_beq_eq_true hz
 have hpos:0<cl.length:=by simpa using hpos
 obtain ⟨a0,len,cap,rfl⟩:=Go.WideShapes.okWide_slice ht hv
 obtain ⟨fuel,hd⟩:=hd
 have hcs:(Value.slice a0 len cap).cells.toList=[.slice a0 len cap]:=rfl
 rw [hcs] at hd
 rcases DataW.trod_slice ht hd with ⟨h1,h2⟩|⟨a,len',cap',elems,rest,m,rfl,h1,h2,_,hlc,hcm,hel,hall,hsp,_⟩
 ·simp only [List.cons.injEq,Value.slice.injEq,and_true] at h1
  obtain ⟨rfl,rfl,rfl⟩:=h1
  simp only [Prod.mk.injEq] at h2
  obtain ⟨rfl,rfl⟩:=h2
  refine ⟨⟨0,0,cl.length,0,fun _ _=> .nilptr,none⟩,rfl,fun h=>absurd h (Nat.lt_irrefl 0),fun g i h=> .row i _ none 0 h (Nat.le_refl _) (fun h=>absurd h (Nat.lt_irrefl 0)),fun m h=>absurd h (Nat.not_lt_zero m),by simp,?_⟩
  intro W' _ sp _
  refine ⟨1,?_⟩
  rw [hcs]
  unfold DataW.trod
  rw [ht]
  rfl
 ·simp only [List.cons.injEq,Value.slice.injEq,and_true] at h1
  obtain ⟨rfl,rfl,rfl⟩:=h1
  simp only [Prod.mk.injEq] at h2
  obtain ⟨rfl,rfl⟩:=h2
  obtain ⟨hrl,hrest⟩:=hsp rfl
  have hcell: ∀i,i<len-> ∃cs l,W.cells? 0 (a.add (i*P.cellsOf e)) (P.cellsOf e)=some cs/\InR cl l/\cs=Qn cl l:=by
   intro i hi
   have h3:=hall i hi
   rw [List.getElem?_eq_getElem (by omega)] at h3
   obtain ⟨cs,h4,h5⟩:=Option.bind_eq_some_iff.1 h3
   obtain ⟨⟨l,h6,h7⟩,_⟩:=Qjs n hf h5
   exact ⟨cs,l,h4,h6,h7⟩
  have hblk:0<cap->a.block<W.heap.size:=by
   intro hc
   have: ∃y,(W.cells? 0 (a.add 0) (P.cellsOf e)).bind (DataW.trod enc P W 0 (fun _=>true) true m e)=some y:=by
    by_cases hl:0<len
    ·have h3:=hall 0 hl
     rw [Nat.zero_mul,List.getElem?_eq_getElem (by omega)] at h3
     exact ⟨_,h3⟩
    ·have h3:=hrest 0 (by omega)
     rw [List.getElem?_eq_getElem (by omega),show len+0=0 by omega,Nat.zero_mul] at h3
     exact ⟨_,h3⟩
   obtain ⟨y,hy⟩:=this
   obtain ⟨cs,h4,_⟩:=Option.bind_eq_some_iff.1 hy
   obtain ⟨_,_,h5⟩:=World.cells?_some h4
   have h6:=h5 0 (by omega)
   have hlen:=(World.cells?_some h4).2.1
   rw [List.getElem?_eq_getElem (by omega)] at h6
   unfold World.cell? at h6
   split at h6
   ·rename_i C e' fr hheap
    have:=(Array.getElem?_eq_some_iff.1 hheap).1
    simpa [Qr0] using this
   ·cases h6
  have hat:0<len->a.spot=none/\ ∃C e' fr,W.heap[a.block]? =some (.cells C e' fr)/\ ∀i cs,i<len->W.cells? 0 (a.add (i*P.cellsOf e)) (P.cellsOf e)=some cs-> ∀j,j<P.cellsOf e->C[a.off+i*P.cellsOf e+j]? =cs[j]?:=by
   intro hl
   obtain ⟨cs,l,h4,_,_⟩:=hcell 0 hl
   obtain ⟨_,hlen,h5⟩:=World.cells?_some h4
   have h6:=h5 0 (by omega)
   have hadd:(a.add (0*P.cellsOf e)).add 0=a:=by simp [Addr.add]
   rw [hadd,List.getElem?_eq_getElem (by omega)] at h6
   unfold World.cell? at h6
   split at h6
   ·rename_i C e' fr hheap
    have hsp0:a.spot=none:=by
     cases hs:a.spot with
     |none=>rfl
     |some x=>rw [hs] at h6;simp at h6
    refine ⟨hsp0,C,e',fr,hheap,?_⟩
    intro i cs hi h4 j hj
    obtain ⟨_,_,h5⟩:=World.cells?_some h4
    have h7:=h5 j hj
    rw [<-h7]
    rw [Q7b]
    unfold World.cell?
    rw [Qr0,hheap]
    have hspot:(a.add (i*P.cellsOf e+j)).spot=none:=by unfold Addr.add;split;exact hsp0;rfl
    have hoff:(a.add (i*P.cellsOf e+j)).off=a.off+(i*P.cellsOf e+j):=by unfold Addr.add;split<;>simp_all
    rw [hspot,hoff]
    simp [Nat.add_assoc]
   ·cases h6
  let V:Nat->Nat->AVal:=fun m j=>match W.cells? 0 (a.add (m*P.cellsOf e)) (P.cellsOf e) with
   |some cs=>Qnv (cs.getD j .nilFunc)
   |none=> .nilptr
  refine ⟨⟨a.block,a.off,cl.length,len,V,none⟩,rfl,?_,?_,?_,?_,?_⟩
  ·intro hl
   have hl:0<len:=hl
   obtain ⟨_,C,e',fr,hheap,hC⟩:=hat hl
   refine ⟨C,e',fr,hheap,?_,fun o h=>by cases h⟩
   intro m' j hm' hj
   have hm':m'<len:=hm'
   have hj:j<cl.length:=hj
   obtain ⟨cs,l,h4,h6,rfl⟩:=hcell m' hm'
   have h7:=hC m' _ hm' h4 j (by omega)
   have hlt:j<(Qn cl l).length:=by rw [Qy0];exact hj
   rw [List.getElem?_eq_getElem hlt] at h7
   have hgd:(Qn cl l).getD j .nilFunc=(Qn cl l)[j]:=by simp [List.getD,hlt]
   obtain ⟨q1,q2⟩:=Qyy h6 j _ (List.getElem?_eq_getElem hlt)
   refine ⟨(Qn cl l)[j],?_,fun g=> ?_,q2⟩
   ·show C[a.off+m'*cl.length+j]? =_
    rw [<-hz];exact h7
   ·show VRel g (V m' j) _
    simp only [V,h4,hgd]
    exact q1 g
  ·intro g i h
   refine .row i _ (some a) cap h hlc (fun hl=> ?_)
   have hl:0<len:=hl
   obtain ⟨hsp0,_⟩:=hat hl
   obtain ⟨b,o,s⟩:=a
   simp only at hsp0
   subst hsp0
   rfl
  ·intro m' hm'
   have hm':m'<len:=hm'
   obtain ⟨cs,l,h4,h6,rfl⟩:=hcell m' hm'
   refine ⟨l,h6,fun j hj=> ?_⟩
   show V m' j=_
   simp only [V,h4]
  ·have:maxLen=2^63-1:=rfl
   show (len:Int)<=_
   omega
  ·intro W' hB sp hps
   refine ⟨m+1,?_⟩
   rw [hcs]
   by_cases hc:0<cap
   ·have hb:=hB.block a.block (hblk hc)
    have hspb:sp a.block=true:=by
     have hmem:MemPlace.cell a.block a.off∈MemPlace.row a ((elems.length+rest.length)*P.cellsOf e)++(elems++rest).flatMap (·.2):=
      List.mem_append_left _ (MemPlace.mem_row.2 ⟨0,by rw [hel,hrl];exact Nat.mul_pos (by omega) (by omega),by simp⟩)
     exact hps _ hmem
    have one: ∀i,(W'.cells? 0 (a.add (i*P.cellsOf e)) (P.cellsOf e)).bind (DataW.trod enc P W' 0 sp true m e)=(W.cells? 0 (a.add (i*P.cellsOf e)) (P.cellsOf e)).bind (DataW.trod enc P W 0 (fun _=>true) true m e):=by
     intro i
     rw [Q8e (W:=W) (a:=a.add (i*P.cellsOf e)) (by rw [Qr0];exact hb)]
     have:DataW.trod enc P W' 0 sp true m e=DataW.trod enc P W 0 (fun _=>true) true m e:=funext fun cs=>Qon n hf m cs
     rw [this]
    unfold DataW.trod at hd⊢
    rw [ht] at hd⊢
    simp only [one,hspb,if_true] at hd⊢
    exact hd
   ·have hc0:cap=0:=by omega
    have hl0:len=0:=by omega
    subst hc0;subst hl0
    have e1:elems=[]:=List.eq_nil_of_length_eq_zero hel
    have e2:rest=[]:=List.eq_nil_of_length_eq_zero hrl
    subst e1;subst e2
    unfold DataW.trod
    rw [ht]
    simp [MemPlace.row,hcm]
end
end Go.Ev
namespace Go.Ev
open Go.RowKit
end Go.Ev
namespace Go.Ev
open Go.RowKit
set_option linter.unusedVariables false
structure SegOk (P:Program) (tab:TabF) (n:Nat) (c:List Code) (s:Shape) (X:Ing) (W:Sw):Prop where
 lt:okLT X.m X.G X.T=true
 ok:okG X.G X.m=true
 hook: ∀F,Hooks P (cxOf X F)
 n0:X.n=0
 id:idOk s X.m=true
 reck:okSw (fun F=>runL P (cxOf X) true X.fu (evD P (cxOf X) true X.fu 40).1 (evD P (cxOf X) true X.fu 40).2 c F (tmOf s n) ⟨s.heap,[]⟩) W []=true
 tab:X.tab=tab
 cuts:X.cuts=[]
 inv: ∀σ,X.inv σ:=by exact fun _=>True.intro
 kt:okKt X=true:=by exact rfl
theorem SegOk.run {P:Program} {tab:TabF} {n:Nat} {c:List Code} {s:Shape} {X:Ing} {W:Sw} (h:SegOk P tab n c s X W) (hm:P.follows .mixedOrders=true) {Q0:SEx->Shape->Sig->Prop}
  {σ:Sig} {w0:Fra} {a:Act} {w:World} (hA:At tab s n σ w0 a w) (hi:Q4 σ X.m X.ins) (hr:Qeb (solve X.G X.m σ) X.rows) (hob:Qds (solve X.G X.m σ) Q0 W []) {K:Act->World->Prop} {Z:Exit->Act->World->Prop}
  (hk: ∀e a' w' x s2 σ2,Qbw σ2 x e->Q0 x s2 σ2->At tab s2 n σ2 w0 a' w'->Exit.then K Z e a' w') (hpin: ∀i,w0.pin i≠none->pinW i W=true:=by exact fun _ h=>absurd rfl h):Qcs P c K Z a w:=by
 have ht:=h.tab
 subst ht
 exact segL hm h.lt h.ok h.hook h.n0 h.id h.reck hA hi hob hk hr (by rw [h.cuts];exact Qn1) (h.inv _) h.kt hpin
theorem At.agree {tab:TabF} {s:Shape} {n q:Nat} {σ τ:Sig} {w0:Fra} {a:Act} {w:World} (hid:idOk s q=true) (ag:Agree q σ τ) (h:At tab s n σ w0 a w):At tab s n τ w0 a w:=by
 obtain ⟨⟨g,rfl,hH,hT,hB,hP⟩,h2,h3,h4⟩:=h
 have hid':=hid
 unfold idOk at hid'
 split at hid'
 ·rename_i lx ly hlx hly
  simp only [Bool.and_eq_true] at hid'
  obtain ⟨⟨i1,i2⟩,i3⟩:=hid'
  have htab:τ.tab=tab:=by rw [<-ag.tab];exact hH.sig.tab
  refine ⟨⟨Q8 (idF s.heap.length 0) g τ,rfl,Qjw hH rfl (Qgk htab) (Qlj _ _) i3 hly (Qlh ag i2) ag.ext.symm,?_,?_,?_⟩,h2,h3,h4⟩
  ·intro p hp
   obtain ⟨u,h1,h2⟩:=hT _ hp
   obtain ⟨mm,q1,q2⟩:=Qvl _ _ lx hlx rfl p.2 (List.mem_map.2 ⟨_,hp,rfl⟩)
   exact ⟨u,h1,Qb2 (Qc7 _ g _ ag.ext.symm) p.2 p.2 mm u q1 (fun z hz=>Qlh ag i1 z (q2 z hz)) h2⟩
  ·intro i L hi
   obtain ⟨y,sh,L',_,h2,rfl⟩:=Qg5 hi
   exact hB y L' h2
  ·intro i x hi
   obtain ⟨hlt,h0⟩:=hP i x hi
   have hid0:(idF s.heap.length 0)[i]? =some (i,0):=by simpa using Qli (i:=0) hlt
   refine ⟨hlt,?_⟩
   simp only [Q8,hid0,h0]
   cases x<;>simp [shift]
 ·cases hid'
def Qhn (kd:Nat->Option IntKind) (l:Asg):List (Option IntKind)->Nat->Bool
 |[],_=>true
 |none::r,i=>Qhn kd l r (i+1)
 |some k::r,i=>(match Qc5 l i with
  |some a=>inK kd k a
  |none=>false)&&Qhn kd l r (i+1)
theorem Qou {kd:Nat->Option IntKind} {l:Asg}: ∀{ins:List (Option IntKind)} {i:Nat},Qhn kd l ins i=true-> ∀(j:Nat) (k:IntKind),ins[j]? =some (some k)-> ∃a,Qc5 l (i+j)=some a/\inK kd k a=true
 |[],_,_,j,k,hj=>by simp at hj
 |none::r,i,h,0,k,hj=>by simp at hj
 |none::r,i,h,j+1,k,hj=>by
  have:=Qou (ins:=r) (i:=i+1) h j k (by simpa using hj)
  rw [show i+(j+1)=i+1+j by omega];exact this
 |some k'::r,i,h,0,k,hj=>by
  simp only [Qhn,Bool.and_eq_true] at h
  simp only [List.getElem?_cons_zero,Option.some.injEq] at hj
  subst hj
  have h1:=h.1
  split at h1
  ·rename_i a ha;exact ⟨a,ha,h1⟩
  ·cases h1
 |some k'::r,i,h,j+1,k,hj=>by
  simp only [Qhn,Bool.and_eq_true] at h
  have:=Qou (ins:=r) (i:=i+1) h.2 j k (by simpa using hj)
  rw [show i+(j+1)=i+1+j by omega];exact this
def Qb8 (σ:Sig) (q:Nat) (X:Fz):Sig where
 ival:=fun t=>if t<q then σ.ival t else if (σ.ival 0).toNat<X.len then iOf (X.val (σ.ival 0).toNat (t-q)) else 0
 bval:=fun t=>if t<q then σ.bval t else if (σ.ival 0).toNat<X.len then bOf (X.val (σ.ival 0).toNat (t-q)) else false
 sval:=σ.sval
 tab:=σ.tab
 ext:=σ.ext
theorem Q87 (σ:Sig) (q:Nat) (X:Fz):Agree q σ (Qb8 σ q X):=
 ⟨fun i hi=>⟨by simp [Qb8,hi],by simp [Qb8,hi],rfl⟩,rfl,rfl⟩
def Qdn:Nat->List Cl->List AVal
 |_,[]=>[]
 |i,.i k::r=> .symi k i::Qdn (i+1) r
 |i,.b::r=> .symb i::Qdn (i+1) r
theorem Qsy: ∀(i:Nat) (cl:List Cl),(Qdn i cl).length=cl.length
 |_,[]=>rfl
 |i,.i k::r=>by simp [Qdn,Qsy (i+1) r]
 |i,.b::r=>by simp [Qdn,Qsy (i+1) r]
theorem Qsx: ∀(i:Nat) (cl:List Cl) (j:Nat) (c:AVal),(Qdn i cl)[j]? =some c-> ∃z,cl[j]? =some z/\c=(match z with|.i k=> .symi k (i+j)|.b=> .symb (i+j))
 |_,[],j,c,h=>by simp [Qdn] at h
 |i,.i k::r,0,c,h=>by simp [Qdn] at h;exact ⟨.i k,rfl,h.symm⟩
 |i,.b::r,0,c,h=>by simp [Qdn] at h;exact ⟨.b,rfl,h.symm⟩
 |i,.i k::r,j+1,c,h=>by
  obtain ⟨z,h1,h2⟩:=Qsx (i+1) r j c (by simpa [Qdn] using h)
  exact ⟨z,by simpa using h1,by rw [h2,show i+1+j=i+(j+1) by omega]⟩
 |i,.b::r,j+1,c,h=>by
  obtain ⟨z,h1,h2⟩:=Qsx (i+1) r j c (by simpa [Qdn] using h)
  exact ⟨z,by simpa using h1,by rw [h2,show i+1+j=i+(j+1) by omega]⟩
theorem Qyz: ∀{cl:List Cl} {l:List Int},InR cl l-> ∀(j:Nat) (z:Cl),cl[j]? =some z-> ∃n,inC z n/\(Qn cl l).getD j .nilFunc=encC z n
 |c::cl,[],h,_,_,_=>by cases h
 |c::cl,n::l,h,0,z,hz=>by
  simp only [List.getElem?_cons_zero,Option.some.injEq] at hz
  subst hz
  exact ⟨n,h.1,rfl⟩
 |c::cl,n::l,h,j+1,z,hz=>by
  obtain ⟨m,h1,h2⟩:=Qyz h.2 j z (by simpa using hz)
  exact ⟨m,h1,by simpa [Qn] using h2⟩
 |[],_,_,_,_,hz=>by simp at hz
theorem Qix {cl:List Cl} {f:Nat->AVal} (h:ElOk cl f) {j:Nat} {z:Cl} (hz:cl[j]? =some z): ∃n,inC z n/\f j=(match z with|.i k=> .int k n|.b=> .bool (!(n==0))):=by
 obtain ⟨l,h1,h2⟩:=h
 have hj:j<cl.length:=(List.getElem?_eq_some_iff.1 hz).1
 obtain ⟨n,h3,h4⟩:=Qyz h1 j z hz
 refine ⟨n,h3,?_⟩
 rw [h2 j hj,h4]
 cases z with
 |i k=>simp only [encC,Qnv];rw [show k.wrap n=n from h3]
 |b=>rfl
theorem Q88 {W:World} {cl:List Cl} {v:Value} {X:Fz} (hX:RowV W cl v X) {σ:Sig} {q:Nat} {insq:List (Option IntKind)} (hq:insq.length=q) (h:Q4 σ q insq):Q4 (Qb8 σ q X) (q+cl.length) (insq++cl.map Qe0):=by
 intro i k hi hk
 by_cases hlt:i<q
 ·rw [List.getElem?_append_left (by omega)] at hk
  have:=h i k hlt hk
  simpa [Qb8,hlt] using this
 ·rw [List.getElem?_append_right (by omega),hq,List.getElem?_map] at hk
  simp only [Qb8,hlt,if_false]
  split
  ·rename_i hlen
   cases hz:cl[i-q]? with
   |none=>rw [hz] at hk;cases hk
   |some z=>
    rw [hz] at hk
    cases z with
    |b=>simp [Qe0] at hk
    |i k'=>
     simp only [Qe0,Option.map_some,Option.getD_some,Option.some.injEq] at hk
     subst hk
     obtain ⟨n,h1,h2⟩:=Qix (hX.els _ hlen) hz
     rw [h2];exact h1
  ·cases k<;>rfl
end Go.Ev
namespace Go.Ev
open Go.RowKit
set_option linter.unusedVariables false
set_option linter.unusedSimpArgs false
set_option linter.unnecessarySimpa false
end Go.Ev
namespace Go.Ev
open Go.RowKit
set_option linter.unusedVariables false
set_option linter.unusedSimpArgs false
set_option linter.unnecessarySimpa false
end Go.Ev
namespace Go.Ev
open Go.RowKit
set_option linter.unusedVariables false
set_option linter.unusedSimpArgs false
set_option linter.unnecessarySimpa false
section
variable (tab : TabF) (q : Nat) (XA XB XC : Ing) (WA WB WC : Sw) (cl : List Cl) (cs : List AVal)
end
end Go.Ev
namespace Go.Ev
set_option linter.unusedVariables false
set_option linter.unusedSimpArgs false
set_option linter.unnecessarySimpa false
def subA (S:TT) (a:AVal):AVal:=
 match a with
 |.symi k i=>match S.get i with
  |some (.int _ n)=> .int k n
  |some (.symi _ j)=> .symi k j
  |_=>a
 |.symb i=>match S.get i with
  |some (.bool b)=> .bool b
  |some (.symb j)=> .symb j
  |_=>a
 |_=>a
def subL (S:TT):List AVal->List AVal
 |[]=>[]
 |a::l=>subA S a::subL S l
def subP (S:TT):List (AVal×AVal)->List (AVal×AVal)
 |[]=>[]
 |a::l=>(subA S a.1,subA S a.2)::subP S l
def allT:List (AVal×AVal)->Bool
 |[]=>true
 |a::l=>match eqV a.1 a.2 with
  |true=>match skOf a.1 with
   |some _=>allT l
   |none=>false
  |false=>false
theorem Qbi4 {a:AVal} {k:SK} (h:skOf a=some k) (σ:Sig):eqS (den σ a) (den σ a)=true:=by
 cases a<;>simp only [skOf,reduceCtorEq] at h<;>simp [den,eqS]
theorem Qxp {σ:Sig}: ∀{l:List (AVal×AVal)},allT l=true->(l.all fun x=>eqS (den σ x.1) (den σ x.2))=true
 |[],_=>rfl
 |(a,b)::l,h=>by
  simp only [allT] at h
  split at h
  ·rename_i he
   have:=Q9 _ _ he
   subst this
   split at h
   ·rename_i k hk
    simp only [List.all_cons,Qbi4 hk,Qxp h,Bool.and_self]
   ·cases h
  ·cases h
def Q27:AVal->AVal->Bool
 |.int _ a,.int _ b=> !(a==b)
 |.bool a,.bool b=> !(a==b)
 |_,_=>false
def Qkj:List (AVal×AVal)->Bool
 |[]=>false
 |a::l=>Q27 a.1 a.2||Qkj l
theorem Qxq {σ:Sig}: ∀{l:List (AVal×AVal)},Qkj l=true->(l.all fun x=>eqS (den σ x.1) (den σ x.2))=false
 |[],h=>by simp [Qkj] at h
 |(a,b)::l,h=>by
  simp only [Qkj,Bool.or_eq_true] at h
  simp only [List.all_cons,Bool.and_eq_false_iff]
  rcases h with h|h
  ·left
   unfold Q27 at h
   split at h<;>simp_all [den,eqS]
  ·right;exact Qxq h
def Qlo:List AVal->Bool
 |[]=>true
 |a::l=>Qcu a&&Qlo l
theorem Qez {σ:Sig} {a:AVal} (h:Qcu a=true):den σ a=a:=by
 cases a<;>simp only [Qcu,Bool.false_eq_true] at h<;>rfl
theorem Qtu {σ:Sig}: ∀{l:List AVal},Qlo l=true->l.map (den σ)=l
 |[],_=>rfl
 |a::l,h=>by
  simp only [Qlo,Bool.and_eq_true] at h
  simp only [List.map_cons,Qez h.1,Qtu h.2]
def litO (v:Option AVal):Option AVal:=
 match v with
 |some a=>match Qcu a with
  |true=>some a
  |false=>none
 |none=>none
theorem Qmb {v:Option AVal} {a:AVal} (h:litO v=some a):v=some a/\Qcu a=true:=by
 unfold litO at h
 split at h
 ·split at h
  ·rename_i hl;cases h;exact ⟨rfl,hl⟩
  ·cases h
 ·cases h
def Qla:SDef->Option AVal
 |.bin op a b=>match Qcu a&&Qcu b with
  |true=>litO (binS op a b)
  |false=>match eqV a b with
   |true=>match skOf a with
    |some .s=>none
    |some _=>match op with
     |.eql=>some (.bool true)
     |.neq=>some (.bool false)
     |_=>none
    |none=>none
   |false=>none
 |.un op a=>match Qcu a with
  |true=>litO (unA op a)
  |false=>none
 |.conv k a=>match Qcu a with
  |true=>litO (Qku k a)
  |false=>none
 |.low l=>match Qlo l with
  |true=>litO (minA l)
  |false=>none
 |.high l=>match Qlo l with
  |true=>litO (maxA l)
  |false=>none
 |.all l=>match allT l with
  |true=>some (.bool true)
  |false=>match Qkj l with
   |true=>some (.bool false)
   |false=>none
 |.ite c a b=>match c with
  |.bool true=>some a
  |.bool false=>some b
  |.symb _=>match eqV a b with
   |true=>some a
   |false=>none
  |_=>none
 |.sel l ix=>match ix with
  |.int _ n=>match l with
   |a::r=>some ((a::r).getD n.toNat a)
   |[]=>none
  |_=>none
 |_=>none
theorem Qz0 {σ:Sig} {d:SDef} {a:AVal} (h:Qla d=some a):Qb σ d=some (den σ a):=by
 unfold Qla at h
 split at h
 ·rename_i op x y
  split at h
  ·rename_i hl
   simp only [Bool.and_eq_true] at hl
   obtain ⟨h1,h2⟩:=Qmb h
   simp only [Qb,Qez hl.1,Qez hl.2,Qez h2,h1]
  ·split at h
   ·rename_i he
    have:=Q9 _ _ he
    subst this
    split at h
    ·cases h
    ·rename_i k hk1 hk
     split at h
     ·cases h
      cases x<;>simp only [skOf,reduceCtorEq,Option.some.injEq] at hk<;>first
       |(simp [Qb,den,binS,intA];done)
       |(exfalso;exact hk1 hk.symm)
     ·cases h
      cases x<;>simp only [skOf,reduceCtorEq,Option.some.injEq] at hk<;>first
       |(simp [Qb,den,binS,intA];done)
       |(exfalso;exact hk1 hk.symm)
     ·cases h
    ·cases h
   ·cases h
 ·rename_i op x
  split at h
  ·rename_i hl
   obtain ⟨h1,h2⟩:=Qmb h
   simp only [Qb,Qez hl,Qez h2,h1]
  ·cases h
 ·rename_i k x
  split at h
  ·rename_i hl
   obtain ⟨h1,h2⟩:=Qmb h
   simp only [Qb,Qez hl,Qez h2,h1]
  ·cases h
 ·rename_i l
  split at h
  ·rename_i hl
   obtain ⟨h1,h2⟩:=Qmb h
   simp only [Qb,Qtu hl,Qez h2,h1]
  ·cases h
 ·rename_i l
  split at h
  ·rename_i hl
   obtain ⟨h1,h2⟩:=Qmb h
   simp only [Qb,Qtu hl,Qez h2,h1]
  ·cases h
 ·rename_i l
  split at h
  ·rename_i hl
   cases h
   simp only [Qb];rw [Qxp hl];rfl
  ·split at h
   ·rename_i hl
    cases h
    simp only [Qb];rw [Qxq hl];rfl
   ·cases h
 ·rename_i c x y
  split at h
  ·cases h;simp [Qb,den]
  ·cases h;simp [Qb,den]
  ·split at h
   ·rename_i he
    have:=Q9 _ _ he
    subst this
    cases h
    simp [Qb,den]
   ·cases h
  ·cases h
 ·rename_i l ix
  split at h
  ·split at h
   ·cases h;simp [Qb,den]
   ·cases h
  ·cases h
 ·cases h
def Q6k (i:Nat) (r:AVal):Prop:=(∃k,r=.symi k i)\/r=.symb i\/r=.syms i
theorem Qj8 (a:AVal) (i:Nat):Q6k i (Qcj a i):=by
 cases a<;>first|exact .inl ⟨_,rfl⟩|exact .inr (.inl rfl)|exact .inr (.inr rfl)
theorem Qwc (d:SDef) (i:Nat):Q6k i (resS d i):=by
 cases d with
 |bin op a b=>cases op<;>first|exact Qj8 a i|exact .inr (.inl rfl)
 |un op a=>exact Qj8 a i
 |conv k a=>exact .inl ⟨_,rfl⟩
 |low l=>cases l<;>first|exact .inr (.inl rfl)|exact Qj8 _ i
 |high l=>cases l<;>first|exact .inr (.inl rfl)|exact Qj8 _ i
 |all l=>exact .inr (.inl rfl)
 |text l=>exact .inr (.inr rfl)
 |fn i k l=>exact .inl ⟨_,rfl⟩
 |fnb i l=>exact .inr (.inl rfl)
 |ite c a b=>exact Qj8 a i
 |sel l a=>cases l<;>first|exact .inr (.inl rfl)|exact Qj8 _ i
 |sop o l=>
  cases o<;>first|exact .inl ⟨_,rfl⟩|exact .inr (.inr rfl)|skip
  simp only [resS]
  split
  ·exact .inl ⟨_,rfl⟩
  ·exact .inr (.inl rfl)
end Go.Ev
namespace Go.Ev
open Go.RowKit
set_option linter.unusedVariables false
set_option linter.unusedSimpArgs false
set_option linter.unnecessarySimpa false
theorem Qbjf {ng:Cx} {σ:Sig} (hg:ng.Good σ) {d:SDef} {r:AVal} (h:symS ng d=some r):Qb σ d=some (den σ r):=by
 unfold symS at h
 split at h
 ·rename_i i hi
  have hl:=hg.look d i hi
  rw [hl]
  split at h
  ·rename_i j hr
   rw [hr]
   split at h
   ·rename_i b hb;cases h;simp only [den];rw [hg.fact _ _ hb]
   ·cases h;rfl
  ·rename_i k j hr
   rw [hr]
   split at h
   ·rename_i n hn;cases h;simp only [den];rw [hg.num _ _ hn]
   ·cases h;rfl
  ·rename_i r' hr1 hr2;cases h;rfl
 ·cases h
end Go.Ev
namespace Go.Ev
open Go.RowKit
set_option linter.unusedVariables false
set_option linter.unusedSimpArgs false
set_option linter.unnecessarySimpa false
end Go.Ev
namespace Go.Ev
open Go.RowKit
set_option linter.unusedVariables false
set_option linter.unusedSimpArgs false
set_option linter.unnecessarySimpa false
def Qe:Code->List Code
 |.seq x y=>Qe x++Qe y
 |c=>[c]
theorem Qbji {K J:Act->World->Prop} {Q:Exit->Act->World->Prop}:Exit.then J (Exit.then K Q)=Exit.then J Q:=by
 funext e a w;cases e<;>rfl
theorem Qk9 {P:Program}: ∀(c:Code) {K:Act->World->Prop} {Q:Exit->Act->World->Prop} {a:Act} {w:World},Qcs P (Qe c) K Q a w->c.wpIn (FR none) 0 P (Exit.then K Q) a w
 |.seq x y,K,Q,a,w,h=>by
  simp only [Qe,Qnx] at h
  refine wpIn_seq ?_
  rw [Qbji]
  refine wpIn_mono (Qk9 x h) fun e a' w' he=> ?_
  cases e with
  |normal=>exact Qk9 y he
  |_=>exact he
 |.skip,_,_,_,_,h|.region _ _ _,_,_,_,_,h|.cond _ _ _,_,_,_,_,h|.loop _,_,_,_,_,h|.rangeFunc _ _ _ _,_,_,_,_,h
 |.exit _,_,_,_,_,h|.ret,_,_,_,_,h|.label _,_,_,_,_,h|.goto _,_,_,_,_,h|.scope _,_,_,_,_,h|.refuse _,_,_,_,_,h|.block _ _,_,_,_,_,h=>h
def Qf (P:Program) (tab:TabF) (n:Nat) (W0:Fra) (Z:Exit->Act->World->Prop) (c:List Code) (S:Shape) (q:Nat) (ins:List (Option IntKind)) (J:Sig->Prop):Prop:=
 ∀a w σ,At tab S n σ W0 a w->Q4 σ q ins->J σ->σ.tab=tab->Qcs P c (Z .normal) Z a w
def EndZ (tab:TabF) (n:Nat) (W0:Fra) (Z:Exit->Act->World->Prop) (x:SEx) (s:Shape) (σ:Sig):Prop:=
 ∀e a w,Qbw σ x e->At tab s n σ W0 a w->Z e a w
theorem Qf.seg {P:Program} {tab:TabF} {n:Nat} {W0:Fra} {Z:Exit->Act->World->Prop} {c1 c2:List Code} {S S2:Shape} {q q2:Nat} {ins ins2:List (Option IntKind)} {J J2:Sig->Prop} {X:Ing} {Wt:Sw}
  (hm:P.follows .mixedOrders=true) (s:SegOk P tab n c1 S X Wt) (aX:X.m=q/\X.ins=ins) (hJ: ∀σ τ,Agree q σ τ->J σ->J τ) (hr: ∀τ,J τ->Qeb τ X.rows)
  (next:Qf P tab n W0 Z c2 S2 q2 ins2 J2)
  (o: ∀τ,Eqs τ q X.G->τ.tab=tab->Q4 τ q ins->J τ->Qds τ (fun x s σ2=>(x=.normal/\s=S2/\Q4 σ2 q2 ins2/\J2 σ2/\σ2.tab=tab)\/(x≠.normal/\EndZ tab n W0 Z x s σ2)) Wt []) (hp: ∀i,W0.pin i≠none->pinW i Wt=true:=by exact fun _ h=>absurd rfl h):
  Qf P tab n W0 Z (c1++c2) S q ins J:=by
 intro a w σ hA hi hj ht
 obtain ⟨rfl,rfl⟩:=aX
 have ag:=Qeo X.G X.m σ
 have hi2:Q4 (solve X.G X.m σ) X.m X.ins:=by
  intro i k hi' hk
  rw [<-(ag.val i hi').1];exact hi i k hi' hk
 have hj2:=hJ _ _ ag hj
 have ob:=o _ (Qgp s.ok) (by rw [<-ag.tab];exact ht) hi2 hj2
 rw [Qnx]
 refine s.run hm hA hi (hr _ hj2) ob ?_ hp
 rintro e a' w' x s2 σ2 hx hq hA2
 rcases hq with ⟨rfl,rfl,gi,gj,gt⟩|⟨hne,hz⟩
 ·cases e<;>simp only [Qbw] at hx
  exact next a' w' σ2 hA2 gi gj gt
 ·have:=hz e a' w' hx hA2
  cases e with
  |normal=>cases x<;>simp only [Qbw] at hx;exact absurd rfl hne
  |_=>exact this
theorem Qf.last {P:Program} {tab:TabF} {n:Nat} {W0:Fra} {Z:Exit->Act->World->Prop} {c1:List Code} {S:Shape} {q:Nat} {ins:List (Option IntKind)} {J:Sig->Prop} {X:Ing} {Wt:Sw}
  (hm:P.follows .mixedOrders=true) (s:SegOk P tab n c1 S X Wt) (aX:X.m=q/\X.ins=ins) (hJ: ∀σ τ,Agree q σ τ->J σ->J τ) (hr: ∀τ,J τ->Qeb τ X.rows)
  (o: ∀τ,Eqs τ q X.G->τ.tab=tab->Q4 τ q ins->J τ->Qds τ (EndZ tab n W0 Z) Wt []) (hp: ∀i,W0.pin i≠none->pinW i Wt=true:=by exact fun _ h=>absurd rfl h):
  Qf P tab n W0 Z c1 S q ins J:=by
 intro a w σ hA hi hj ht
 obtain ⟨rfl,rfl⟩:=aX
 have ag:=Qeo X.G X.m σ
 have hi2:Q4 (solve X.G X.m σ) X.m X.ins:=by
  intro i k hi' hk
  rw [<-(ag.val i hi').1];exact hi i k hi' hk
 have hj2:=hJ _ _ ag hj
 refine s.run hm hA hi (hr _ hj2) (o _ (Qgp s.ok) (by rw [<-ag.tab];exact ht) hi2 hj2) ?_ hp
 rintro e a' w' x s2 σ2 hx hz hA2
 have:=hz e a' w' hx hA2
 cases e with
 |normal=>exact this
 |_=>exact this
theorem Qf.loop {P:Program} {tab:TabF} {n:Nat} {W0:Fra} {Z:Exit->Act->World->Prop} {b:Code} {id:Nat} {c2:List Code} {S S2:Shape} {q q2:Nat} {ins ins2:List (Option IntKind)} {J J2:Sig->Prop} {X:Ing} {Wt:Sw} {μ:Sig->Nat}
  (hm:P.follows .mixedOrders=true) (s:SegOk P tab n [b] S X Wt) (aX:X.m=q/\X.ins=ins) (hJ: ∀σ τ,Agree q σ τ->J σ->J τ) (hμ: ∀σ τ,Agree q σ τ->μ σ=μ τ) (hr: ∀τ,J τ->Qeb τ X.rows)
  (next:Qf P tab n W0 Z c2 S2 q2 ins2 J2)
  (o: ∀τ,Eqs τ q X.G->τ.tab=tab->Q4 τ q ins->J τ->Qds τ (fun x s σ2=>(x=.normal/\s=S/\Q4 σ2 q ins/\J σ2/\σ2.tab=tab/\μ σ2<μ τ)\/(x=.exit id/\s=S2/\Q4 σ2 q2 ins2/\J2 σ2/\σ2.tab=tab)
   \/(x=.ret/\EndZ tab n W0 Z x s σ2)) Wt []) (hp: ∀i,W0.pin i≠none->pinW i Wt=true:=by exact fun _ h=>absurd rfl h):
  Qf P tab n W0 Z (.block id (.loop b)::c2) S q ins J:=by
 intro a w σ hA hi hj ht
 obtain ⟨rfl,rfl⟩:=aX
 show (Code.block id (.loop b)).wpIn (FR none) 0 P _ a w
 refine wpIn_block ?_
 let Inv:Nat->Act->World->Prop:=fun k a w=> ∃σ,At tab S n σ W0 a w/\Q4 σ X.m X.ins/\J σ/\σ.tab=tab/\k=μ σ
 refine Qu9 (Inv:=Inv) ?_ (μ σ) a w ⟨σ,hA,hi,hj,ht,rfl⟩
 clear hA hi hj ht a w
 rintro k a w ⟨σ,hA,hi,hj,ht,rfl⟩
 have ag:=Qeo X.G X.m σ
 have hi2:Q4 (solve X.G X.m σ) X.m X.ins:=by
  intro i k hi' hk
  rw [<-(ag.val i hi').1];exact hi i k hi' hk
 have hj2:=hJ _ _ ag hj
 have ob:=o _ (Qgp s.ok) (by rw [<-ag.tab];exact ht) hi2 hj2
 have:=s.run hm hA hi (hr _ hj2) ob (K:=fun a' w'=> ∃k',k'<μ σ/\Inv k' a' w')
  (Z:=fun e a' w'=>(e=.normal/\ ∃k',k'<μ σ/\Inv k' a' w')\/(e≠.normal/\Exit.inBlock id (Exit.then (Qcs P c2 (Z .normal) Z) Z) e a' w')) ?_ hp
 ·simp only [Qcs] at this
  refine wpIn_mono this fun e a' w' h=> ?_
  cases e with
  |normal=>exact .inl ⟨rfl,h⟩
  |_=>exact h
 ·rintro e a' w' x s3 σ3 hx hq0 hA3
  rcases hq0 with ⟨rfl,rfl,gins,gj,gtab,glt⟩|⟨rfl,rfl,gins,gk,gtab⟩|⟨rfl,gd⟩
  ·cases e<;>simp only [Qbw] at hx
   exact ⟨μ σ3,by rw [hμ _ _ ag];exact glt,σ3,hA3,gins,gj,gtab,rfl⟩
  ·cases e<;>simp only [Qbw] at hx
   subst hx
   refine .inr ⟨by simp,?_⟩
   simp only [Exit.inBlock,if_true]
   exact next a' w' σ3 hA3 gins gk gtab
  ·cases e<;>simp only [Qbw] at hx
   exact .inr ⟨by simp,gd .ret a' w' trivial hA3⟩
def Qu8 (j:Nat) (c:Code):Code:=
 match (Qe c)[j]? with
 |some (.block _ (.loop b))=>b
 |_=> .skip
end Go.Ev
namespace Go.Ev
open Go.RowKit
set_option linter.unusedVariables false
set_option linter.unusedSimpArgs false
set_option linter.unnecessarySimpa false
def BlkZ (P:Program) (id:Nat) (c2:List Code) (Z:Exit->Act->World->Prop):Exit->Act->World->Prop:=
 Exit.inBlock id (Exit.then (Qcs P c2 (Z .normal) Z) Z)
def Qgd (P:Program) (id:Nat) (c2:List Code) (Z:Exit->Act->World->Prop) (I:Nat->Act->World->Prop) (k:Nat):Exit->Act->World->Prop:=
 fun e a w=>(e=.normal/\ ∃k',k'<k/\I k' a w)\/(e≠.normal/\BlkZ P id c2 Z e a w)
def InvS (tab:TabF) (n:Nat) (W0:Fra) (S:Shape) (q:Nat) (ins:List (Option IntKind)) (J:Sig->Prop) (μ:Sig->Nat):Nat->Act->World->Prop:=
 fun k a w=> ∃σ,At tab S n σ W0 a w/\Q4 σ q ins/\J σ/\σ.tab=tab/\k=μ σ
theorem EndZ.blk {P:Program} {tab:TabF} {n:Nat} {W0:Fra} {Z:Exit->Act->World->Prop} {id:Nat} {c2:List Code} {S:Shape} {q:Nat} {ins:List (Option IntKind)} {J:Sig->Prop} {x:SEx} {σ:Sig}
  (h:Qf P tab n W0 Z c2 S q ins J) (hx:x=.normal\/x=.exit id) (hi:Q4 σ q ins) (hj:J σ) (ht:σ.tab=tab):EndZ tab n W0 (BlkZ P id c2 Z) x S σ:=by
 intro e a w hxe hA
 have:=h a w σ hA hi hj ht
 rcases hx with rfl|rfl
 ·cases e<;>simp only [Qbw] at hxe
  exact this
 ·cases e<;>simp only [Qbw] at hxe
  subst hxe
  simp only [BlkZ,Exit.inBlock,if_true]
  exact this
theorem EndZ.loop {P:Program} {tab:TabF} {n:Nat} {W0:Fra} {Z:Exit->Act->World->Prop} {id:Nat} {c2:List Code} {S:Shape} {q:Nat} {ins:List (Option IntKind)} {J:Sig->Prop} {μ:Sig->Nat} {k:Nat} {σ:Sig}
  (hi:Q4 σ q ins) (hj:J σ) (ht:σ.tab=tab) (hk:μ σ<k):EndZ tab n W0 (Qgd P id c2 Z (InvS tab n W0 S q ins J μ) k) .normal S σ:=by
 intro e a w hxe hA
 cases e<;>simp only [Qbw] at hxe
 exact .inl ⟨rfl,μ σ,hk,σ,hA,hi,hj,ht,rfl⟩
theorem EndZ.out {P:Program} {tab:TabF} {n:Nat} {W0:Fra} {Z:Exit->Act->World->Prop} {id:Nat} {c2:List Code} {I:Nat->Act->World->Prop} {k:Nat} {x:SEx} {s:Shape} {σ:Sig}
  (hx:x≠.normal) (h:EndZ tab n W0 (BlkZ P id c2 Z) x s σ):EndZ tab n W0 (Qgd P id c2 Z I k) x s σ:=by
 intro e a w hxe hA
 refine .inr ⟨?_,h e a w hxe hA⟩
 rintro rfl
 cases x<;>simp only [Qbw] at hxe
 exact hx rfl
theorem Qf.loopS {P:Program} {tab:TabF} {n:Nat} {W0:Fra} {Z:Exit->Act->World->Prop} {b:Code} {id:Nat} {c2:List Code} {S:Shape} {q:Nat} {ins:List (Option IntKind)} {J:Sig->Prop} {μ:Sig->Nat}
  (body: ∀k,Qf P tab n W0 (Qgd P id c2 Z (InvS tab n W0 S q ins J μ) k) (Qe b) S q ins (fun σ=>J σ/\μ σ=k)):
  Qf P tab n W0 Z (.block id (.loop b)::c2) S q ins J:=by
 intro a w σ hA hi hj ht
 show (Code.block id (.loop b)).wpIn (FR none) 0 P _ a w
 refine wpIn_block ?_
 refine Qu9 (Inv:=InvS tab n W0 S q ins J μ) ?_ (μ σ) a w ⟨σ,hA,hi,hj,ht,rfl⟩
 clear hA hi hj ht a w
 rintro k a w ⟨σ,hA,hi,hj,ht,rfl⟩
 have:=Qk9 _ (body (μ σ) a w σ hA hi ⟨hj,rfl⟩ ht)
 rwa [Qrn] at this
theorem Q9u {X Y:Fz} {σ:Sig} (h:σ.ext=fun i=>if i=0 then some X else none) {i:Nat} (hi:σ.ext i=some Y):Y=X:=by
 rw [h] at hi
 have hi:(if i=0 then some X else none)=some Y:=hi
 split at hi
 ·cases hi;rfl
 ·cases hi
theorem Agree.trans' {q:Nat} {σ τ υ:Sig} (h1:Agree q σ τ) (h2:Agree q τ υ):Agree q σ υ:=
 ⟨fun i hi=>⟨(h1.val i hi).1.trans (h2.val i hi).1,(h1.val i hi).2.1.trans (h2.val i hi).2.1,(h1.val i hi).2.2.trans (h2.val i hi).2.2⟩,h1.tab.trans h2.tab,h1.ext.trans h2.ext⟩
end Go.Ev
