/- The evaluator, part 7. -/
import Derived.OpenShut
import Derived.ChangeArms
import Derived.ChangeReads
import Derived.DataReads
import Derived.Deep.Slices
import Derived.ChangeSlices
import Derived.WideShapes
import Derived.Test.YtelimhjceiamcaaDoorTEv6
set_option linter.unusedVariables false
set_option linter.unusedSimpArgs false
set_option linter.unnecessarySimpa false
namespace Go.Ev
set_option linter.unusedSimpArgs false
abbrev TabF:=Nat->List Int->Int
def Qbj8:TabF:=fun _ _=>0
abbrev Qs3:=(SDef->Option AVal)->(Nat->Option IntKind)->FuncId->List AVal->Option AVal
def Qgf:Qs3:=fun _ _ _ _=>none
abbrev Qe1:=(SDef->Option AVal)->FuncId->List AVal->Hp->Option (AVal×Hp)
def noMh:Qe1:=fun _ _ _ _=>none
def Qij:List Fact->Nat->Bool
 |[],_=>false
 |x::F,i=>match x with
  |.non j n=>match Nat.beq j i with
   |true=>match n with
    |.ofNat 0=>true
    |_=>Qij F i
   |false=>Qij F i
  |_=>Qij F i
theorem Qrk {V:Sig}: ∀{F:List Fact} {i:Nat},Qij F i=true->Qo V F->V.i i≠0
 |[],_,h,_=>by simp [Qij] at h
 |x::F,i,h,hF=>by
  simp only [Qij] at h;split at h;split at h;rename_i hs;have:=Nat.eq_of_beq_eq_true hs;subst this;split at h;exact hF.1;exact Qrk h hF.2;exact Qrk h hF.2;exact Qrk h hF.2
structure RowS where
 len:AVal
 els:List (AVal×List AVal)
inductive KdT where
 |e
 |n (l:KdT) (k:Option IntKind) (r:KdT)
def KdT.get:KdT->Nat->Option IntKind
 |.e,_=>none
 |.n l v r,i=>match i with
  |0=>v
  |i+1=>match Nat.beq (i%2) 0 with
   |true=>l.get (i/2)
   |false=>r.get (i/2)
def Qs6 (V:Sig):List (Nat×AVal×List (Option IntKind))->Prop
 |[]=>True
 |p::l=>(∀X,V.ext p.1=some X->StrX V p.2.1 p.2.2 X)/\Qs6 V l
def Qsq:List (Nat×AVal×List (Option IntKind))->Nat->Option (AVal×List (Option IntKind))
 |[],_=>none
 |p::l,i=>match Nat.beq p.1 i with
  |true=>some p.2
  |false=>Qsq l i
theorem Q9a {V:Sig}: ∀{l:List (Nat×AVal×List (Option IntKind))} {i:Nat} {s:AVal} {cl:List (Option IntKind)} {X:Fz},Qs6 V l->Qsq l i=some (s,cl)->V.ext i=some X->StrX V s cl X
 |[],_,_,_,_,_,h,_=>by cases h
 |p::l,i,s,cl,X,ho,h,hX=>by
  simp only [Qsq] at h;split at h;rename_i hb;have:=Nat.eq_of_beq_eq_true hb;subst this;have h:p.2=(s,cl):=Option.some.inj h;have:=ho.1 X hX;rw [h] at this;exact this;exact Q9a ho.2 h hX
structure Ing where
 n:Nat:=0
 m:Nat
 ins:List (Option IntKind):=[]
 G:List SDef
 T:LT
 tab:TabF:=Qbj8
 hook:Qs3:=Qgf
 rows:List RowS:=[]
 cuts:List (Nat×AVal×Nat):=[]
 inv:Sig->Prop:=fun _=>True
 dk:Nat:=4
 kb:Nat:=0
 kt:KdT:=.e
 mh:Qe1:=noMh
 atoms:List (Nat×Bool):=[]
 insf:Option (Nat×Nat):=none
 lsts:List (Nat×List (Option IntKind)):=[]
 strs:List (Nat×AVal×List (Option IntKind)):=[]
 strok: ∀V,inv V->Qs6 V strs:=by exact fun _ _=>trivial
 ph:Qe1:=noMh
 fu:Nat:=1000
def Qv3 (X:Ing) (F:List Fact) (d:SDef):Option Nat:=
 match Qcs d with
 |some j=>match Qij F j with
  |true=>Qhg d (Q1l d) X.T
  |false=>none
 |none=>Qhg d (Q1l d) X.T
def inK (kd:Nat->Option IntKind) (k:IntKind):AVal->Bool
 |.int k' n=>decide (k=k')&&(k.wrap n==n)
 |.symi k' i=>decide (k=k')&&(match kd i with
  |some k''=>decide (k=k'')
  |none=>false)
 |_=>false
def inKs (kd:Nat->Option IntKind) (k:IntKind):List AVal->Bool
 |[]=>true
 |a::l=>inK kd k a&&inKs kd k l
def kdD (kd:Nat->Option IntKind) (d:SDef):Option IntKind:=
 match Qcs d with
 |some _=>none
 |none=>match d with
  |.bin op a _=>match skOf a with
   |some (.i k)=>match op with
    |.add|.sub|.mul|.quo|.and|.or|.xor|.andNot|.shl=>some k
    |.rem|.shr=>match inK kd k a with
     |true=>some k
     |false=>none
    |_=>none
   |_=>none
  |.conv k _=>some k
  |.fn _ k _=>some k
  |.sop .at _=>some .u8
  |.sop (.cell cl j) _=>match cl[j]? with
   |some (some k)=>some k
   |_=>none
  |.ite _ a b=>match skOf a with
   |some (.i k)=>match inK kd k a&&inK kd k b with
    |true=>some k
    |false=>none
   |_=>none
  |.sel l _=>match l with
   |a::r=>match skOf a with
    |some (.i k)=>match inKs kd k (a::r) with
     |true=>some k
     |false=>none
    |_=>none
   |[]=>none
  |.low l=>match l with
   |[a,b]=>match skOf a with
    |some (.i k)=>match inK kd k a&&inK kd k b with
     |true=>some k
     |false=>none
    |_=>none
   |_=>none
  |_=>none
def kdF (m:Nat) (ins:List (Option IntKind)) (G:List SDef):Nat->Nat->Option IntKind
 |0,_=>none
 |n+1,i=>match Nat.blt i m with
  |true=>(ins[i]?).getD none
  |false=>match G[i-m]? with
   |some d=>kdD (kdF m ins G n) d
   |none=>none
def Eqs (V:Sig) (m:Nat) (G:List SDef):Prop:= ∀k d,G[k]? =some d->(∀j,Qcs d=some j->V.i j≠0)->Qb V d=some (den V (resS d (m+k)))
theorem Qfy {m:Nat} {G:List SDef} {V:Sig} (hG:okG G m=true):Eqs (solve G m V) m G:=fun _ _ hd hc=>Q85 hG hd hc
theorem Eqs.at {V:Sig} {m:Nat} {G:List SDef} (e:Eqs V m G) (k:Nat) (d:SDef) (h:G[k]? =some d) (hc:Qcs d=none):Qb V d=some (den V (resS d (m+k))):=e k d h (fun j hj=>by rw [hc] at hj;cases hj)
def Qx (V:Sig) (m:Nat) (ins:List (Option IntKind)):Prop:= ∀(i:Nat) (k:IntKind),i<m->(ins[i]?).getD none=some k->k.wrap (V.i i)=V.i i
def Qd8 (V:Sig) (rows:List RowS):Prop:=
 ∀i r X,rows[i]? =some r->V.ext i=some X->den V r.len=.int .i64 X.len/\
  ∀p,p∈r.els-> ∀m:Nat,den V p.1=.int .i64 m->m<X.len->p.2.length=X.z/\ ∀(j:Nat) (c:AVal),p.2[j]? =some c->den V c=X.val m j
def Qs1 (V:Sig) (cuts:List (Nat×AVal×Nat)):Prop:=
 ∀p,p∈cuts-> ∀X,V.ext p.1=some X-> ∃Y,V.ext p.2.2=some Y/\Y.blk=X.blk/\Y.off=X.off/\Y.len<=X.len/\den V p.2.1=.int .i64 Y.len
theorem Qv {V:Sig}:Qd8 V []:=fun i r X h=>by simp at h
theorem Qlr {V:Sig}:Qs1 V []:=fun p hp=>by cases hp
theorem Qfb {V:Sig} {kd:Nat->Option IntKind} (hk: ∀i k,kd i=some k->k.wrap (V.i i)=V.i i) {k:IntKind} {a:AVal} (h:inK kd k a=true): ∃n,den V a=.int k n/\k.wrap n=n:=by
 unfold inK at h;split at h;simp only [Bool.and_eq_true,decide_eq_true_eq,beq_iff_eq] at h;obtain ⟨rfl,h⟩:=h;exact ⟨_,rfl,h⟩;rename_i k' i;simp only [Bool.and_eq_true,decide_eq_true_eq] at h;obtain ⟨rfl,h⟩:=h;split at h;rename_i k'' hi;simp only [decide_eq_true_eq] at h;subst h;exact ⟨_,rfl,hk i _ hi⟩;cases h;cases h
theorem Q1p {kd:Nat->Option IntKind} {k:IntKind}: ∀{l:List AVal},inKs kd k l=true-> ∀a,a∈l->inK kd k a=true
 |b::l,h,a,ha=>by
  simp only [inKs,Bool.and_eq_true] at h;rcases List.mem_cons.1 ha with rfl|ha
  exact h.1;exact Q1p h.2 a ha
theorem Qbo5 (k:IntKind) {x:Int} (y:Int) (h:k.wrap x=x):k.wrap (x.tmod y)=x.tmod y:=by
 have hb:(0<=x/\0<=x.tmod y/\x.tmod y<=x)\/(x<0/\x<=x.tmod y/\x.tmod y<=0):=by
  have hm:(x.tmod y).natAbs<=x.natAbs:=by rw [Int.natAbs_tmod];exact Nat.mod_le _ _
  by_cases h0:0<=x;have:=Int.tmod_nonneg y h0;exact .inl ⟨h0,this,by omega⟩;have h1:0<=(-x).tmod y:=Int.tmod_nonneg y (by omega);rw [Int.neg_tmod] at h1;exact .inr ⟨by omega,by omega,by omega⟩
 generalize x.tmod y=z at hb;cases k<;>simp [IntKind.wrap,IntKind.bits,IntKind.signed] at h⊢ <;>omega
theorem Qbo4 (k:IntKind) {n:Int} (q:Nat) (h:k.wrap n=n):k.wrap (n.fdiv (2^q))=n.fdiv (2^q):=by
 rw [Int.fdiv_eq_ediv_of_nonneg _ (Int.le_of_lt (Int.pow_pos (by decide)))];have hp:(0:Int)<2^q:=Int.pow_pos (by decide);generalize hP:(2:Int)^q=p at*;have key: ∀lo hi:Int,lo<=0->0<=hi->lo<=n->n<=hi->lo<=n/p/\n/p<=hi:=by
  intro lo hi h0 h1 h2 h3;rcases Int.le_total 0 n with h4|h4
  have:=Int.ediv_nonneg h4 (Int.le_of_lt hp);have:=Int.ediv_le_self p h4;omega;constructor;rw [Int.le_ediv_iff_mul_le hp];have:lo*p<=lo*1:=Int.mul_le_mul_of_nonpos_left h0 (by omega);omega;have:n/p<=0:=by
   have:=Int.ediv_le_ediv hp h4;simpa using this
  omega
 cases k<;>simp only [IntKind.wrap,IntKind.bits,IntKind.signed] at h⊢ <;>simp at h⊢
 all_goals first
  |(have:=key 0 18446744073709551615 (by omega) (by omega) (by omega) (by omega);omega)
  |(have:=key (-9223372036854775808) 9223372036854775807 (by omega) (by omega) (by (repeat' split at h)<;>omega) (by (repeat' split at h)<;>omega);(repeat' split)<;>omega)
  |(have:=key (-2147483648) 2147483647 (by omega) (by omega) (by (repeat' split at h)<;>omega) (by (repeat' split at h)<;>omega);(repeat' split)<;>omega)
  |(have:=key (-32768) 32767 (by omega) (by omega) (by (repeat' split at h)<;>omega) (by (repeat' split at h)<;>omega);(repeat' split)<;>omega)
  |(have:=key (-128) 127 (by omega) (by omega) (by (repeat' split at h)<;>omega) (by (repeat' split at h)<;>omega);(repeat' split)<;>omega)
  |(have:=key 0 4294967295 (by omega) (by omega) (by omega) (by omega);omega)
  |(have:=key 0 65535 (by omega) (by omega) (by omega) (by omega);omega)
  |(have:=key 0 255 (by omega) (by omega) (by omega) (by omega);omega)
theorem Q14 {V:Sig} {kd:Nat->Option IntKind} (ih: ∀i k,kd i=some k->k.wrap (V.i i)=V.i i) {d:SDef} {i:Nat} (he:Qcs d=none->Qb V d=some (den V (resS d i))) {k:IntKind} (h:kdD kd d=some k):k.wrap (V.i i)=V.i i:=by
 unfold kdD at h;split at h;cases h;rename_i hc;have e:=he hc;split at h;rename_i op a b;split at h
 ·rename_i k' ha
  obtain ⟨⟨x,hx⟩,hl⟩:=sk_i ha V;have go: ∀(y:AVal),resS (.bin op a b) i=.symi k' i->(∃z,Qb V (.bin op a b)=some (.int k' (k'.wrap z)))->k'=k->k.wrap (V.i i)=V.i i:=by
   rintro y hr ⟨z,hz⟩ rfl;rw [hr,hz] at e;simp only [den,Option.some.injEq,AVal.int.injEq,true_and] at e;rw [<-e,Qs0]
  have ev: ∀v,Qb V (.bin op a b)=some v-> ∃k2 y,den V b=.int k2 y:=by
   intro v hv;simp only [Qb,hx] at hv;generalize den V b=q at hv;cases q<;>simp only [binS,reduceCtorEq] at hv;exact ⟨_,_,rfl⟩
  obtain ⟨k2,y,hy⟩:=ev _ e;cases op<;>(try simp only [Option.some.injEq,reduceCtorEq] at h)
  case rem=>
   split at h;rename_i hin;cases h;obtain ⟨n,hn,wn⟩:=Qfb ih hin;rw [show resS (.bin .rem a b) i=.symi k i by simp only [resS,hl]] at e;simp only [Qb,hn,hy,binS,intA] at e;split at e;split at e;cases e;simp only [den,Option.some.injEq,AVal.int.injEq,true_and] at e;rw [<-e];exact Qbo5 k _ wn;cases e;cases h
  case shr=>
   split at h;rename_i hin;cases h;obtain ⟨n,hn,wn⟩:=Qfb ih hin;rw [show resS (.bin .shr a b) i=.symi k i by simp only [resS,hl]] at e;simp only [Qb,hn,hy,binS,intA] at e;split at e;cases e;simp only [den,Option.some.injEq,AVal.int.injEq,true_and] at e;rw [<-e];exact Qbo4 k _ wn;cases h
  case quo=>
   refine go (.nilptr) (by simp only [resS,hl]) ?_ h;rw [e];simp only [Qb,hx,hy,binS,intA] at e;split at e;split at e;cases e;rename_i hk _;subst hk;exact ⟨_,by rw [<-e]⟩;cases e
  case shl=>
   refine go (.nilptr) (by simp only [resS,hl]) ?_ h;rw [e];simp only [Qb,hx,hy,binS,intA] at e;split at e;cases e;exact ⟨_,by rw [<-e]⟩
  all_goals
   refine go (.nilptr) (by simp only [resS,hl]) ?_ h;rw [e];simp only [Qb,hx,hy,binS,intA] at e;split at e;exact ⟨_,by rw [<-e]⟩;cases e
 cases h;rename_i k' a;cases h;simp only [Qb] at e;generalize den V a=q at e;cases q<;>simp only [Qjc,resS,den,Option.some.injEq,AVal.int.injEq,true_and,reduceCtorEq] at e;rw [<-e,Qs0];rename_i id k' l;cases h;simp only [Qb,resS,den,Option.some.injEq,AVal.int.injEq,true_and] at e;rw [<-e,Qs0];rename_i l;cases h;simp only [Qb,resS,den,sopA] at e;split at e;rename_i s k' n _;simp only [Option.some.injEq,AVal.int.injEq,true_and] at e;rw [<-e];generalize s.data.toList.getD n.toNat 0=c;have:=UInt8.toNat_lt c;simp [IntKind.wrap,IntKind.bits,IntKind.signed];omega;cases e;rename_i cl j l;split at h;rename_i k' hj;cases h;simp only [Qb,resS,den,sopA,hj] at e;split at e;rename_i s k'' n _;simp only [Qm,Option.some.injEq] at e;rcases Qgw cl j (s.data.toList.drop (n.toNat*rsz cl)) with ⟨k3,n3,h1,h2⟩|⟨h1,b,h2⟩
 rw [hj] at h1;cases h1;have h4:=Qo9 cl j (s.data.toList.drop (n.toNat*rsz cl)) h2;rw [h2] at e;simp only [den,AVal.int.injEq,true_and] at e;rw [<-e,h4];exact absurd hj (h1 k);cases e;cases h;rename_i c a b;split at h;rename_i k' ha;split at h;rename_i hh;cases h;simp only [Bool.and_eq_true] at hh;obtain ⟨x,hx,wx⟩:=Qfb ih hh.1;obtain ⟨y,hy,wy⟩:=Qfb ih hh.2;obtain ⟨_,hl⟩:=sk_i ha V;simp only [Qb,resS,hl,hx,hy] at e;generalize den V c=q at e;cases q<;>simp only [reduceCtorEq] at e;rename_i bb;cases bb<;>simp only [cond_true,cond_false,den,Option.some.injEq,AVal.int.injEq,true_and] at e;rw [<-e];exact wy;rw [<-e];exact wx;cases h;cases h;rename_i l ix;split at h;rename_i a r;split at h;rename_i k' ha;split at h;rename_i hh;cases h;obtain ⟨_,hl⟩:=sk_i ha V;simp only [Qb,resS,hl] at e;generalize den V ix=q at e;cases q<;>simp only [reduceCtorEq] at e;rename_i k3 z;have hmem:(a::r).getD z.toNat a∈a::r:=by
  simp only [List.getD_eq_getElem?_getD];cases hg:(a::r)[z.toNat]? with
  |none=>simp
  |some c=>simpa using List.mem_of_getElem? hg
 obtain ⟨x,hx,wx⟩:=Qfb ih (Q1p hh _ hmem);rw [hx] at e;simp only [den,Option.some.injEq,AVal.int.injEq,true_and] at e;rw [<-e];exact wx;cases h;cases h;cases h;rename_i l;split at h;rename_i a b;split at h;rename_i k' ha;split at h;rename_i hh;cases h;simp only [Bool.and_eq_true] at hh;obtain ⟨x,hx,wx⟩:=Qfb ih hh.1;obtain ⟨y,hy,wy⟩:=Qfb ih hh.2;obtain ⟨_,hl⟩:=sk_i ha V;rw [show Qb V (.low [a,b])=some (.int k (if y<x then y else x)) by simp only [Qb,List.map,hx,hy,minA]] at e;simp only [resS,hl,den] at e;have e2:(if y<x then y else x)=V.i i:=by injection e with e;injection e
 rw [<-e2];split;exact wy;exact wx;cases h;cases h;cases h;cases h
theorem Q15 {V:Sig} {m:Nat} {ins:List (Option IntKind)} {G:List SDef} (hG:Eqs V m G) (hi:Qx V m ins): ∀(n i:Nat) (k:IntKind),kdF m ins G n i=some k->k.wrap (V.i i)=V.i i
 |0,_,_,h=>by simp [kdF] at h
 |n+1,i,k,h=>by
  have ih:=Q15 hG hi n;simp only [kdF] at h;split at h;rename_i hlt;exact hi i k (by rw [Nat.blt_eq] at hlt;exact hlt) h;rename_i hge;have hge:m<=i:=by
   have: ¬(i<m):=fun h=>by rw [<-Nat.blt_eq] at h;rw [h] at hge;cases hge
   omega
  split at h;rename_i d hd;have hmi:m+(i-m)=i:=by omega
  exact Q14 ih (fun hc=>by have e:=hG.at (i-m) d hd hc;rwa [hmi] at e) h;cases h
def okKs (kt:KdT):List SDef->Nat->Bool
 |[],_=>true
 |d::G,i=>(match kt.get i with
  |none=>true
  |some k=>match kdD (fun j=>match Nat.blt j i with
    |true=>kt.get j
    |false=>none) d with
   |some k'=>decide (k=k')
   |none=>false)&&okKs kt G (i+1)
def okKi (kt:KdT):List (Option IntKind)->Nat->Bool
 |[],_=>true
 |o::r,i=>(match kt.get i with
  |none=>true
  |some k=>match o with
   |some k'=>decide (k=k')
   |none=>false)&&okKi kt r (i+1)
def okKt (X:Ing):Bool:=
 match X.kb with
 |0=>true
 |b+1=>Nat.beq (b+1) (X.m+X.G.length)&&(Nat.beq X.ins.length X.m&&(okKi X.kt X.ins 0&&okKs X.kt X.G X.m))
def kdX (X:Ing) (i:Nat):Option IntKind:=
 match X.kb with
 |0=>kdF X.m X.ins X.G X.dk i
 |b+1=>match Nat.blt i (b+1) with
  |true=>X.kt.get i
  |false=>none
theorem Q67 {kt:KdT}: ∀{l:List (Option IntKind)} {i:Nat},okKi kt l i=true-> ∀(j:Nat) (k:IntKind),j<l.length->kt.get (i+j)=some k->(l[j]?).getD none=some k
 |[],_,_,j,k,hj,_=>by simp at hj
 |o::r,i,h,0,k,_,hg=>by
  simp only [okKi,Bool.and_eq_true] at h;have h1:=h.1;rw [Nat.add_zero] at hg;rw [hg] at h1;simp only at h1;split at h1;simp only [decide_eq_true_eq] at h1;subst h1;simp;cases h1
 |o::r,i,h,j+1,k,hj,hg=>by
  simp only [okKi,Bool.and_eq_true] at h;have:=Q67 h.2 j k (by simpa using hj) (by rw [show i+1+j=i+(j+1) by omega];exact hg);simpa using this
theorem Q68 {kt:KdT}: ∀{G:List SDef} {i:Nat},okKs kt G i=true-> ∀(j:Nat) (k:IntKind) (d:SDef),G[j]? =some d->kt.get (i+j)=some k->kdD (fun x=>match Nat.blt x (i+j) with|true=>kt.get x|false=>none) d=some k
 |[],_,_,j,k,d,hd,_=>by simp at hd
 |e::G,i,h,0,k,d,hd,hg=>by
  simp only [List.getElem?_cons_zero,Option.some.injEq] at hd;subst hd;simp only [okKs,Bool.and_eq_true] at h;have h1:=h.1;rw [Nat.add_zero] at hg⊢;rw [hg] at h1;simp only at h1;split at h1;rename_i k' hk;simp only [decide_eq_true_eq] at h1;subst h1;exact hk;cases h1
 |e::G,i,h,j+1,k,d,hd,hg=>by
  simp only [okKs,Bool.and_eq_true] at h;have:=Q68 h.2 j k d (by simpa using hd) (by rw [show i+1+j=i+(j+1) by omega];exact hg);rwa [show i+1+j=i+(j+1) by omega] at this
theorem Qqp {V:Sig} {X:Ing} (hG:Eqs V X.m X.G) (hi:Qx V X.m X.ins) (hk:okKt X=true): ∀(i:Nat) (k:IntKind),kdX X i=some k->k.wrap (V.i i)=V.i i:=by
 intro i k h;unfold kdX at h;unfold okKt at hk;cases hb:X.kb with
 |zero=>rw [hb] at h;exact Q15 hG hi _ i k h
 |succ b=>
  rw [hb] at h hk;simp only [Bool.and_eq_true] at h hk;obtain ⟨q1,q2,q3,q4⟩:=hk;have q1:=Nat.eq_of_beq_eq_true q1;have q2:=Nat.eq_of_beq_eq_true q2;split at h
  ·rename_i hlt
   have hlt:i<b+1:=by rw [Nat.blt_eq] at hlt;exact hlt
   clear hb;induction i using Nat.strongRecOn generalizing k with
   |ind i ih=>
    by_cases him:i<X.m;exact hi i k him (Q67 q3 i k (by omega) (by rw [Nat.zero_add];exact h));have hmi:X.m+(i-X.m)=i:=by omega
    cases hd:X.G[i-X.m]? with
    |none=>
     have:=List.getElem?_eq_none_iff.1 hd;omega
    |some d=>
     have:=Q68 q4 (i-X.m) k d hd (by rw [hmi];exact h);rw [hmi] at this;refine Q14 (kd:=_) (fun j k' hj=> ?_) (fun hc=>by have e:=hG.at (i-X.m) d hd hc;rwa [hmi] at e) this;split at hj;rename_i hji;have hji:j<i:=by rw [Nat.blt_eq] at hji;exact hji
     exact ih j hji k' (by rw [Nat.blt_eq];omega) hj (by omega);cases hj
  cases h
structure BaseOk (X:Ing) (V:Sig):Prop where
 eqs:Eqs V X.m X.G
 tab:V.tab=X.tab
 ins:Qx V X.m X.ins
 rows:Qd8 V X.rows
 cuts:Qs1 V X.cuts
 inv:X.inv V
 kt:okKt X=true
def Q5 (X:Ing) (F:List Fact):Cx where
 n:=X.n
 look:=Qv3 X F
 fact:=Qjj F
 num:=Qgg F
 hook:=fun _ _=>none
 tab:=X.tab
 kd:=kdX X
 ok:=fun V=>Qo V F/\BaseOk X V
def Qxi (rows:List RowS) (i:Nat):Option AVal:=
 match rows[i]? with
 |some r=>some r.len
 |none=>none
def Ql2 (ix:AVal):List (AVal×List AVal)->Option (List AVal)
 |[]=>none
 |p::l=>match Qit p.1 ix with
  |true=>some p.2
  |false=>Ql2 ix l
def Qjs (a:AVal):Bool:=
 match skOf a with
 |some (.i k)=>decide (k=.i64)
 |_=>false
def numA (num:Nat->Option Int):AVal->Option Int
 |.int _ n=>some n
 |.symi _ j=>num j
 |_=>none
def Qxd (look:SDef->Option AVal) (num:Nat->Option Int) (rows:List RowS) (i:Nat) (ix:AVal):Option (List AVal):=
 match rows[i]? with
 |some r=>match Ql2 ix r.els with
  |some us=>match Qjs ix&&Qjs r.len with
   |true=>match numA num ix,numA num r.len with
    |some a,some b=>match decide (0<=a)&&decide (a<b) with
     |true=>some us
     |false=>none
    |_,_=>match look (.bin .leq (.int .i64 0) ix),look (.bin .lss ix r.len) with
     |some (.bool true),some (.bool true)=>some us
     |_,_=>none
   |false=>none
  |none=>none
 |none=>none
theorem Que {ix:AVal}: ∀{l:List (AVal×List AVal)} {us:List AVal},Ql2 ix l=some us->(ix,us)∈l
 |[],_,h=>by simp [Ql2] at h
 |p::l,us,h=>by
  simp only [Ql2] at h;split at h;rename_i hs;cases h;have:=Qof hs;rw [<-this];simp;exact List.mem_cons_of_mem _ (Que h)
theorem Qql {a:AVal} (h:Qjs a=true) (V:Sig): ∃x,den V a=.int .i64 x:=by
 unfold Qjs at h;split at h;rename_i k hk;have:=of_decide_eq_true h;subst this;exact (sk_i hk V).1;cases h
def cutF (cuts:List (Nat×AVal×Nat)) (i:Nat) (a:AVal):Option Nat:=
 match cuts with
 |[]=>none
 |p::l=>match Nat.beq p.1 i&&Qit p.2.1 a with
  |true=>some p.2.2
  |false=>cutF l i a
theorem Qzq {i k:Nat} {a:AVal}: ∀{l:List (Nat×AVal×Nat)},cutF l i a=some k->(i,a,k)∈l
 |[],h=>by simp [cutF] at h
 |(x,y,z)::l,h=>by
  simp only [cutF] at h;split at h;rename_i hs;cases h;simp only [Bool.and_eq_true] at hs;have h1:=Nat.eq_of_beq_eq_true hs.1;have h2:=Qof hs.2;subst h1;subst h2;simp;exact List.mem_cons_of_mem _ (Qzq h)
def sdfG (m:Nat) (G:List SDef) (i:Nat):Option SDef:=
 match Nat.ble m i with
 |true=>match G[i-m]? with
  |some d=>match Qcs d with
   |none=>some d
   |some _=>none
  |none=>none
 |false=>none
theorem Qbnb {X:Ing} {V:Sig} (he:Eqs V X.m X.G) {i:Nat} {d:SDef} (h:sdfG X.m X.G i=some d):Qb V d=some (den V (resS d i)):=by
 unfold sdfG at h;split at h;rename_i hm;have hm:=Nat.le_of_ble_eq_true hm;split at h;rename_i d' hl;split at h;rename_i hc;cases h;have:=he.at (i-X.m) _ hl hc;rw [show X.m+(i-X.m)=i by omega] at this;exact this;cases h;cases h;cases h
def cxOf (X:Ing):CxF:=fun F=>{Q5 X F with hook:=X.hook (symS (Q5 X F)) (kdX X),rlen:=Qxi X.rows,rat:=Qxd (symS (Q5 X F)) (Qgg F) X.rows,rcut:=cutF X.cuts,mhook:=X.mh (symS (Q5 X F)),phook:=X.ph (symS (Q5 X F)),sdf:=sdfG X.m X.G,insf:=X.insf,atoms:=X.atoms,lsts:=X.lsts,rstr:=Qsq X.strs}
theorem Q56 {X:Ing} {F:List Fact} {V:Sig} (hT:okLT X.m X.G X.T=true) (hb:BaseOk X V) (hF:Qo V F) {d:SDef} {i:Nat} (h:Qv3 X F d=some i):Qb V d=some (den V (resS d i)):=by
 unfold Qv3 at h;split at h;rename_i j hj;split at h;rename_i hn;obtain ⟨k,rfl,hk⟩:=Qnu hT h;exact hb.eqs k d hk (fun j' hj'=>by rw [hj] at hj';cases hj';exact Qrk hn hF);cases h;rename_i hj;obtain ⟨k,rfl,hk⟩:=Qnu hT h;exact hb.eqs k d hk (fun j' hj'=>by rw [hj] at hj';cases hj')
theorem Qte {X:Ing} {F:List Fact} {V:Sig} (hT:okLT X.m X.G X.T=true) (hb:BaseOk X V) (hF:Qo V F):(Q5 X F).Good V:=
 ⟨fun _ _ h=>Q56 hT hb hF h,fun _ _ h=>Qpz h hF,fun _ _ h=>Qrr h hF,hb.tab,fun _ _ _ h=>by simp [Q5] at h,fun _ _ _ _ h=>by simp [Q5] at h,fun _ _ _ _ h=>by simp [Q5] at h,
  fun i k h=>Qqp hb.eqs hb.ins hb.kt i k h,fun _ _ h=>by simp [Q5] at h,fun _ _ _ _ h=>by simp [Q5] at h,⟨hF,hb⟩⟩
theorem Q9g {ng:Cx} {V:Sig} {d:SDef} {b:Bool} (hg:ng.Good V) (h:symS ng d=some (.bool true)) (hd:Qb V d=some (.bool b)):b=true:=by
 obtain ⟨q,h1,h2⟩:=Qcp (g:=⟨fun _=>none,V,fun _=>none⟩) hg h;rw [hd] at h1;cases h1;have:=h2 (.bool b) (.bool b);cases this;rfl
theorem Q6z {X0:Ing} {F:List Fact} {V:Sig} (hb:(Q5 X0 F).Good V) {a:AVal} {n x:Int} {k:IntKind} (h:numA (Qgg F) a=some n) (hx:den V a=.int k x):n=x:=by
 unfold numA at h;split at h;cases h;simp only [den] at hx;cases hx;rfl;rename_i j;have:=hb.num j n h;simp only [den] at hx;cases hx;exact this.symm;cases h
theorem Qblp {X0:Ing} {F:List Fact} {rows:List RowS} {V:Sig} (hb:(Q5 X0 F).Good V) (hr:Qd8 V rows) {i:Nat} {a:AVal} {cs:List AVal} {X:Fz}
  (h:Qxd (symS (Q5 X0 F)) (Qgg F) rows i a=some cs) (hX:V.ext i=some X): ∃m:Nat,den V a=.int .i64 m/\m<X.len/\cs.length=X.z/\ ∀(j:Nat) (c:AVal),cs[j]? =some c->den V c=X.val m j:=by
 unfold Qxd at h;split at h;rename_i r hri;split at h;rename_i us hus;split at h;rename_i hk;simp only [Bool.and_eq_true] at hk;split at h;rename_i ia ib na nb;split at h;rename_i hab;cases h;simp only [Bool.and_eq_true,decide_eq_true_eq] at hab;obtain ⟨x,hx⟩:=Qql hk.1 V;obtain ⟨r1,r2⟩:=hr i r X hri hX;have e1:=Q6z hb na hx;have e2:=Q6z hb nb r1;subst e1;have hxm:ia=(ia.toNat:Int):=by omega
 have hlt:ia.toNat<X.len:=by omega
 obtain ⟨q1,q2⟩:=r2 _ (Que hus) ia.toNat (by rw [<-hxm];exact hx) hlt;exact ⟨ia.toNat,by rw [<-hxm];exact hx,hlt,q1,q2⟩;cases h;split at h;rename_i l0 l1;cases h;obtain ⟨x,hx⟩:=Qql hk.1 V;obtain ⟨r1,r2⟩:=hr i r X hri hX;have d0:Qb V (.bin .leq (.int .i64 0) a)=some (.bool (decide (0<=x))):=by
  have e:den V (.int .i64 0)=.int .i64 0:=rfl;simp only [Qb,hx,e,binS,intA,if_true]
 have d1:Qb V (.bin .lss a r.len)=some (.bool (decide (x<X.len))):=by
  simp only [Qb,hx,r1,binS,intA,if_true]
 have b0:=of_decide_eq_true (Q9g hb l0 d0);have b1:=of_decide_eq_true (Q9g hb l1 d1);have hxm:x=(x.toNat:Int):=by omega
 have hlt:x.toNat<X.len:=by omega
 obtain ⟨q1,q2⟩:=r2 _ (Que hus) x.toNat (by rw [<-hxm];exact hx) hlt;exact ⟨x.toNat,by rw [<-hxm];exact hx,hlt,q1,q2⟩;cases h;cases h;cases h;cases h
theorem Qpg {X:Ing} {F:List Fact} {V:Sig} (hT:okLT X.m X.G X.T=true) (hb:BaseOk X V) (hF:Qo V F):(cxOf X F).Good V:=by
 refine ⟨fun _ _ h=>Q56 hT hb hF h,fun _ _ h=>Qpz h hF,fun _ _ h=>Qrr h hF,hb.tab,fun i a Y h hX=> ?_,fun i a cs Y h hX=>Qblp (Qte hT hb hF) hb.rows h hX,fun i a k Y h hX=>hb.cuts _ (Qzq h) Y hX,
  fun i k h=>Qqp hb.eqs hb.ins hb.kt i k h,fun i n h=>Qbnb hb.eqs h,fun i s cl Y h hX=>Q9a (X.strok _ hb.inv) h hX,⟨hF,hb⟩⟩
 have h:Qxi X.rows i=some a:=h;unfold Qxi at h;split at h;rename_i r hri;cases h;exact (hb.rows i r Y hri hX).1;cases h
theorem cx_ok {X:Ing} (hT:okLT X.m X.G X.T=true):CtxOk (cxOf X):=
 ⟨fun _ _=>rfl,fun _ _ h=>h.ok.1,fun _ _ _ h hF=>Qpg hT h.ok.2 hF⟩
theorem Qbl4 {P:Program} {X:Ing} {mb:Bool} {fuel d:Nat} {f:FuncId} {args:List AVal} {F:List Fact} {V:Sig} {Q:Out×Hp->Prop} (hm:P.follows .mixedOrders=true) (hT:okLT X.m X.G X.T=true) (hh: ∀F,Hooks P (cxOf X F)) (h0n:X.n=0)
  (hz: ∀i,V.ext i=none) (hb:BaseOk X V) (hF:Qo V F) (h:Sat V Q ((evD P (cxOf X) mb fuel d).1 F f args ⟨[],[]⟩)) {args':Array Value} (ha:LRel ⟨fun _=>none,V,fun _=>none⟩ args args'.toList) (w:World):
  Calls P f args' w fun e w'=> ∃x,Q x/\ ∃g',g'.sig=V/\Qla g' x.1 e/\RowKit.Below w.heap.size w w':=by
 have hg:=Qpg (X:=X) hT hb hF;have h0:HRel (cxOf X F) ⟨fun _=>none,V,fun _=>none⟩ [] w:=⟨fun i L hi=>by simp at hi,fun i j L M hi=>by simp at hi,fun i k hi=>by simp at hi,fun i hi=>by have:(cxOf X F).n=0:=h0n;omega,hg,⟨fun i Y hi _=>by have hi:V.ext i=some Y:=hi;(rw [hz i] at hi;cases hi),(fun i Y hi=>by cases hi),fun i Y _ hi=>by have hi:V.ext i=some Y:=hi;(rw [hz i] at hi;cases hi)⟩⟩;refine ((Qpx (mb:=mb) (fuel:=fuel) hm (cx_ok hT) hh d).call F f args ⟨[],[]⟩ Q ⟨fun _=>none,V,fun _=>none⟩ w args' h0 ha h).mono ?_;rintro e w' ⟨x,hq,_,g',h1,h2,h3⟩;exact ⟨x,hq,g',h3.sub.sig,h1,h3.os,h3.tape,h3.output,h3.size,fun k hk=>h3.frame k hk (fun i L hi=>by simp at hi)⟩
inductive Vr where
 |leaf (v:AVal)
 |req (o:Ob) (v:Vr)
 |dead
 |node (i:Nat) (yes no:Vr)
 |pick (i:Nat) (n:Int) (yes no:Vr)
 |or (y n:Vr)
def eqOb:Ob->Ob->Bool
 |.ok,.ok=>true
 |.no,.no=>true
 |.node i y n,.node j y' n'=>Nat.beq i j&&(eqOb y y'&&eqOb n n')
 |.pick i k y n,.pick j k' y' n'=>Nat.beq i j&&(decide (k=k')&&(eqOb y y'&&eqOb n n'))
 |_,_=>false
theorem Qji: ∀(a b:Ob),eqOb a b=true->a=b
 |.ok,.ok,_=>rfl
 |.no,.no,_=>rfl
 |.node i y n,.node j y' n',h=>by
  simp only [eqOb,Bool.and_eq_true] at h;rw [Nat.eq_of_beq_eq_true h.1,Qji _ _ h.2.1,Qji _ _ h.2.2]
 |.pick i k y n,.pick j k' y' n',h=>by
  simp only [eqOb,Bool.and_eq_true,decide_eq_true_eq] at h;rw [Nat.eq_of_beq_eq_true h.1,h.2.1,Qji _ _ h.2.2.1,Qji _ _ h.2.2.2]
 |.ok,.no,h=>by simp [eqOb] at h
 |.ok,.node _ _ _,h=>by simp [eqOb] at h
 |.ok,.pick _ _ _ _,h=>by simp [eqOb] at h
 |.no,.ok,h=>by simp [eqOb] at h
 |.no,.node _ _ _,h=>by simp [eqOb] at h
 |.no,.pick _ _ _ _,h=>by simp [eqOb] at h
 |.node _ _ _,.ok,h=>by simp [eqOb] at h
 |.node _ _ _,.no,h=>by simp [eqOb] at h
 |.node _ _ _,.pick _ _ _ _,h=>by simp [eqOb] at h
 |.pick _ _ _ _,.ok,h=>by simp [eqOb] at h
 |.pick _ _ _ _,.no,h=>by simp [eqOb] at h
 |.pick _ _ _ _,.node _ _ _,h=>by simp [eqOb] at h
def okV:Tree (Out×Hp)->Vr->Bool
 |.leaf x,.leaf v=>match x.1 with
  |.val r=>Qdl r&&eqV r v
  |.pan _=>false
 |_,.dead=>true
 |.node i y n,.node j y' n'=>Nat.beq i j&&(okV y y'&&okV n n')
 |.pick i k y n,.pick j k' y' n'=>Nat.beq i j&&(decide (k=k')&&(okV y y'&&okV n n'))
 |.req o t,.req o' v=>eqOb o o'&&okV t v
 |.or y n,.or a b=>okV y a&&okV n b
 |.or y n,v=>okV y v&&okV n v
 |_,_=>false
def vals (V:Sig) (Q:AVal->Prop):Vr->List Fact->Prop
 |.leaf v,F=>Qo V F->Q v
 |.req o v,F=>(Qo V F->o.Sat V)/\vals V Q v F
 |.dead,F=> ¬Qo V F
 |.node i y n,F=>vals V Q y (.tru i true::F)/\vals V Q n (.tru i false::F)
 |.pick i k y n,F=>vals V Q y (.isn i k::F)/\vals V Q n (.non i k::F)
 |.or y n,F=>vals V Q y F/\vals V Q n F
theorem Qc6 {V:Sig} {Q:AVal->Prop}: ∀{T:Tree (Out×Hp)} {Vv:Vr} {F:List Fact},okV T Vv=true->vals V Q Vv F->Qo V F->Sat V (fun x=> ∃v,x.1=.val v/\Qdl v=true/\Q v) T
 |T,.dead,F,_,hv,hF=>absurd hF hv
 |.leaf x,.leaf v,F,h,hv,hF=>by
  simp only [okV] at h;split at h;rename_i r hr;simp only [Bool.and_eq_true] at h;have:=Qbi _ _ h.2;subst this;exact ⟨r,hr,h.1,hv hF⟩;cases h
 |.node i y n,.node j y' n',F,h,hv,hF=>by
  simp only [okV,Bool.and_eq_true] at h;have:=Nat.eq_of_beq_eq_true h.1;subst this;exact ⟨fun e=>Qc6 h.2.1 hv.1 (Qbm (.tru _ _) e hF),fun e=>Qc6 h.2.2 hv.2 (Qbm (.tru _ _) e hF)⟩
 |.pick i k y n,.pick j k' y' n',F,h,hv,hF=>by
  simp only [okV,Bool.and_eq_true,decide_eq_true_eq] at h;have:=Nat.eq_of_beq_eq_true h.1;subst this;obtain ⟨rfl,h1,h2⟩:=h.2;exact ⟨fun e=>Qc6 h1 hv.1 (Qbm (.isn _ _) e hF),fun e=>Qc6 h2 hv.2 (Qbm (.non _ _) e hF)⟩
 |.req o t,.req o' v,F,h,hv,hF=>by
  simp only [okV,Bool.and_eq_true] at h;have:=Qji _ _ h.1;subst this;exact ⟨hv.1 hF,Qc6 h.2 hv.2 hF⟩
 |.or y n,.or a b,F,h,hv,hF=>by
  simp only [okV,Bool.and_eq_true] at h;exact ⟨Qc6 h.1 hv.1 hF,Qc6 h.2 hv.2 hF⟩
 |.leaf _,.or _ _,_,h,_,_=>by simp [okV] at h
 |.node _ _ _,.or _ _,_,h,_,_=>by simp [okV] at h
 |.pick _ _ _ _,.or _ _,_,h,_,_=>by simp [okV] at h
 |.req _ _,.or _ _,_,h,_,_=>by simp [okV] at h
 |.dead,.or _ _,_,h,_,_=>by simp [okV] at h
 |.or y n,.leaf v,F,h,hv,hF=>by
  simp only [okV,Bool.and_eq_true] at h;exact ⟨Qc6 h.1 hv hF,Qc6 h.2 hv hF⟩
 |.or y n,.node i a b,F,h,hv,hF=>by
  simp only [okV,Bool.and_eq_true] at h;exact ⟨Qc6 h.1 hv hF,Qc6 h.2 hv hF⟩
 |.or y n,.pick i k a b,F,h,hv,hF=>by
  simp only [okV,Bool.and_eq_true] at h;exact ⟨Qc6 h.1 hv hF,Qc6 h.2 hv hF⟩
 |.or y n,.req o v,F,h,hv,hF=>by
  simp only [okV,Bool.and_eq_true] at h;exact ⟨Qc6 h.1 hv hF,Qc6 h.2 hv hF⟩
 |.leaf _,.node _ _ _,_,h,_,_=>by simp [okV] at h
 |.leaf _,.pick _ _ _ _,_,h,_,_=>by simp [okV] at h
 |.leaf _,.req _ _,_,h,_,_=>by simp [okV] at h
 |.node _ _ _,.leaf _,_,h,_,_=>by simp [okV] at h
 |.node _ _ _,.pick _ _ _ _,_,h,_,_=>by simp [okV] at h
 |.node _ _ _,.req _ _,_,h,_,_=>by simp [okV] at h
 |.pick _ _ _ _,.leaf _,_,h,_,_=>by simp [okV] at h
 |.pick _ _ _ _,.node _ _ _,_,h,_,_=>by simp [okV] at h
 |.pick _ _ _ _,.req _ _,_,h,_,_=>by simp [okV] at h
 |.req _ _,.leaf _,_,h,_,_=>by simp [okV] at h
 |.req _ _,.node _ _ _,_,h,_,_=>by simp [okV] at h
 |.req _ _,.pick _ _ _ _,_,h,_,_=>by simp [okV] at h
 |.dead,.leaf _,_,h,_,_=>by simp [okV] at h
 |.dead,.node _ _ _,_,h,_,_=>by simp [okV] at h
 |.dead,.pick _ _ _ _,_,h,_,_=>by simp [okV] at h
 |.dead,.req _ _,_,h,_,_=>by simp [okV] at h
inductive Wr' where
 |run (v:Vr)
 |dead
 |node (i:Nat) (yes no:Wr')
 |pick (i:Nat) (n:Int) (yes no:Wr')
def okW (run:List Fact->Tree (Out×Hp)):Wr'->List Fact->Bool
 |.run v,F=>okV (run F) v
 |.dead,_=>true
 |.node i y n,F=>okW run y (.tru i true::F)&&okW run n (.tru i false::F)
 |.pick i k y n,F=>okW run y (.isn i k::F)&&okW run n (.non i k::F)
def Qiy (V:Sig) (Q:AVal->Prop):Wr'->List Fact->Prop
 |.run v,F=>vals V Q v F
 |.dead,F=> ¬Qo V F
 |.node i y n,F=>Qiy V Q y (.tru i true::F)/\Qiy V Q n (.tru i false::F)
 |.pick i k y n,F=>Qiy V Q y (.isn i k::F)/\Qiy V Q n (.non i k::F)
theorem Qn5 {V:Sig} {Q:AVal->Prop} {run:List Fact->Tree (Out×Hp)}: ∀{W:Wr'} {F:List Fact},okW run W F=true->Qiy V Q W F->Qo V F-> ∃F',Qo V F'/\Sat V (fun x=> ∃v,x.1=.val v/\Qdl v=true/\Q v) (run F')
 |.run v,F,h,hv,hF=>⟨F,hF,Qc6 h hv hF⟩
 |.dead,_,_,hv,hF=>absurd hF hv
 |.node i y n,F,h,hv,hF=>by
  simp only [okW,Bool.and_eq_true] at h;cases hb:V.b i with
  |true=>exact Qn5 h.1 hv.1 (Qbm (.tru i true) hb hF)
  |false=>exact Qn5 h.2 hv.2 (Qbm (.tru i false) hb hF)
 |.pick i k y n,F,h,hv,hF=>by
  simp only [okW,Bool.and_eq_true] at h;rcases Classical.em (V.i i=k) with hb|hb
  exact Qn5 h.1 hv.1 (Qbm (.isn i k) hb hF);exact Qn5 h.2 hv.2 (Qbm (.non i k) hb hF)
theorem Qbn0 {P:Program} {X:Ing} {mb:Bool} {fuel d:Nat} {f:FuncId} {args:List AVal} {W:Wr'} {V:Sig} {Q:AVal->Prop} (hm:P.follows .mixedOrders=true) (hT:okLT X.m X.G X.T=true) (hh: ∀F,Hooks P (cxOf X F)) (h0n:X.n=0)
  (hz: ∀i,V.ext i=none) (hb:BaseOk X V) (h:okW (fun F=>(evD P (cxOf X) mb fuel d).1 F f args ⟨[],[]⟩) W []=true) (hv:Qiy V Q W []) {args':Array Value} (ha:LRel ⟨fun _=>none,V,fun _=>none⟩ args args'.toList) (w:World):
  Calls P f args' w fun e w'=> ∃v u,e=.returned u/\Q v/\VRel ⟨fun _=>none,V,fun _=>none⟩ v u/\RowKit.Below w.heap.size w w':=by
 obtain ⟨F,hF,hs⟩:=Qn5 h hv trivial;refine (Qbl4 hm hT hh h0n hz hb hF hs ha w).mono ?_;rintro e w' ⟨⟨o,hp⟩,⟨v,rfl,hf,hq⟩,g',hg,⟨u,rfl,hu⟩,hB⟩;exact ⟨v,u,rfl,hq,Qqe hg.symm hu hf,hB⟩
def Qev:Tree (Out×Hp)->Bool
 |.leaf x=>match x.1 with
  |.val (.bool true)=>true
  |_=>false
 |.or y n=>Qev y&&Qev n
 |_=>false
theorem Quu {V:Sig}: ∀{T:Tree (Out×Hp)},Qev T=true->Sat V (fun x=>x.1=.val (.bool true)) T
 |.leaf x,h=>by
  simp only [Qev] at h;split at h;assumption;cases h
 |.or y n,h=>by
  simp only [Qev,Bool.and_eq_true] at h;exact ⟨Quu h.1,Quu h.2⟩
 |.node _ _ _,h=>by simp [Qev] at h
 |.pick _ _ _ _,h=>by simp [Qev] at h
 |.dead,h=>by simp [Qev] at h
 |.req _ _,h=>by simp [Qev] at h
theorem Qbdf {P:Program} {X:Ing} {F:List Fact} (hmh:X.mh=noMh) (hin:X.insf=none) (hat:X.atoms=[]) (hph:X.ph=noMh) (h: ∀f args v,(cxOf X F).hook f args=some v-> ∀hp,CallP P (cxOf X F) f args hp (.val v) hp):Hooks P (cxOf X F):=
 ⟨h,fun f args hp v hp' e=>by simp only [cxOf,hmh,noMh,reduceCtorEq] at e,fun f k e=>by simp only [cxOf,hin,reduceCtorEq] at e,fun k b e=>by simp only [cxOf,hat,List.not_mem_nil] at e,fun f args hp v hp' e=>by simp only [cxOf,hph,noMh,reduceCtorEq] at e⟩
theorem Qbw {P:Program} {X:Ing} (hX:X.hook=Qgf) (F:List Fact) (hmh:X.mh=noMh:=by rfl) (hin:X.insf=none:=by rfl) (hat:X.atoms=[]:=by rfl) (hph:X.ph=noMh:=by rfl):Hooks P (cxOf X F):=by
 refine Qbdf hmh hin hat hph ?_;intro f args v h;simp only [cxOf,hX,Qgf,reduceCtorEq] at h
end Go.Ev
set_option linter.unusedVariables false
set_option linter.unnecessarySimpa false
namespace Go.Ev
inductive Cl where
 |i (k:IntKind)
 |b
inductive Sh where
 |one (c:Cl)
 |agg (l:List Cl)
def cellsOf:List Sh->List Cl
 |[]=>[]
 |.one c::r=>c::cellsOf r
 |.agg l::r=>l++cellsOf r
def encC:Cl->Int->Value
 |.i k,n=> .int k (k.wrap n)
 |.b,n=> .bool (!(n==0))
def Qq:List Cl->List Int->List Value
 |[],_=>[]
 |c::r,l=>encC c (l.headD 0)::Qq r l.tail
def encS:List Sh->List Int->List Value
 |[],_=>[]
 |.one c::r,l=>encC c (l.headD 0)::encS r l.tail
 |.agg cs::r,l=> .agg (Qq cs l).toArray::encS r (l.drop cs.length)
def encR (outs:List Sh) (l:List Int):Value:=
 match outs with
 |[s]=>(encS [s] l).headD (.tuple #[])
 |ss=> .tuple (encS ss l).toArray
def inC:Cl->Int->Prop
 |.i k,n=>k.wrap n=n
 |.b,n=>n=0\/n=1
def InR:List Cl->List Int->Prop
 |[],l=>l=[]
 |c::r,l=>match l with
  |[]=>False
  |n::l=>inC c n/\InR r l
def FnOk (P:Program) (f:FuncId) (ins outs:List Sh) (F:List Int->List Int):Prop:=
 ∀l,InR (cellsOf ins) l-> ∀w,Calls P f (encS ins l).toArray w fun e w'=>e=.returned (encR outs (F l))/\RowKit.Below w.heap.size w w'
def symC:Cl->Nat->AVal
 |.i k,j=> .symi k j
 |.b,j=> .symb j
def Qsr:List Cl->Nat->List AVal
 |[],_=>[]
 |c::r,j=>symC c j::Qsr r (j+1)
def Qhs:List Sh->Nat->List AVal
 |[],_=>[]
 |.one c::r,j=>symC c j::Qhs r (j+1)
 |.agg cs::r,j=> .agg (Qsr cs j)::Qhs r (j+cs.length)
def Qfd:Cl->Option IntKind
 |.i k=>some k
 |.b=>none
theorem Q9c {g:Inj} {c:Cl} {j:Nat} {n:Int} (hi:g.sig.i j=n) (hb:g.sig.b j= !(n==0)) (hr:inC c n):VRel g (symC c j) (encC c n):=by
 cases c with
 |i k=>
  simp only [inC] at hr;simp only [symC,encC];rw [hr,<-hi];exact .symi k j
 |b=>
  simp only [symC,encC,<-hb];exact .symb j
theorem Q9d {g:Inj}: ∀(cs:List Cl) (l:List Int) (j:Nat) (r:List Cl),InR (cs++r) l->(∀i,i<l.length->g.sig.i (j+i)=l.getD i 0/\g.sig.b (j+i)= !(l.getD i 0==0))->
  LRel g (Qsr cs j) (Qq cs l)/\InR r (l.drop cs.length)/\cs.length<=l.length
 |[],l,j,r,h,_=>⟨.nil,by simpa using h,Nat.zero_le _⟩
 |c::cs,[],j,r,h,_=>h.elim
 |c::cs,n::l,j,r,h,hV=>by
  obtain ⟨h1,h2⟩:=h;have h0:=hV 0 (by simp);obtain ⟨k1,k2,k3⟩:=Q9d cs l (j+1) r h2 (fun i hi=>by
   have:=hV (i+1) (by simpa using hi);rw [show j+1+i=j+(i+1) by omega];simpa using this)
  refine ⟨?_,by simpa using k2,by simpa using k3⟩;simp only [Qsr,Qq,List.headD_cons,List.tail_cons];exact .cons _ _ _ _ (Q9c (by simpa using h0.1) (by simpa using h0.2) h1) k1
theorem Qx8 {g:Inj}: ∀(ss:List Sh) (l:List Int) (j:Nat),InR (cellsOf ss) l->(∀i,i<l.length->g.sig.i (j+i)=l.getD i 0/\g.sig.b (j+i)= !(l.getD i 0==0))->LRel g (Qhs ss j) (encS ss l)
 |[],l,j,h,_=> .nil
 |.one c::r,[],j,h,_=>h.elim
 |.one c::r,n::l,j,h,hV=>by
  obtain ⟨h1,h2⟩:=h;have h0:=hV 0 (by simp);simp only [Qhs,encS,List.headD_cons,List.tail_cons];refine .cons _ _ _ _ (Q9c (by simpa using h0.1) (by simpa using h0.2) h1) (Qx8 r l (j+1) h2 (fun i hi=> ?_));have:=hV (i+1) (by simpa using hi);rw [show j+1+i=j+(i+1) by omega];simpa using this
 |.agg cs::r,l,j,h,hV=>by
  obtain ⟨k1,k2,k3⟩:=Q9d cs l j (cellsOf r) h hV;simp only [Qhs,encS];refine .cons _ _ _ _ (.agg _ _ (by simpa using k1)) (Qx8 r (l.drop cs.length) (j+cs.length) k2 (fun i hi=> ?_));simp only [List.length_drop] at hi;have:=hV (cs.length+i) (by omega);rw [show j+cs.length+i=j+(cs.length+i) by omega];simpa [List.getD_eq_getElem?_getD,List.getElem?_drop] using this
def denC:Cl->Int->AVal
 |.i k,n=> .int k (k.wrap n)
 |.b,n=> .bool (!(n==0))
def Qs5 (V:Sig):List Cl->List AVal->List Int->Prop
 |[],[],_=>True
 |c::cs,a::as,l=>den V a=denC c (l.headD 0)/\Qs5 V cs as l.tail
 |_,_,_=>False
def Qi5 (V:Sig):List Sh->List AVal->List Int->Prop
 |[],[],_=>True
 |.one c::r,a::as,l=>den V a=denC c (l.headD 0)/\Qi5 V r as l.tail
 |.agg cs::r,a::as,l=>match a with
  |.agg es=>Qs5 V cs es l/\Qi5 V r as (l.drop cs.length)
  |_=>False
 |_,_,_=>False
def Qox (V:Sig) (outs:List Sh) (v:AVal) (l:List Int):Prop:=
 match outs with
 |[s]=>Qi5 V [s] [v] l
 |ss=>match v with
  |.tuple vs=>Qi5 V ss vs l
  |_=>False
theorem Qzu {g:Inj} {c:Cl} {a:AVal} {n:Int} {u:Value} (h:den g.sig a=denC c n) (hu:VRel g a u):u=encC c n:=by
 have:=Qn.2 hu;rw [h] at this;cases c with
 |i k=>simp only [denC] at this;cases this;rfl
 |b=>simp only [denC] at this;cases this;rfl
theorem Q7f {g:Inj}: ∀{cs:List Cl} {as:List AVal} {l:List Int} {us:List Value},Qs5 g.sig cs as l->LRel g as us->us=Qq cs l
 |[],[],_,_,_,h=>by cases h;rfl
 |c::cs,a::as,l,us,ho,h=>by
  cases h with
  |cons _ u _ m h1 h2=>
   simp only [Qq];rw [Qzu ho.1 h1,Q7f ho.2 h2]
 |[],_::_,_,_,ho,_=>ho.elim
 |_::_,[],_,_,ho,_=>ho.elim
theorem Qr0 {g:Inj}: ∀{ss:List Sh} {as:List AVal} {l:List Int} {us:List Value},Qi5 g.sig ss as l->LRel g as us->us=encS ss l
 |[],[],_,_,_,h=>by cases h;rfl
 |.one c::r,a::as,l,us,ho,h=>by
  cases h with
  |cons _ u _ m h1 h2=>
   simp only [encS];rw [Qzu ho.1 h1,Qr0 ho.2 h2]
 |.agg cs::r,a::as,l,us,ho,h=>by
  simp only [Qi5] at ho;split at ho
  ·rename_i es
   cases h with
   |cons _ u _ m h1 h2=>
    cases h1 with
    |agg _ l' h1=>
     obtain ⟨l'⟩:=l';simp only [encS];rw [Qr0 ho.2 h2];have:l'=Qq cs l:=Q7f ho.1 h1;rw [this]
  exact ho.elim
 |[],_::_,_,_,ho,_=>ho.elim
 |.one _::_,[],_,_,ho,_=>ho.elim
 |.agg _::_,[],_,_,ho,_=>ho.elim
theorem Q7h {g:Inj} {outs:List Sh} {v:AVal} {l:List Int} {u:Value} (h:Qox g.sig outs v l) (hu:VRel g v u):u=encR outs l:=by
 unfold Qox at h;unfold encR;split at h;rename_i s;have:=Qr0 h (.cons _ u _ _ hu .nil);rw [<-this];rfl;rename_i hne;split at h
 ·rename_i vs
  cases hu with
  |tuple _ l' h1=>
   obtain ⟨l'⟩:=l';have:l'=encS outs l:=Qr0 h h1;rw [this]
 exact h.elim
def sigL (tab:TabF) (l:List Int):Sig:=⟨fun i=>l.getD i 0,fun i=> !(l.getD i 0==0),fun _=> .empty,tab,fun _=>none⟩
theorem Q1r: ∀{cs:List Cl} {l:List Int},InR cs l->l.length=cs.length
 |[],l,h=>by simp only [InR] at h;subst h;rfl
 |_::_,[],h=>h.elim
 |_::cs,_::l,h=>by simpa using Q1r h.2
theorem Q1q: ∀{cs:List Cl} {l:List Int},InR cs l-> ∀(i:Nat) (k:IntKind),cs[i]? =some (.i k)->k.wrap (l.getD i 0)=l.getD i 0
 |c::cs,n::l,h,0,k,hi=>by simp at hi;subst hi;simpa [inC] using h.1
 |c::cs,n::l,h,i+1,k,hi=>by simpa using Q1q h.2 i k (by simpa using hi)
 |[],_,_,_,_,hi=>by simp at hi
 |_::_,[],h,_,_,_=>h.elim
theorem Q09 {P:Program} {X:Ing} {mb:Bool} {fuel d:Nat} {f:FuncId} {ins outs:List Sh} {F:List Int->List Int} {W:Wr'} (hm:P.follows .mixedOrders=true)
  (hX:X.n=0/\X.rows=[]/\X.cuts=[]/\X.m=(cellsOf ins).length/\X.ins=(cellsOf ins).map Qfd) (hG:okG X.G X.m=true) (hT:okLT X.m X.G X.T=true) (hh: ∀F,Hooks P (cxOf X F))
  (h:okW (fun F=>(evD P (cxOf X) mb fuel d).1 F f (Qhs ins 0) ⟨[],[]⟩) W []=true)
  (hv: ∀(l:List Int) (V:Sig),InR (cellsOf ins) l->Eqs V X.m X.G->V.tab=X.tab->(∀i,i<X.m->V.i i=l.getD i 0)->(∀i,i<X.m->V.b i= !(l.getD i 0==0))->Qiy V (fun v=>Qox V outs v (F l)) W []) (hinv: ∀V,X.inv V:=by exact fun _=>True.intro) (hkt:okKt X=true:=by exact rfl):
  FnOk P f ins outs F:=by
 intro l hl w;obtain ⟨x1,x2,x3,x4,x5⟩:=hX;have hlen:=Q1r hl;have ag:=Qep X.G X.m (sigL X.tab l);have hi: ∀i,i<X.m->(solve X.G X.m (sigL X.tab l)).i i=l.getD i 0:=fun i hi=>(ag.val i hi).1.symm;have hb: ∀i,i<X.m->(solve X.G X.m (sigL X.tab l)).b i= !(l.getD i 0==0):=fun i hi=>(ag.val i hi).2.1.symm;have hbase:BaseOk X (solve X.G X.m (sigL X.tab l)):=by
  refine ⟨Qfy hG,ag.tab.symm,fun i k him hk=> ?_,by rw [x2];exact Qv,by rw [x3];exact Qlr,hinv _,hkt⟩;rw [hi i him];refine Q1q hl i k ?_;rw [x5,List.getElem?_map] at hk;cases hc:(cellsOf ins)[i]? with
  |none=>rw [hc] at hk;simp at hk
  |some c=>
   rw [hc] at hk;cases c with
   |i k'=>simp [Qfd] at hk;rw [hk]
   |b=>simp [Qfd] at hk
 refine (Qbn0 (Q:=fun v=>Qox (solve X.G X.m (sigL X.tab l)) outs v (F l)) hm hT hh x1 (fun i=>congrFun ag.ext.symm i) hbase h (hv l _ hl (Qfy hG) ag.tab.symm hi hb) (args':=(encS ins l).toArray) ?_ w).mono ?_;refine Qx8 ins l 0 hl (fun i hil=> ?_);have him:i<X.m:=by rw [x4,<-hlen];exact hil
 rw [Nat.zero_add];exact ⟨hi i him,hb i him⟩;rintro e w' ⟨v,u,rfl,ho,hu,hB⟩;exact ⟨by rw [Q7h ho hu],hB⟩
structure Ent where
 f:FuncId
 ins:List Sh
 outs:List Sh
 id:Nat
def Qf2:List Sh->List AVal->Option (List AVal)
 |[],[]=>some []
 |.one _::r,a::as=>match Qf2 r as with
  |some l=>some (a::l)
  |none=>none
 |.agg cs::r,a::as=>match a with
  |.agg es=>match Nat.beq es.length cs.length with
   |true=>match Qf2 r as with
    |some l=>some (es++l)
    |none=>none
   |false=>none
  |_=>none
 |_,_=>none
def Qn3 (kd:Nat->Option IntKind):Cl->AVal->Bool
 |.i k,a=>inK kd k a
 |.b,a=>match a with
  |.bool _=>true
  |.symb _=>true
  |_=>false
def Qdn (kd:Nat->Option IntKind):List Cl->List AVal->Bool
 |[],[]=>true
 |c::cs,a::as=>Qn3 kd c a&&Qdn kd cs as
 |_,_=>false
def Qc4:AVal->Bool
 |.int _ _=>true
 |.bool _=>true
 |_=>false
def outC (look:SDef->Option AVal) (tab:TabF) (lit:Bool) (cs:List AVal) (j:Nat):Cl->Option AVal
 |.i k=>match lit with
  |true=>some (.int k (k.wrap (tab j (cs.map numS))))
  |false=>look (.fn j k cs)
 |.b=>match lit with
  |true=>some (.bool (!(tab j (cs.map numS)==0)))
  |false=>look (.fnb j cs)
def Qn9 (look:SDef->Option AVal) (tab:TabF) (lit:Bool) (cs:List AVal):Nat->List Cl->Option (List AVal)
 |_,[]=>some []
 |j,c::r=>match outC look tab lit cs j c,Qn9 look tab lit cs (j+1) r with
  |some a,some l=>some (a::l)
  |_,_=>none
def Qio (look:SDef->Option AVal) (tab:TabF) (lit:Bool) (cs:List AVal):Nat->List Sh->Option (List AVal)
 |_,[]=>some []
 |j,.one c::r=>match outC look tab lit cs j c,Qio look tab lit cs (j+1) r with
  |some a,some l=>some (a::l)
  |_,_=>none
 |j,.agg c::r=>match Qn9 look tab lit cs j c,Qio look tab lit cs (j+c.length) r with
  |some a,some l=>some (.agg a::l)
  |_,_=>none
def Q7l (outs:List Sh) (l:List AVal):Option AVal:=
 match outs with
 |[_]=>match l with
  |[a]=>some a
  |_=>none
 |_=>some (.tuple l)
def Ql3 (f:FuncId):List Ent->Option Ent
 |[]=>none
 |e::r=>match Nat.beq e.f f with
  |true=>some e
  |false=>Ql3 f r
def Qop (tab:TabF) (tbl:List Ent):Qs3:=fun look kd f args=>
 match Ql3 f tbl with
 |some e=>match Qf2 e.ins args with
  |some cs=>match Qdn kd (cellsOf e.ins) cs with
   |true=>match Qio look tab (cs.all Qc4) cs (64*e.id) e.outs with
    |some l=>Q7l e.outs l
    |none=>none
   |false=>none
  |none=>none
 |none=>none
def Qd6 (Fs:Nat->List Int->List Int):TabF:=fun id l=>(Fs (id/64) l).getD (id%64) 0
theorem Qy8 {P:Program} {ng:Cx} {f:FuncId} {args:List AVal} {v:AVal}
  (h: ∀(g:Inj) (w:World) (args':Array Value),ng.Good g.sig->LRel g args args'.toList->Calls P f args' w fun e w'=> ∃u,e=.returned u/\VRel g v u/\RowKit.Below w.heap.size w w') (hp:Hp):CallP P ng f args hp (.val v) hp:=by
 refine ⟨Touch.refl _,fun g w args' hH ha=>(h g w args' hH.sig ha).mono ?_⟩;rintro e w' ⟨u,rfl,hu,hb⟩;obtain ⟨h1,h2⟩:=hH.below hb;exact ⟨g,⟨u,rfl,hu⟩,h1,h2⟩
theorem Qv4 {X:Ing} {F:List Fact} {g:Inj} {d:SDef} {r:AVal} (hT:okLT X.m X.G X.T=true) (hg:(cxOf X F).Good g.sig) (h:symS (Q5 X F) d=some r): ∃q,Qb g.sig d=some q/\ ∀v,VRel g q v->VRel g r v:=
 Qcp (Qte hT hg.ok.2 hg.ok.1) h
section
variable {X : Ing} {F : List Fact} {g : Inj} {tab : TabF} {lit : Bool} {cs : List AVal}
theorem Qv2 {V:Sig}: ∀{l:List AVal},l.all Qc4=true->(l.map fun a=>numS (den V a))=l.map numS
 |[],_=>rfl
 |a::l,h=>by
  simp only [List.all_cons,Bool.and_eq_true] at h;simp only [List.map_cons,Qv2 h.2];cases a<;>simp only [Qc4,Bool.false_eq_true,false_and] at h<;>rfl
theorem Q7e (hT:okLT X.m X.G X.T=true) (hg:(cxOf X F).Good g.sig) (ht:X.tab=tab) (hl:lit=true->cs.all Qc4=true) {j:Nat} {c:Cl} {a:AVal} (h:outC (symS (Q5 X F)) tab lit cs j c=some a):
  ∀v,VRel g (denC c (tab j (cs.map fun a=>numS (den g.sig a)))) v->VRel g a v:=by
 unfold outC at h;split at h;rename_i k;split at h;cases h;rw [Qv2 (hl rfl)];exact fun v hv=>hv;obtain ⟨q,h1,h2⟩:=Qv4 hT hg h;simp only [Qb,Option.some.injEq] at h1;subst h1;intro v hv;refine h2 v ?_;rw [show g.sig.tab=tab from by rw [<-ht];exact hg.tab];exact hv;split at h;cases h;rw [Qv2 (hl rfl)];exact fun v hv=>hv;obtain ⟨q,h1,h2⟩:=Qv4 hT hg h;simp only [Qb,Option.some.injEq] at h1;subst h1;intro v hv;refine h2 v ?_;rw [show g.sig.tab=tab from by rw [<-ht];exact hg.tab];exact hv
theorem Qzt {c:Cl} {n:Int}:VRel g (denC c n) (encC c n):=by
 cases c with
 |i k=>exact .int k _
 |b=>exact .bool _
def Qd3 (tab:TabF) (l:List Int) (j:Nat):Nat->List Int
 |0=>[]
 |n+1=>tab j l::Qd3 tab l (j+1) n
theorem Q7g (hT:okLT X.m X.G X.T=true) (hg:(cxOf X F).Good g.sig) (ht:X.tab=tab) (hl:lit=true->cs.all Qc4=true): ∀{cl:List Cl} {j:Nat} {as:List AVal},Qn9 (symS (Q5 X F)) tab lit cs j cl=some as->
  LRel g as (Qq cl (Qd3 tab (cs.map fun a=>numS (den g.sig a)) j cl.length))
 |[],j,as,h=>by simp only [Qn9] at h;cases h;exact .nil
 |c::cl,j,as,h=>by
  simp only [Qn9] at h;split at h;rename_i a l h1 h2;cases h;simp only [List.length_cons,Qd3,Qq,List.headD_cons,List.tail_cons];exact .cons _ _ _ _ (Q7e hT hg ht hl h1 _ Qzt) (Q7g hT hg ht hl h2);cases h
theorem Q61 (l:List Int): ∀(k j n:Nat),k<=n->(Qd3 tab l j n).drop k=Qd3 tab l (j+k) (n-k)
 |0,j,n,_=>by simp
 |k+1,j,0,h=>by omega
 |k+1,j,n+1,h=>by
  simp only [Qd3,List.drop_succ_cons];rw [Q61 l k (j+1) n (by omega)]
  congr 1
  omega;omega
theorem Qt2: ∀{cl:List Cl} {l m:List Int},(∀i,i<cl.length->l.getD i 0=m.getD i 0)->Qq cl l=Qq cl m
 |[],_,_,_=>rfl
 |c::cl,l,m,h=>by
  have h0:=h 0 (by simp);simp only [Qq];have e0:l.headD 0=m.headD 0:=by cases l<;>cases m<;>simpa using h0
  rw [e0,Qt2 (l:=l.tail) (m:=m.tail) (fun i hi=>by
   have:=h (i+1) (by simpa using hi);cases l<;>cases m<;>simpa using this)]
theorem Qru (l:List Int): ∀(n j i:Nat),i<n->(Qd3 tab l j n).getD i 0=tab (j+i) l
 |n+1,j,0,_=>by simp [Qd3]
 |n+1,j,i+1,h=>by
  simp only [Qd3,List.getD_cons_succ];rw [Qru l n (j+1) i (by omega)]
  congr 1
  omega
theorem Qwz (hT:okLT X.m X.G X.T=true) (hg:(cxOf X F).Good g.sig) (ht:X.tab=tab) (hl:lit=true->cs.all Qc4=true): ∀{ss:List Sh} {j:Nat} {as:List AVal},Qio (symS (Q5 X F)) tab lit cs j ss=some as->
  LRel g as (encS ss (Qd3 tab (cs.map fun a=>numS (den g.sig a)) j (cellsOf ss).length))
 |[],j,as,h=>by simp only [Qio] at h;cases h;exact .nil
 |.one c::r,j,as,h=>by
  simp only [Qio] at h;split at h;rename_i a l h1 h2;cases h;simp only [cellsOf,List.length_cons,Qd3,encS,List.headD_cons,List.tail_cons];exact .cons _ _ _ _ (Q7e hT hg ht hl h1 _ Qzt) (Qwz hT hg ht hl h2);cases h
 |.agg c::r,j,as,h=>by
  simp only [Qio] at h;split at h;rename_i a l h1 h2;cases h;simp only [cellsOf,List.length_append,encS];refine .cons _ _ _ _ (.agg _ _ ?_) ?_;have:=Q7g hT hg ht hl h1;rw [Qt2 (m:=Qd3 tab (cs.map fun a=>numS (den g.sig a)) j (c.length+(cellsOf r).length)) (fun i hi=>by rw [Qru _ _ _ _ hi,Qru _ _ _ _ (by omega)])] at this;simpa using this;have:=Qwz hT hg ht hl h2;rw [Q61 _ _ _ _ (by omega)];rw [show c.length+(cellsOf r).length-c.length=(cellsOf r).length by omega];exact this;cases h
theorem Qtj {kd:Nat->Option IntKind} (hk: ∀i k,kd i=some k->k.wrap (g.sig.i i)=g.sig.i i) {c:Cl} {a:AVal} (h:Qn3 kd c a=true) {u:Value} (hu:VRel g a u):
  u=encC c (numS (den g.sig a))/\inC c (numS (den g.sig a)):=by
 cases c with
 |i k=>
  obtain ⟨n,h1,h2⟩:=Qfb hk (show inK kd k a=true from h);have hd:=Qn.2 hu;rw [h1] at hd;cases hd;simp only [h1,numS,encC,h2,inC];exact ⟨trivial,trivial⟩
 |b=>
  have: ∃x,den g.sig a=.bool x:=by
   unfold Qn3 at h;cases a<;>simp only [Bool.false_eq_true] at h<;>exact ⟨_,rfl⟩
  obtain ⟨x,hx⟩:=this;have hd:=Qn.2 hu;rw [hx] at hd;cases hd;simp only [hx,numS,encC,inC];cases x<;>simp
theorem Qzh {kd:Nat->Option IntKind} (hk: ∀i k,kd i=some k->k.wrap (g.sig.i i)=g.sig.i i): ∀(cl r:List Cl) (as rest:List AVal) (us:List Value),Qdn kd (cl++r) (as++rest)=true->as.length=cl.length->LRel g as us->
  us=Qq cl ((as++rest).map fun a=>numS (den g.sig a))/\Qdn kd r rest=true
 |[],r,[],rest,us,h,_,ha=>by cases ha;exact ⟨rfl,h⟩
 |c::cl,r,a::as,rest,us,h,hl,ha=>by
  cases ha with
  |cons _ u _ m h1 h2=>
   simp only [List.cons_append,Qdn,Bool.and_eq_true] at h;obtain ⟨e1,e2⟩:=Qzh hk cl r as rest m h.2 (by simpa using hl) h2;refine ⟨?_,e2⟩;simp only [List.cons_append,List.map_cons,Qq,List.headD_cons,List.tail_cons];rw [<-(Qtj hk h.1 h1).1,<-e1]
 |[],_,_::_,_,_,_,hl,_=>by simp at hl
 |_::_,_,[],_,_,_,hl,_=>by simp at hl
theorem Qug {kd:Nat->Option IntKind} (hk: ∀i k,kd i=some k->k.wrap (g.sig.i i)=g.sig.i i): ∀(ss:List Sh) (args cs:List AVal) (us:List Value),Qf2 ss args=some cs->Qdn kd (cellsOf ss) cs=true->LRel g args us->us=encS ss (cs.map fun a=>numS (den g.sig a))
 |[],[],cs,us,h,_,ha=>by cases ha;rfl
 |.one c::r,a::as,cs,us,h,ho,ha=>by
  cases ha with
  |cons _ u _ m h1 h2=>
   simp only [Qf2] at h;split at h;rename_i l hl;cases h;simp only [cellsOf,Qdn,Bool.and_eq_true] at ho;simp only [List.map_cons,encS,List.headD_cons,List.tail_cons];rw [<-(Qtj hk ho.1 h1).1,<-Qug hk r as l m hl ho.2 h2];cases h
 |.agg cl::r,a::as,cs,us,h,ho,ha=>by
  cases ha with
  |cons _ u _ m h1 h2=>
   simp only [Qf2] at h;split at h;rename_i es;split at h;rename_i hlen;have hlen:=Nat.eq_of_beq_eq_true hlen;split at h
   ·rename_i l hl
    cases h;cases h1 with
    |agg _ l' h1=>
    obtain ⟨l'⟩:=l';simp only [cellsOf] at ho;obtain ⟨e1,e2⟩:=Qzh hk cl (cellsOf r) es l l' ho hlen h1;simp only [encS];rw [<-e1,Qug hk r as l m hl e2 h2]
    congr 1
    rw [List.map_append,List.drop_append_of_le_length (by simp [hlen]),List.drop_eq_nil_of_le (by simp [hlen])];simp
   cases h;cases h;cases h
 |[],_::_,_,_,h,_,_=>by simp [Qf2] at h
 |.one _::_,[],_,_,h,_,_=>by simp [Qf2] at h
 |.agg _::_,[],_,_,h,_,_=>by simp [Qf2] at h
theorem Q64 {kd:Nat->Option IntKind} (hk: ∀i k,kd i=some k->k.wrap (g.sig.i i)=g.sig.i i): ∀(cl:List Cl) (cs:List AVal),Qdn kd cl cs=true->(∀a,a∈cs-> ∃u,VRel g a u)->InR cl (cs.map fun a=>numS (den g.sig a))
 |[],[],_,_=>rfl
 |c::cl,a::as,h,hu=>by
  simp only [Qdn,Bool.and_eq_true] at h;obtain ⟨u,h1⟩:=hu a (by simp);exact ⟨(Qtj hk h.1 h1).2,Q64 hk cl as h.2 (fun b hb=>hu b (by simp [hb]))⟩
 |[],_::_,h,_=>by simp [Qdn] at h
 |_::_,[],h,_=>by simp [Qdn] at h
theorem Q65 {kd:Nat->Option IntKind}: ∀(cl:List Cl) (cs:List AVal),Qdn kd cl cs=true-> ∀a,a∈cs-> ∃u,VRel g a u
 |c::cl,b::as,h,a,ha=>by
  simp only [Qdn,Bool.and_eq_true] at h;rcases List.mem_cons.1 ha with rfl|ha
  ·have h1:=h.1
   cases c with
   |i k=>
    cases a<;>simp only [Qn3,inK,Bool.false_eq_true] at h1;exact ⟨_,.int _ _⟩;exact ⟨_,.symi _ _⟩
   |b=>
    cases a<;>simp only [Qn3,Bool.false_eq_true] at h1;exact ⟨_,.bool _⟩;exact ⟨_,.symb _⟩
  exact Q65 cl as h.2 a ha
 |[],_::_,h,_,_=>by simp [Qdn] at h
 |_,[],_,_,ha=>by cases ha
end
theorem Q01 {f:FuncId}: ∀{tbl:List Ent} {e:Ent},Ql3 f tbl=some e->e∈tbl/\e.f=f
 |[],_,h=>by simp [Ql3] at h
 |x::r,e,h=>by
  simp only [Ql3] at h;split at h;rename_i hb;cases h;exact ⟨by simp,Nat.eq_of_beq_eq_true hb⟩;obtain ⟨h1,h2⟩:=Q01 h;exact ⟨by simp [h1],h2⟩
theorem Qt4: ∀{ss:List Sh} {l m:List Int},(∀i,i<(cellsOf ss).length->l.getD i 0=m.getD i 0)->encS ss l=encS ss m
 |[],_,_,_=>rfl
 |.one c::r,l,m,h=>by
  have h0:=h 0 (by simp [cellsOf]);simp only [encS];have e0:l.headD 0=m.headD 0:=by cases l<;>cases m<;>simpa using h0
  rw [e0,Qt4 (l:=l.tail) (m:=m.tail) (fun i hi=>by
   have:=h (i+1) (by simpa [cellsOf] using hi);cases l<;>cases m<;>simpa using this)]
 |.agg cs::r,l,m,h=>by
  simp only [encS];rw [Qt2 (l:=l) (m:=m) (fun i hi=>h i (by simp [cellsOf];omega)),Qt4 (l:=l.drop cs.length) (m:=m.drop cs.length) (fun i hi=>by
   have:=h (cs.length+i) (by simp [cellsOf];omega);simpa [List.getD_eq_getElem?_getD,List.getElem?_drop] using this)]
theorem Qbn1 {P:Program} {X:Ing} {Fs:Nat->List Int->List Int} {tbl:List Ent} (hT:okLT X.m X.G X.T=true) (hX:X.hook=Qop (Qd6 Fs) tbl) (ht:X.tab=Qd6 Fs)
  (h: ∀e,e∈tbl->(cellsOf e.outs).length<=64/\FnOk P e.f e.ins e.outs (Fs e.id)) (F:List Fact): ∀f args v,(cxOf X F).hook f args=some v-> ∀hp,CallP P (cxOf X F) f args hp (.val v) hp:=by
 intro f args v hv hp;replace hv:X.hook (symS (Q5 X F)) (kdX X) f args=some v:=hv;rw [hX] at hv;unfold Qop at hv;split at hv;rename_i e he;obtain ⟨hmem,hf⟩:=Q01 he;subst hf;obtain ⟨h64,hok⟩:=h e hmem;split at hv;rename_i cs hcs;split at hv;rename_i hcell;split at hv;rename_i l hl;refine Qy8 (fun g w args' hg ha=> ?_) hp;have hk: ∀i k,kdX X i=some k->k.wrap (g.sig.i i)=g.sig.i i:=fun i k h=>hg.kd i k h;have ea:=Qug hk e.ins args cs args'.toList hcs hcell ha;have hin:=Q64 hk (cellsOf e.ins) cs hcell (Q65 _ _ hcell);have hargs:args'=(encS e.ins (cs.map fun a=>numS (den g.sig a))).toArray:=by rw [<-ea]
 rw [hargs];refine (hok _ hin w).mono ?_;rintro en w' ⟨rfl,hB⟩;have hout:=Qwz (lit:=cs.all Qc4) hT hg ht (fun h=>h) hl;have hnum:encS e.outs (Qd3 (Qd6 Fs) (cs.map fun a=>numS (den g.sig a)) (64*e.id) (cellsOf e.outs).length)=encS e.outs (Fs e.id (cs.map fun a=>numS (den g.sig a))):=by
  refine Qt4 fun i hi=> ?_;rw [Qru _ _ _ _ hi];unfold Qd6;rw [show (64*e.id+i)/64=e.id by omega,show (64*e.id+i)%64=i by omega]
 rw [hnum] at hout;refine ⟨_,rfl,?_,hB⟩;generalize Fs e.id (cs.map fun a=>numS (den g.sig a))=R at hout⊢;generalize e.outs=outs at hv hout⊢;unfold Q7l at hv;unfold encR;split at hv;rename_i s;split at hv
 ·rename_i a
  cases hv;cases hE:encS [s] R with
  |nil=>rw [hE] at hout;cases hout
  |cons u us=>rw [hE] at hout;cases hout with|cons _ _ _ _ h1 _=>exact h1
 cases hv;rename_i hne;cases hv;exact .tuple _ _ (by simpa using hout);cases hv;cases hv;cases hv;cases hv
end Go.Ev
namespace Go.Ev
set_option linter.unusedVariables false
theorem Qblj {g:Inj} {k:IntKind} {i:Nat} {n:Int} (h:g.sig.i i=n):VRel g (.symi k i) (.int k n):=h▸ .symi k i
theorem Qbli {g:Inj} {i:Nat} {n:Bool} (h:g.sig.b i=n):VRel g (.symb i) (.bool n):=h▸ .symb i
theorem Qblf {g:Inj} {a:AVal} {u:Value} {k:IntKind} {n:Int} (h:VRel g a u) (hd:den g.sig a=.int k n):u=.int k n:=by
 have:=Qn.2 h;rw [hd] at this;cases this;rfl
structure Shape where
 t:List (Nat×AVal)
 heap:List Blk
abbrev Asg:=List (Nat×AVal)
abbrev Bm:=List (Nat×Nat)
def Qxq:AVal->AVal->Bool
 |.int k a,.int k' b=>decide (k=k')&&a==b
 |.bool a,.bool b=>a==b
 |.str a,.str b=>a.toList==b.toList
 |.nilptr,.nilptr=>true
 |.nilslice,.nilslice=>true
 |.nilmap,.nilmap=>true
 |.nilfunc,.nilfunc=>true
 |.niliface,.niliface=>true
 |_,_=>false
def numP:AVal->Bool
 |.int _ _=>true
 |.symi _ _=>true
 |_=>false
def strP:AVal->Bool
 |.str _=>true
 |.syms _=>true
 |_=>false
theorem Qob {g:Inj} {a:AVal} {k:IntKind} {n:Int} (h:den g.sig a=.int k n):VRel g a (.int k n):=Qn.1 (by rw [h];exact .int _ _)
theorem Q71 {g:Inj} {a:AVal} {s:ByteArray} (h:den g.sig a=.str s):VRel g a (.string s):=Qn.1 (by rw [h];exact .str _)
def Qxs:Fn->Fn->Bool
 |.func k,.func k'=>Nat.beq k k'
 |_,_=>false
theorem Qbm7 {a b:Fn} (h:Qxs a b=true):a=b:=by
 unfold Qxs at h;split at h;rw [Nat.eq_of_beq_eq_true h];cases h
mutual
def Qz (f:Bm):AVal->AVal->Option Asg
 |.symi k i,b=>match skOf b with
  |some (.i k')=>if k=k' then some [(i,b)] else none
  |_=>none
 |.symb i,b=>match skOf b with
  |some .b=>some [(i,b)]
  |_=>none
 |.syms i,b=>match skOf b with
  |some .s=>some [(i,b)]
  |_=>none
 |.ptr b o,c=>match c with
  |.ptr b' o'=>match f[b]? with
   |some (x,sh)=>if x=b'/\o'=o+sh then some [] else none
   |none=>none
  |_=>none
 |.agg l,c=>match c with
  |.agg m=>Qd1 f l m
  |_=>none
 |.tuple l,c=>match c with
  |.tuple m=>Qd1 f l m
  |_=>none
 |.iface t v,c=>match c with
  |.iface t' v'=>if t=t' then Qz f v v' else none
  |_=>none
 |.row i,c=>match c with
  |.row i'=>if i=i' then some [] else none
  |_=>none
 |.crow i,c=>match c with
  |.crow i'=>if i=i' then some [] else none
  |_=>none
 |.slice b o len cap ex,c=>match c with
  |.slice b' o' len' cap' ex'=>match f[b]? with
   |some (x,sh)=>if x=b'/\len=len'/\ex=ex'/\cap<=cap'/\(ex=none->cap=cap')/\(((0<len\/ex=none)/\o'=o+sh)\/(len=0/\cap=0/\ex≠none/\sh=0)) then some [] else none
   |none=>none
  |_=>none
 |.lsl b z ap off n,c=>match c with
  |.lsl b' z' ap' off' n'=>match f[b]? with
   |some (x,sh)=>match numP off&&(numP n&&(Nat.beq z z'&&((!ap||ap')&&(isZ n'||(Nat.beq x b'&&Nat.beq sh 0))))) with
    |true=>match Qz f off off',Qz f n n' with
     |some p,some q=>some (p++q)
     |_,_=>none
    |false=>none
   |none=>none
  |.nilslice=>match numP off&&numP n with
   |true=>match Qz f off (.int .i64 0),Qz f n (.int .i64 0) with
    |some p,some q=>some (p++q)
    |_,_=>none
   |false=>none
  |_=>none
 |.lptr b z ix j,c=>match c with
  |.lptr b' z' ix' j'=>match f[b]? with
   |some (x,sh)=>match numP ix&&(Nat.beq z z'&&(Nat.beq j j'&&(Nat.beq x b'&&Nat.beq sh 0))) with
    |true=>Qz f ix ix'
    |false=>none
   |none=>none
  |_=>none
 |.func fv fi ca,c=>match c with
  |.func fv' fi' ca'=>match Qxs fv fv' with
   |true=>match Qd1 f fi fi',Qd1 f ca ca' with
    |some p,some q=>some (p++q)
    |_,_=>none
   |false=>none
  |_=>none
 |a,b=>match Qxq a b with
  |true=>some []
  |false=>none
def Qd1 (f:Bm):List AVal->List AVal->Option Asg
 |[],m=>match m with
  |[]=>some []
  |_=>none
 |a::l,m=>match m with
  |b::m=>match Qz f a b,Qd1 f l m with
   |some x,some y=>some (x++y)
   |_,_=>none
  |[]=>none
end
def Fits (V U:Sig) (l:Asg):Prop:=
 ∀p,p∈l->(∀k n,den V p.2=.int k n->U.i p.1=n)/\(∀b,den V p.2=.bool b->U.b p.1=b)/\(∀s,den V p.2=.str s->U.s p.1=s)
theorem Fits.left {V U:Sig} {l m:Asg} (h:Fits V U (l++m)):Fits V U l:=fun p hp=>h p (by simp [hp])
theorem Fits.right {V U:Sig} {l m:Asg} (h:Fits V U (l++m)):Fits V U m:=fun p hp=>h p (by simp [hp])
theorem Qbm5 {g g2:Inj} {a b:AVal} {v:Value} (h:Qxq a b=true) (hv:VRel g b v):VRel g2 a v:=by
 unfold Qxq at h;split at h;simp only [Bool.and_eq_true,decide_eq_true_eq,beq_iff_eq] at h;obtain ⟨rfl,rfl⟩:=h;cases hv;exact .int _ _;simp only [beq_iff_eq] at h;subst h;cases hv;exact .bool _;rw [toList_inj (eq_of_beq h)];cases hv;exact .str _;cases hv;exact .nilptr;cases hv;exact .nilslice;cases hv;exact .nilmap;cases hv;exact .nilfunc;cases hv;exact .niliface;cases h
theorem Qble {g:Inj} {a:AVal} {u:Value} {n:Bool} (h:VRel g a u) (hd:den g.sig a=.bool n):u=.bool n:=by
 have:=Qn.2 h;rw [hd] at this;cases this;rfl
theorem Qblh {g:Inj} {a:AVal} {u:Value} {n:ByteArray} (h:VRel g a u) (hd:den g.sig a=.str n):u=.string n:=by
 have:=Qn.2 h;rw [hd] at this;cases this;rfl
def shift (L:Loc) (sh:Nat):Loc:=⟨L.blk,L.dl+sh,L.n-sh⟩
def Qs4 (f:Bm) (g g2:Inj):Prop:=(∀b x sh L,f[b]? =some (x,sh)->g x=some L->g2 b=some (shift L sh))/\g2.sig.ext=g.sig.ext
theorem Qhj {g:Inj} {a:AVal} {k:IntKind} {n:Int} (h:numP a=true) (hv:VRel g a (.int k n)):den g.sig a=.int k n:=by
 unfold numP at h;split at h;cases hv;rfl;cases hv;rfl;cases h
theorem Qx4 {g:Inj} {a:AVal} {s:ByteArray} (h:strP a=true) (hv:VRel g a (.string s)):den g.sig a=.str s:=by
 unfold strP at h;split at h;cases hv;rfl;cases hv;rfl;cases h
mutual
theorem Qca {f:Bm} {g g2:Inj} (hf:Qs4 f g g2): ∀(a b:AVal) (l:Asg) (v:Value),Qz f a b=some l->Fits g.sig g2.sig l->VRel g b v->VRel g2 a v
 |.symi k i,b,l,v,h,hl,hv=>by
  simp only [Qz] at h;split at h;rename_i k' hk;split at h;rename_i hkk;subst hkk;cases h;obtain ⟨⟨n,hn⟩,_⟩:=sk_i hk g.sig;rw [Qblf hv hn];exact Qblj ((hl (i,b) (by simp)).1 _ _ hn);cases h;cases h
 |.symb i,b,l,v,h,hl,hv=>by
  simp only [Qz] at h;split at h;rename_i hk;cases h;obtain ⟨⟨n,hn⟩,_⟩:=sk_b hk g.sig;rw [Qble hv hn];exact Qbli ((hl (i,b) (by simp)).2.1 _ hn);cases h
 |.syms i,b,l,v,h,hl,hv=>by
  simp only [Qz] at h;split at h;rename_i hk;cases h;obtain ⟨⟨n,hn⟩,_⟩:=sk_s hk g.sig;rw [Qblh hv hn];have:=(hl (i,b) (by simp)).2.2 _ hn;rw [<-this];exact .syms i;cases h
 |.ptr b o,c,l,v,h,hl,hv=>by
  simp only [Qz] at h;split at h;rename_i b' o';split at h;rename_i x sh hx;split at h
  ·rename_i hc
   obtain ⟨rfl,rfl⟩:=hc;cases hv with
   |ptr _ _ L hL=>
    have:=VRel.ptr (g:=g2) b o _ (hf.1 b x sh L hx hL);simpa [shift,Nat.add_assoc,Nat.add_comm sh o] using this
  cases h;cases h;cases h
 |.agg l0,c,l,v,h,hl,hv=>by
  simp only [Qz] at h;split at h
  ·cases hv with
   |agg _ m hm=>exact .agg _ _ (Qka hf _ _ _ _ h hl hm)
  cases h
 |.tuple l0,c,l,v,h,hl,hv=>by
  simp only [Qz] at h;split at h
  ·cases hv with
   |tuple _ m hm=>exact .tuple _ _ (Qka hf _ _ _ _ h hl hm)
  cases h
 |.iface t x,c,l,v,h,hl,hv=>by
  simp only [Qz] at h;split at h;split at h
  ·rename_i ht
   subst ht;cases hv with
   |iface _ _ x' hx=>exact .iface _ _ _ (Qca hf _ _ _ _ h hl hx)
  cases h;cases h
 |.row i,c,l,v,h,hl,hv=>by
  simp only [Qz] at h;split at h;split at h
  ·rename_i hi
   subst hi;cases hv with
   |row _ X ao cap h1 h2 h3=>exact .row i X ao cap (by rw [hf.2];exact h1) h2 h3
  cases h;cases h
 |.crow i,c,l,v,h,hl,hv=>by
  simp only [Qz] at h;split at h;split at h
  ·rename_i hi
   subst hi;cases hv with
   |crow _ X ao h1 h2=>exact .crow i X ao (by rw [hf.2];exact h1) h2
  cases h;cases h
 |.slice b o len cap ex,c,l,v,h,hl,hv=>by
  simp only [Qz] at h;split at h;rename_i b' o' len' cap' ex';split at h;rename_i x sh hx;split at h
  ·rename_i hc
   obtain ⟨rfl,rfl,rfl,hcap,hnone,hoff⟩:=hc;cases hv with
   |slice _ _ _ _ _ o2 cv L hL h0 h1 h2=>
    have hm:=hf.1 b x sh L hx hL;rcases hoff with ⟨hlen,rfl⟩|⟨rfl,rfl,hne,rfl⟩
    have ho:o2=o+sh:=by
     rcases h0 with h0|h0;exact h0;rcases hlen with hlen|hlen;omega;exact absurd hlen h0.2.2
    subst ho;have:=VRel.slice (g:=g2) b o len cap ex o cv (shift L sh) hm (.inl rfl) (fun e=>by rw [h1 e,hnone e]) (fun z hz=>by
     obtain ⟨q1,q2⟩:=h2 z hz;simp only [shift];exact ⟨by omega,by omega⟩)
    simpa [shift,Nat.add_assoc,Nat.add_comm sh o] using this;have:=VRel.slice (g:=g2) b o 0 0 ex o2 cv (shift L 0) hm (.inr ⟨rfl,rfl,hne⟩) (fun e=>absurd e hne) (fun z hz=>by
     obtain ⟨q1,q2⟩:=h2 z hz;simp only [shift];exact ⟨Nat.zero_le _,by omega⟩)
    simpa [shift] using this
  cases h;cases h;cases h
 |.lsl b z ap off n,c,l,v,h,hl,hv=>by
  simp only [Qz] at h;split at h;rename_i b' z' ap' off' n';split at h;rename_i x sh hx;split at h;rename_i hc;simp only [Bool.and_eq_true] at hc;obtain ⟨c1,c2,c3,c4,c5⟩:=hc;have c3:=Nat.eq_of_beq_eq_true c3;subst c3;split at h
  ·rename_i p q hp hq
   cases h;cases hv with
   |lsl _ _ _ _ _ o m cap ao h1 h2 h3 h4 h5=>
    have d1:=Qhj c1 (Qca hf off off' p _ hp hl.left (Qob h1));have d2:=Qhj c2 (Qca hf n n' q _ hq hl.right (Qob h2));refine .lsl b z ap off n o m cap ao d1 d2 h3 (fun ha=>h4 ?_) (fun hm=> ?_);subst ha;simpa using c4;obtain ⟨L,k1,k2,k3⟩:=h5 hm;rw [Bool.or_eq_true] at c5;rcases c5 with c5|c5
    rw [Qdm c5] at h2;simp only [den,AVal.int.injEq,true_and] at h2;omega;simp only [Bool.and_eq_true] at c5;have e1:=Nat.eq_of_beq_eq_true c5.1;have e2:=Nat.eq_of_beq_eq_true c5.2;subst e1;subst e2;have:=hf.1 b x 0 L hx k1;exact ⟨shift L 0,this,by simpa [shift] using k2,by simpa [shift] using k3⟩
  cases h;cases h;cases h;split at h;rename_i hc;simp only [Bool.and_eq_true] at hc;split at h;rename_i p q hp hq;cases h;cases hv;have d1:=Qhj hc.1 (Qca hf off _ p _ hp hl.left (.int _ _));have d2:=Qhj hc.2 (Qca hf n _ q _ hq hl.right (.int _ _));exact .lsl b z ap off n 0 0 0 none d1 d2 ⟨Nat.le_refl _,by decide⟩ (fun _=>⟨rfl,fun _=>rfl⟩) (fun hm=>absurd hm (Nat.lt_irrefl 0));cases h;cases h;cases h
 |.lptr b z ix j,c,l,v,h,hl,hv=>by
  simp only [Qz] at h;split at h;rename_i b' z' ix' j';split at h;rename_i x sh hx;split at h
  ·rename_i hc
   simp only [Bool.and_eq_true] at hc;obtain ⟨c1,c2,c3,c4,c5⟩:=hc;have c2:=Nat.eq_of_beq_eq_true c2;have c3:=Nat.eq_of_beq_eq_true c3;have c4:=Nat.eq_of_beq_eq_true c4;have c5:=Nat.eq_of_beq_eq_true c5;subst c2;subst c3;subst c4;subst c5;cases hv with
   |lptr _ _ _ _ m L h1 h2 h3 h4=>
    have d1:=Qhj c1 (Qca hf ix ix' l _ h hl (Qob h2));have:=VRel.lptr (g:=g2) b z ix j m (shift L 0) (hf.1 b x 0 L hx h1) d1 (by simpa [shift] using h3) h4;simpa [shift] using this
  cases h;cases h;cases h
 |.func fv fi ca,c,l,v,h,hl,hv=>by
  simp only [Qz] at h;split at h;rename_i fv' fi' ca';split at h;rename_i hs;have:=Qbm7 hs;subst this;split at h
  ·rename_i p q hp hq
   cases h;cases hv with
   |func _ _ _ fs cs h1 h2=>exact .func _ _ _ fs cs (Qka hf _ _ _ _ hp hl.left h1) (Qka hf _ _ _ _ hq hl.right h2)
  cases h;cases h;cases h
 |.yield _,b,l,v,h,hl,hv|.rptr _ _ _,b,l,v,h,hl,hv|.int _ _,b,l,v,h,hl,hv|.bool _,b,l,v,h,hl,hv|.float _ _,b,l,v,h,hl,hv|.str _,b,l,v,h,hl,hv|.nilptr,b,l,v,h,hl,hv|.nilslice,b,l,v,h,hl,hv
 |.nilmap,b,l,v,h,hl,hv|.map _,b,l,v,h,hl,hv|.nilfunc,b,l,v,h,hl,hv|.niliface,b,l,v,h,hl,hv=>by
  simp only [Qz] at h;split at h;rename_i hs;exact Qbm5 hs hv;cases h
theorem Qka {f:Bm} {g g2:Inj} (hf:Qs4 f g g2): ∀(a b:List AVal) (l:Asg) (v:List Value),Qd1 f a b=some l->Fits g.sig g2.sig l->LRel g b v->LRel g2 a v
 |[],b,l,v,h,hl,hv=>by
  simp only [Qd1] at h;split at h;cases hv;exact .nil;cases h
 |a::r,b,l,v,h,hl,hv=>by
  simp only [Qd1] at h;split at h;split at h
  ·rename_i x y hx hy
   cases h;cases hv with
   |cons _ u _ m h1 h2=>exact .cons _ _ _ _ (Qca hf _ _ _ _ hx hl.left h1) (Qka hf _ _ _ _ hy hl.right h2)
  cases h;cases h
end
def Qnx (f:Bm):List AVal->List AVal->Option Asg
 |[],_=>some []
 |a::l,m=>match m with
  |b::m=>match Qz f a b,Qnx f l m with
   |some x,some y=>some (x++y)
   |_,_=>none
  |[]=>none
theorem Qwi {f:Bm}: ∀(c d:List AVal) (l:Asg),Qnx f c d=some l-> ∀(i:Nat) (a:AVal),c[i]? =some a-> ∃b m,d[i]? =some b/\Qz f a b=some m/\ ∀p,p∈m->p∈l
 |[],_,_,_,i,a,h=>by simp at h
 |x::c,d,l,h,i,a,hi=>by
  simp only [Qnx] at h;split at h;rename_i b d;split at h
  ·rename_i y z hy hz
   cases h;cases i with
   |zero=>simp at hi;subst hi;exact ⟨b,y,by simp,hy,fun p hp=>by simp [hp]⟩
   |succ i=>
    obtain ⟨b',m,h1,h2,h3⟩:=Qwi c d z hz i a (by simpa using hi);exact ⟨b',m,by simpa using h1,h2,fun p hp=>by simp [h3 p hp]⟩
  cases h;cases h
def Qnw (f:Bm) (src:List Blk) (k:Blk) (i:Nat):Option Asg:=
 match k with
 |.gone=>some []
 |.map _=>none
 |.loop _=>none
 |.dfr=>none
 |.iter _ _ _=>none
 |.lst s n cl e=>match f[i]? with
  |some (x,sh)=>match strP s&&numP n with
   |true=>match src[x]? with
    |some (.lst s' n' cl' e')=>if sh=0/\cl=cl'/\(e=0\/e=e') then
      match Qz f s s',Qz f n n' with
      |some p,some q=>some (p++q)
      |_,_=>none
     else none
    |none=>match Qz f s (.str .empty),Qz f n (.int .i64 0) with
     |some p,some q=>some (p++q)
     |_,_=>none
    |_=>none
   |false=>none
  |none=>none
 |.cells c e=>match f[i]? with
  |some (x,sh)=>match src[x]? with
   |some (.cells c' e')=>if e=e'/\sh<=c'.length then Qnx f c (c'.drop sh) else none
   |_=>none
  |none=>none
def Qfg (f:Bm) (src:List Blk):List Blk->Nat->Option Asg
 |[],_=>some []
 |k::ks,i=>match Qnw f src k i,Qfg f src ks (i+1) with
  |some x,some y=>some (x++y)
  |_,_=>none
theorem Qwg {f:Bm} {src:List Blk}: ∀(ks:List Blk) (n:Nat) (l:Asg),Qfg f src ks n=some l-> ∀(i:Nat) (k:Blk),ks[i]? =some k-> ∃m,Qnw f src k (n+i)=some m/\ ∀p,p∈m->p∈l
 |[],_,_,_,i,k,h=>by simp at h
 |x::ks,n,l,h,i,k,hi=>by
  simp only [Qfg] at h;split at h
  ·rename_i y z hy hz
   cases h;cases i with
   |zero=>simp at hi;subst hi;exact ⟨y,hy,fun p hp=>by simp [hp]⟩
   |succ i=>
    obtain ⟨m,h1,h2⟩:=Qwg ks (n+1) z hz i k (by simpa using hi);exact ⟨m,by rw [show n+(i+1)=n+1+i by omega];exact h1,fun p hp=>by simp [h2 p hp]⟩
  cases h
def Qnz (f:Bm) (t:Tm):List (Nat×AVal)->Option Asg
 |[]=>some []
 |p::r=>match t.get p.1 with
  |some b=>match Qz f p.2 b,Qnz f t r with
   |some x,some y=>some (x++y)
   |_,_=>none
  |none=>none
theorem Q6g {f:Bm} {t:Tm}: ∀(r:List (Nat×AVal)) (l:Asg),Qnz f t r=some l-> ∀p,p∈r-> ∃b m,t.get p.1=some b/\Qz f p.2 b=some m/\ ∀q,q∈m->q∈l
 |[],_,_,p,hp=>by cases hp
 |q::r,l,h,p,hp=>by
  simp only [Qnz] at h;split at h;rename_i b hb;split at h;rename_i x y hx hy;cases h;rcases List.mem_cons.1 hp with rfl|hp
  exact ⟨b,x,hb,hx,fun z hz=>by simp [hz]⟩;obtain ⟨b',m,h1,h2,h3⟩:=Q6g r y hy p hp;exact ⟨b',m,h1,h2,fun z hz=>by simp [h3 z hz]⟩;cases h;cases h
def Qro (x:Nat):Bm->Bool
 |[]=>true
 |p::l=> !(Nat.beq p.1 x)&&Qro x l
def Qek:Bm->Bool
 |[]=>true
 |p::l=>Qro p.1 l&&Qek l
theorem Qrp {x:Nat}: ∀{l:Bm},Qro x l=true-> ∀(i y sh:Nat),l[i]? =some (y,sh)->y≠x
 |[],_,i,y,sh,h=>by simp at h
 |p::l,hl,i,y,sh,h=>by
  simp only [Qro,Bool.and_eq_true,Bool.not_eq_true'] at hl;cases i with
  |zero=>simp at h;subst h;exact Nat.ne_of_beq_eq_false hl.1
  |succ i=>exact Qrp hl.2 i y sh (by simpa using h)
theorem Q6x: ∀{l:Bm},Qek l=true-> ∀(i j x sh sh':Nat),l[i]? =some (x,sh)->l[j]? =some (x,sh')->i=j
 |[],_,i,_,_,_,_,h,_=>by simp at h
 |p::l,hl,i,j,x,sh,sh',hi,hj=>by
  simp only [Qek,Bool.and_eq_true] at hl;cases i with
  |zero=>
   cases j with
   |zero=>rfl
   |succ j=>
    simp at hi;subst hi;exact absurd rfl (Qrp hl.1 j x sh' (by simpa using hj))
  |succ i=>
   cases j with
   |zero=>
    simp at hj;subst hj;exact absurd rfl (Qrp hl.1 i x sh (by simpa using hi))
   |succ j=>rw [Q6x hl.2 i j x sh sh' (by simpa using hi) (by simpa using hj)]
def Qbd (f:Bm) (g:Inj) (U:Sig):Inj:=⟨fun b=>match f[b]? with
 |some (x,sh)=>(g x).map fun L=>shift L sh
 |none=>none,U,fun _=>none⟩
theorem Qdh (f:Bm) (g:Inj) (U:Sig) (he:U.ext=g.sig.ext):Qs4 f g (Qbd f g U):=by
 refine ⟨?_,he⟩;intro b x sh L h1 h2;simp [Qbd,h1,h2]
theorem Qhi {f:Bm} {g:Inj} {U:Sig} {b:Nat} {M:Loc} (h:Qbd f g U b=some M): ∃x sh L,f[b]? =some (x,sh)/\g x=some L/\M=shift L sh:=by
 simp only [Qbd] at h;split at h;rename_i x sh hx;simp only [Option.map_eq_some_iff] at h;obtain ⟨L,hL,rfl⟩:=h;exact ⟨x,sh,L,hx,hL,rfl⟩;cases h
theorem Qkp {ng ng2:Cx} {f:Bm} {g:Inj} {U:Sig} {H pats:List Blk} {w:World} {l:Asg} (hH:HRel ng g H w) (h0:ng2.n=0) (hG:ng2.Good U) (hlen:f.length=pats.length) (htw:Qek f=true) (hm:Qfg f H pats 0=some l) (hl:Fits g.sig U l) (he:U.ext=g.sig.ext):
  HRel ng2 (Qbd f g U) pats w:=by
 have cell: ∀(i:Nat) (k:Blk),pats[i]? =some k->k≠.gone->(∃c e x sh c' m,k=.cells c e/\f[i]? =some (x,sh)/\H[x]? =some (.cells c' e)/\sh<=c'.length/\Qnx f c (c'.drop sh)=some m/\ ∀p,p∈m->p∈l)\/
   ∃s n cl e x sh,k=.lst s n cl e/\f[i]? =some (x,sh)/\strP s=true/\numP n=true/\ ∃p q,(∀r,r∈p->r∈l)/\(∀r,r∈q->r∈l)/\
    ((H[x]? =none/\Qz f s (.str .empty)=some p/\Qz f n (.int .i64 0)=some q)\/ ∃s' n' e',sh=0/\H[x]? =some (.lst s' n' cl e')/\(e=0\/e=e')/\Qz f s s'=some p/\Qz f n n'=some q):=by
  intro i k hi hk;obtain ⟨m,h1,h2⟩:=Qwg pats 0 l hm i k hi;rw [Nat.zero_add] at h1;unfold Qnw at h1;split at h1;exact absurd rfl hk;cases h1;cases h1;cases h1;cases h1;rename_i s n cl e;split at h1;rename_i x sh hx;split at h1;rename_i hsn;simp only [Bool.and_eq_true] at hsn;split at h1;rename_i s' n' cl' e' hc;split at h1;rename_i hcond;obtain ⟨rfl,rfl,hee⟩:=hcond;split at h1;rename_i p q hp hq;cases h1;exact .inr ⟨s,n,cl,e,x,0,rfl,hx,hsn.1,hsn.2,p,q,fun r hr=>h2 r (by simp [hr]),fun r hr=>h2 r (by simp [hr]),.inr ⟨s',n',e',rfl,hc,hee,hp,hq⟩⟩;cases h1;cases h1;rename_i hc;split at h1;rename_i p q hp hq;cases h1;exact .inr ⟨s,n,cl,e,x,sh,rfl,hx,hsn.1,hsn.2,p,q,fun r hr=>h2 r (by simp [hr]),fun r hr=>h2 r (by simp [hr]),.inl ⟨hc,hp,hq⟩⟩;cases h1;cases h1;cases h1;cases h1;rename_i c e;split at h1;rename_i x sh hx;split at h1;rename_i c' e' hc;split at h1;rename_i hcond;obtain ⟨rfl,hs⟩:=hcond;exact .inl ⟨c,e,x,sh,c',m,rfl,hx,hc,hs,h1,h2⟩;cases h1;cases h1;cases h1
 have live: ∀(i x sh:Nat) (L:Loc),Live pats i->f[i]? =some (x,sh)->g x=some L->Live H x:=by
  rintro i x sh L ⟨k,hk,hne⟩ hx hL;rcases cell i k hk hne with ⟨c,e,x',sh',c',m,rfl,hx',hc,_⟩|⟨s,n,cl,e,x',sh',rfl,hx',_,_,p,q,_,_,hh⟩;rw [hx] at hx';cases hx';exact ⟨_,hc,by simp⟩;rw [hx] at hx';cases hx';rcases hh with ⟨h1,_⟩|⟨s',n',_,_,h1,_⟩;have:=(hH.dom x L hL).1;rw [List.getElem?_eq_none_iff] at h1;omega;exact ⟨_,h1,by simp⟩
 refine ⟨?_,?_,?_,fun i hi=>by omega,hG,⟨?_,(fun i X hi=>by cases hi),fun i X hi hX=>hH.frz.top i X hi (by rw [<-he];exact hX)⟩⟩
 rotate_left 3
 intro i X hi hlen';have hi:g.sig.ext i=some X:=by rw [<-he];exact hi
 refine ⟨(hH.frz.row i X hi hlen').1,?_⟩;intro j M hj lj;obtain ⟨x,sh,L,h1,h2,rfl⟩:=Qhi hj;exact (hH.frz.row i X hi hlen').2 x L h2 (live j x sh L lj h1 h2);intro i M hi;obtain ⟨x,sh,L,h1,h2,rfl⟩:=Qhi hi;exact ⟨by rw [<-hlen];exact (List.getElem?_eq_some_iff.1 h1).1,(hH.dom x L h2).2⟩;intro i j M N hi hj hb li lj;obtain ⟨x,sh,L,h1,h2,rfl⟩:=Qhi hi;obtain ⟨x',sh',L',h1',h2',rfl⟩:=Qhi hj;have:=hH.inj x x' L L' h2 h2' hb (live i x sh L li h1 h2) (live j x' sh' L' lj h1' h2');subst this;exact Q6x htw i j x sh sh' h1 h1';intro i k hi hk;rcases cell i k hi hk with ⟨c,e,x,sh,c',m,rfl,hx,hc,hs,hpre,hsub⟩|⟨s,n,cl,e,x,sh,rfl,hx,hsp,hnp,p,q,hp,hq,hh⟩
 obtain ⟨L,hL,C,fr,b1,b2,b3,b4,b5⟩:=hH.blk x _ hc (by simp);refine .inr ⟨shift L sh,(Qdh f g U he).1 i x sh L hx hL,C,fr,b1,by simp only [shift];omega,b3,?_,?_⟩;have hle:c.length<=(c'.drop sh).length:=by
  rcases Nat.lt_or_ge (c'.drop sh).length c.length with h9|h9;have hget:c[(c'.drop sh).length]? =some c[(c'.drop sh).length]:=by simp
  obtain ⟨b,_,hb,_⟩:=Qwi c _ m hpre _ _ hget;have:=(List.getElem?_eq_some_iff.1 hb).1;omega;exact h9
 simp only [List.length_drop] at hle;simp only [shift];omega;intro j a hj;obtain ⟨b,m',q1,q2,q3⟩:=Qwi c _ m hpre j a hj;rw [List.getElem?_drop] at q1;obtain ⟨v,r1,r2,r3⟩:=b5 (sh+j) b q1;refine ⟨v,?_,Qca (Qdh f g U he) a b m' v q2 (fun p hp=>hl p (hsub p (q3 p hp))) r2,r3⟩;simpa [shift,Nat.add_assoc] using r1;have hfp:Fits g.sig U p:=fun r hr=>hl r (hp r hr);have hfq:Fits g.sig U q:=fun r hr=>hl r (hq r hr);rcases hh with ⟨h1,m1,m2⟩|⟨s',n',e8,rfl,h1,hee,m1,m2⟩
 refine .inl ⟨s,n,cl,e,rfl,?_,?_⟩;exact Qx4 hsp (Qca (Qdh f g U he) s _ p _ m1 hfp (.str _));exact Qhj hnp (Qca (Qdh f g U he) n _ q _ m2 hfq (.int _ _));rcases hH.blk0 x _ h1 (by simp) with ⟨s2,n2,cl2,e2,hk2,d1,d2⟩|⟨L,hL,S,N,C,fr,e9,b1,b2,b3,b4,b5,b6,b7,b8⟩
 cases hk2;refine .inl ⟨s,n,cl,e,rfl,?_,?_⟩;exact Qx4 hsp (Qca (Qdh f g U he) s s' p _ m1 hfp (Q71 d1));exact Qhj hnp (Qca (Qdh f g U he) n n' q _ m2 hfq (Qob d2));refine .inr ⟨shift L 0,(Qdh f g U he).1 i x 0 L hx hL,S,N,C,fr,e9,?_,?_,b3,b4,by simp only [shift];omega,⟨fun h9=>hee.elim (fun h=>absurd h h9) (fun h=>by subst h;have:=b6.1 h9;exact ⟨this.1,this.2.1,fun i X hi hX=>this.2.2 i X hi (by rw [<-he];exact hX)⟩),fun i X hi hX hb=>b6.2 i X hi (by rw [<-he];exact hX) hb⟩,by simp only [shift];omega,fun m j hm hj=> ?_⟩;exact Qx4 hsp (Qca (Qdh f g U he) s s' p _ m1 hfp (Q71 b1));exact Qhj hnp (Qca (Qdh f g U he) n n' q _ m2 hfq (Qob b2));obtain ⟨v,v1,v2,v3⟩:=b8 m j hm hj;refine ⟨v,by simpa [shift] using v1,?_,v3⟩;rcases Qgw cl j (S.data.toList.drop (m*rsz cl)) with ⟨k',n3,_,e3⟩|⟨_,b',e3⟩
 have:Qm cl S m j=.int k' n3:=e3;rw [this] at v2⊢;cases v2;exact .int _ _;have:Qm cl S m j=.bool b':=e3;rw [this] at v2⊢;cases v2;exact .bool _
def cx0 (tab:TabF):Cx:={n:=0,look:=fun _=>none,fact:=fun _=>none,tab:=tab}
theorem Qe5 {tab:TabF} {V:Sig} (h:V.tab=tab):(cx0 tab).Good V:=
 ⟨fun _ _ h=>by simp [cx0] at h,fun _ _ h=>by simp [cx0] at h,fun _ _ h=>by simp [cx0] at h,h,fun _ _ _ h=>by simp [cx0] at h,fun _ _ _ _ h=>by simp [cx0] at h,fun _ _ _ _ h=>by simp [cx0] at h,fun _ _ h=>by simp [cx0] at h,fun _ _ h=>by simp [cx0] at h,fun _ _ _ _ h=>by simp [cx0] at h,trivial⟩
structure Fra where
 w:World
 own:Nat->Prop
 new: ∀b,w.heap.size<=b->own b
 pin:Nat->Option (Option Loc):=fun _=>none
def Fra.of (w:World):Fra:={w:=w,own:=fun b=>w.heap.size<=b,new:=fun _ h=>h}
instance:Coe World Fra:=⟨Fra.of⟩
structure BelowF (f:Fra) (w:World):Prop where
 os:w.os=f.w.os
 tape:w.tape=f.w.tape
 output:w.output=f.w.output
 size:f.w.heap.size<=w.heap.size
 frame: ∀b,b<f.w.heap.size-> ¬f.own b->w.heap[b]? =f.w.heap[b]?
theorem BelowF.refl (f:Fra):BelowF f f.w:=⟨rfl,rfl,rfl,Nat.le_refl _,fun _ _ _=>rfl⟩
structure At (tab:TabF) (s:Shape) (n:Nat) (V:Sig) (w0:Fra) (a:Act) (w:World):Prop where
 ex: ∃g:Inj,g.sig=V/\HRel (cx0 tab) g s.heap w/\(∀p,p∈s.t-> ∃u,a.tmps[p.1]? =some u/\VRel g p.2 u)/\(∀i L,g i=some L->w0.own L.blk)/\ ∀i x,w0.pin i=some x->i<s.heap.length/\g i=x
 below:BelowF w0 w
 size:a.tmps.size=n
 defers:a.defers=[]
inductive SEx where
 |normal
 |exit (i:Nat)
 |ret
 |pan (v:AVal)
def Qb6 (U:Sig):SEx->Exit->Prop
 |.normal,.normal=>True
 |.exit i,.exit j=>i=j
 |.ret,.ret=>True
 |.pan v,.panic ch=> ∃u,ch=[{v:=u,recovered:=false}]/\ ∀g:Inj,g.sig=U->VRel g v u
 |_,_=>False
def Qde:Asg->Nat->Option AVal
 |[],_=>none
 |p::l,i=>match Nat.beq p.1 i with
  |true=>some p.2
  |false=>Qde l i
def Qgy (l:Asg):List (Nat×AVal)->Bool
 |[]=>true
 |p::r=>(match Qde l p.1 with
  |some y=>Qit p.2 y
  |none=>false)&&Qgy l r
def iOf:AVal->Int
 |.int _ n=>n
 |_=>0
def bOf:AVal->Bool
 |.bool b=>b
 |_=>false
def sOf:AVal->ByteArray
 |.str s=>s
 |_=> .empty
def valS (V:Sig):AVal->AVal
 |.rptr i ix j=>match V.ext i with
  |some X=>X.val (iOf (den V ix)).toNat j
  |none=> .nilptr
 |a=>den V a
def asgS (V:Sig) (l:Asg):Sig where
 i:=fun i=>match Qde l i with
  |some x=>iOf (valS V x)
  |none=>0
 b:=fun i=>match Qde l i with
  |some x=>bOf (valS V x)
  |none=>false
 s:=fun i=>match Qde l i with
  |some x=>sOf (valS V x)
  |none=> .empty
 tab:=V.tab
 ext:=V.ext
theorem Qtm {l:Asg}: ∀{r:List (Nat×AVal)},Qgy l r=true-> ∀p,p∈r->Qde l p.1=some p.2
 |[],_,p,hp=>by cases hp
 |q::r,h,p,hp=>by
  simp only [Qgy,Bool.and_eq_true] at h;rcases List.mem_cons.1 hp with rfl|hp
  have h1:=h.1;split at h1;rename_i y hy;rw [hy,Qof h1];cases h1;exact Qtm h.2 p hp
theorem Q00 {x:Asg} (y:Asg) {i:Nat} {v:AVal} (h:Qde x i=some v):Qde (x++y) i=some v:=by
 induction x with
 |nil=>simp [Qde] at h
 |cons p l ih=>
  simp only [List.cons_append,Qde] at h⊢;split at h;exact h;exact ih h
theorem Qbcz {V:Sig} {l r:Asg} (h:Qgy l r=true):Fits V (asgS V l) r:=by
 intro p hp;have:=Qtm h p hp;have hv: ∀a,den V p.2=a->(∀i ix j,p.2=.rptr i ix j->False)->valS V p.2=a:=by
  intro a ha hne;unfold valS;split;rename_i i ix j he;exact (hne i ix j he).elim;exact ha
 refine ⟨fun k n hn=> ?_,fun b hn=> ?_,fun s hn=> ?_⟩;rw [show (asgS V l).i p.1=iOf (valS V p.2) by simp only [asgS,this],hv _ hn (fun i ix j he=>by rw [he] at hn;cases hn)];rfl;rw [show (asgS V l).b p.1=bOf (valS V p.2) by simp only [asgS,this],hv _ hn (fun i ix j he=>by rw [he] at hn;cases hn)];rfl;rw [show (asgS V l).s p.1=sOf (valS V p.2) by simp only [asgS,this],hv _ hn (fun i ix j he=>by rw [he] at hn;cases hn)];rfl
def Qog (x:SEx) (y:Ex) (l:Asg):Bool:=
 match x,y with
 |.normal,.normal=>true
 |.exit i,.exit j=>Nat.beq i j
 |.ret,.ret=>true
 |.pan v,.pan u=>match Qz [] v u with
  |some r=>Qgy l r
  |none=>false
 |_,_=>false
theorem Qbm9 {g:Inj} {x:SEx} {y:Ex} {e:Exit} {l:Asg} (h:Qog x y l=true) (hr:Qbp g y e):Qb6 (asgS g.sig l) x e:=by
 cases x<;>cases y<;>simp only [Qog,Bool.false_eq_true] at h<;>cases e<;>simp only [Qbp] at hr<;>simp only [Qb6];have:=Nat.eq_of_beq_eq_true h;omega;split at h;rename_i r hr0;obtain ⟨u,rfl,hu⟩:=hr;refine ⟨u,rfl,fun g2 hg2=>Qca (f:=[]) ⟨fun b x sh L hb=>by simp at hb,by rw [hg2];rfl⟩ _ _ r u hr0 ?_ hu⟩;rw [hg2];exact Qbcz h;cases h
theorem Q04 {V:Sig} {l:Asg} (ex:Asg) (h:Qgy l l=true):Fits V (asgS V (l++ex)) l:=by
 intro p hp;have:=Q00 ex (Qtm h p hp);have hv: ∀a,den V p.2=a->(∀i ix j,p.2=.rptr i ix j->False)->valS V p.2=a:=by
  intro a ha hne;unfold valS;split;rename_i i ix j he;exact (hne i ix j he).elim;exact ha
 refine ⟨fun k n hn=> ?_,fun b hn=> ?_,fun s hn=> ?_⟩;rw [show (asgS V (l++ex)).i p.1=iOf (valS V p.2) by simp only [asgS,this],hv _ hn (fun i ix j he=>by rw [he] at hn;cases hn)];rfl;rw [show (asgS V (l++ex)).b p.1=bOf (valS V p.2) by simp only [asgS,this],hv _ hn (fun i ix j he=>by rw [he] at hn;cases hn)];rfl;rw [show (asgS V (l++ex)).s p.1=sOf (valS V p.2) by simp only [asgS,this],hv _ hn (fun i ix j he=>by rw [he] at hn;cases hn)];rfl
def Qkv:Asg->Asg->Bool
 |[],[]=>true
 |p::l,q::m=>Nat.beq p.1 q.1&&Qit p.2 q.2&&Qkv l m
 |_,_=>false
theorem Q8p: ∀{l m:Asg},Qkv l m=true->l=m
 |[],[],_=>rfl
 |(a,b)::l,(c,d)::m,h=>by
  simp only [Qkv,Bool.and_eq_true] at h;obtain ⟨⟨h1,h2⟩,h3⟩:=h;have:=Nat.eq_of_beq_eq_true h1;rw [Q8p h3,Qof h2,this]
 |[],_::_,h=>by simp [Qkv] at h
 |_::_,[],h=>by simp [Qkv] at h
def Qny (f:Bm) (s:Shape) (t:Tm) (H:List Blk) (l:Asg):Bool:=
 match Qnz f t s.t,Qfg f H s.heap 0 with
 |some x,some y=>Qkv (x++y) l&&Nat.beq f.length s.heap.length&&Qek f
 |_,_=>false
theorem Qbjo {f:Bm} {s:Shape} {t:Tm} {H:List Blk} {l:Asg} (h:Qny f s t H l=true): ∃x y,Qnz f t s.t=some x/\Qfg f H s.heap 0=some y/\l=x++y/\f.length=s.heap.length/\Qek f=true:=by
 unfold Qny at h;split at h;rename_i x y hx hy;simp only [Bool.and_eq_true] at h;obtain ⟨⟨h1,h2⟩,h3⟩:=h;exact ⟨x,y,hx,hy,(Q8p h1).symm,Nat.eq_of_beq_eq_true h2,h3⟩;cases h
def Qrq:AVal->Bool
 |.rptr _ _ _=>false
 |_=>true
def Qlp (l:Asg):List (Nat×AVal)->Bool
 |[]=>true
 |p::r=>(match Qde l p.1 with
  |some y=>Qit p.2 y||(Qrq p.2&&Qrq y)
  |none=>false)&&Qlp l r
def EqsL (V:Sig) (l:Asg):List (Nat×AVal)->Prop
 |[]=>True
 |p::r=>match Qde l p.1 with
  |some y=>match Qit p.2 y with
   |true=>EqsL V l r
   |false=>den V p.2=den V y/\EqsL V l r
  |none=>EqsL V l r
theorem Q9m {V:Sig} {a:AVal} (h:Qrq a=true):valS V a=den V a:=by
 cases a<;>first|rfl|simp [Qrq] at h
theorem Q0s {V:Sig} {l:Asg}: ∀{r:List (Nat×AVal)},Qlp l r=true->EqsL V l r-> ∀p,p∈r-> ∃y,Qde l p.1=some y/\valS V p.2=valS V y
 |[],_,_,p,hp=>by cases hp
 |q::r,h,he,p,hp=>by
  simp only [Qlp,Bool.and_eq_true] at h;obtain ⟨h1,h2⟩:=h;split at h1;rename_i y hy;simp only [EqsL,hy] at he;have hr:EqsL V l r:=by
   split at he;exact he;exact he.2
  rcases List.mem_cons.1 hp with rfl|hp;refine ⟨y,hy,?_⟩;split at he;rename_i hs;rw [Qof hs];rename_i hs;rw [hs,Bool.false_or,Bool.and_eq_true] at h1;rw [Q9m h1.1,Q9m h1.2];exact he.1;exact Q0s h2 hr p hp;cases h1
theorem Qbcy {V:Sig} {l:Asg} (ex:Asg) (h:Qlp l l=true) (he:EqsL V l l):Fits V (asgS V (l++ex)) l:=by
 intro p hp;obtain ⟨y,h1,h2⟩:=Q0s h he p hp;have:=Q00 ex h1;have hv: ∀a,den V p.2=a->(∀i ix j,p.2=.rptr i ix j->False)->valS V p.2=a:=by
  intro a ha hne;unfold valS;split;rename_i i ix j he;exact (hne i ix j he).elim;exact ha
 refine ⟨fun k n hn=> ?_,fun b hn=> ?_,fun s hn=> ?_⟩;rw [show (asgS V (l++ex)).i p.1=iOf (valS V p.2) by simp only [asgS,this,h2],hv _ hn (fun i ix j he=>by rw [he] at hn;cases hn)];rfl;rw [show (asgS V (l++ex)).b p.1=bOf (valS V p.2) by simp only [asgS,this,h2],hv _ hn (fun i ix j he=>by rw [he] at hn;cases hn)];rfl;rw [show (asgS V (l++ex)).s p.1=sOf (valS V p.2) by simp only [asgS,this,h2],hv _ hn (fun i ix j he=>by rw [he] at hn;cases hn)];rfl
def idF:Nat->Nat->Bm
 |0,_=>[]
 |n+1,i=>(i,0)::idF n (i+1)
def TT.skel (n:Nat):Nat->Nat->Nat->TT
 |0,_,_=> .e
 |k+1,o,s=>match Nat.blt o n with
  |true=> .n (TT.skel n k (o+s) (2*s)) none (TT.skel n k (o+2*s) (2*s))
  |false=> .e
theorem TT.get_skel (n:Nat): ∀(k o s i:Nat),(TT.skel n k o s).get i=none
 |0,_,_,_=>rfl
 |k+1,o,s,i=>by
  simp only [TT.skel];split
  ·cases i with
   |zero=>rfl
   |succ i=>
    simp only [TT.get];split<;>exact TT.get_skel n k _ _ _
  rfl
def Qr6 (t:TT):List (Nat×AVal)->TT
 |[]=>t
 |p::l=>Qr6 (t.put p.1 p.2) l
theorem Qw4 {i:Nat} {v:AVal}: ∀(l:List (Nat×AVal)) (t:TT),(Qr6 t l).get i=some v->(i,v)∈l\/t.get i=some v
 |[],_,h=> .inr h
 |p::l,t,h=>by
  rcases Qw4 l _ h with h|h;exact .inl (List.mem_cons_of_mem _ h);rcases TT.get_put t p.1 i p.2 v h with ⟨rfl,rfl⟩|⟨_,h⟩;exact .inl (by simp);exact .inr h
def tmOf (s:Shape) (n:Nat):Tm:=⟨n,Qr6 (TT.skel n 12 0 1) s.t,[]⟩
theorem Qya {s:Shape} {n i:Nat} {v:AVal} (h:(tmOf s n).get i=some v):(i,v)∈s.t:=by
 rcases Qw4 _ _ (Tm.get_tr h) with h|h;exact h;rw [TT.get_skel] at h;cases h
def Qf4 (m:Nat):Asg->Bool
 |[]=>true
 |p::l=>(match p.2 with
  |.symi _ j=>Nat.beq p.1 j&&Nat.blt j m
  |.symb j=>Nat.beq p.1 j&&Nat.blt j m
  |.syms j=>Nat.beq p.1 j&&Nat.blt j m
  |_=>false)&&Qf4 m l
def idOk (s:Shape) (m:Nat):Bool:=
 match Qd1 (idF s.heap.length 0) (s.t.map (·.2)) (s.t.map (·.2)),Qfg (idF s.heap.length 0) s.heap s.heap 0 with
 |some x,some y=>Qf4 m x&&Qf4 m y&&Qek (idF s.heap.length 0)
 |_,_=>false
theorem Qmc: ∀(n i:Nat),(idF n i).length=n
 |0,_=>rfl
 |n+1,i=>by simp [idF,Qmc n]
theorem Qmb: ∀{n i b:Nat},b<n->(idF n i)[b]? =some (i+b,0)
 |0,_,_,h=>by omega
 |n+1,i,0,h=>by simp [idF]
 |n+1,i,b+1,h=>by
  have:=Qmb (n:=n) (i:=i+1) (b:=b) (by omega);rw [show i+(b+1)=i+1+b by omega];simpa [idF] using this
theorem Qma {m:Nat} {V U:Sig} (h:Agree m V U): ∀{l:Asg},Qf4 m l=true->Fits V U l
 |[],_=>fun p hp=>by cases hp
 |q::l,hl=>by
  simp only [Qf4,Bool.and_eq_true] at hl;intro p hp;rcases List.mem_cons.1 hp with rfl|hp
  ·have h1:=hl.1
   split at h1
   all_goals first
    |cases h1
    |skip
   all_goals
    rename_i hx;simp only [Bool.and_eq_true] at h1;have e:=Nat.eq_of_beq_eq_true h1.1;have lt:p.1<m:=by rw [e];simpa using h1.2
    have hv:=h.val _ lt;rw [hx,<-e];refine ⟨fun k n hn=> ?_,fun b hn=> ?_,fun s hn=> ?_⟩<;>simp only [den,AVal.int.injEq,AVal.bool.injEq,AVal.str.injEq,reduceCtorEq] at hn
    first
     |exact hv.1.symm.trans hn.2
     |exact hv.2.1.symm.trans hn
     |exact hv.2.2.symm.trans hn
  exact Qma h hl.2 p hp
theorem Qwh {f:Bm}: ∀(c d:List AVal) (l:Asg),Qd1 f c d=some l->c=d-> ∀a,a∈c-> ∃m,Qz f a a=some m/\ ∀p,p∈m->p∈l
 |[],_,_,_,_,a,ha=>by cases ha
 |x::c,d,l,h,he,a,ha=>by
  subst he;simp only [Qd1] at h;split at h;rename_i y z hy hz;cases h;rcases List.mem_cons.1 ha with rfl|ha
  exact ⟨y,hy,fun p hp=>by simp [hp]⟩;obtain ⟨m,h1,h2⟩:=Qwh c c z hz rfl a ha;exact ⟨m,h1,fun p hp=>by simp [h2 p hp]⟩;cases h
inductive Sv where
 |leaf (x:SEx) (s:Shape) (f:Bm) (l ex:Asg)
 |leafE (x:SEx) (s:Shape) (f:Bm) (l ex:Asg)
 |req (o:Ob) (v:Sv)
 |dead
 |node (i:Nat) (yes no:Sv)
 |pick (i:Nat) (n:Int) (yes no:Sv)
def noDf:List ADef->Bool
 |[]=>true
 |_=>false
def okS:Tree (Ex×Tm×Hp)->Sv->Bool
 |.leaf y,.leaf x s f l ex=>Qog x y.1 (l++ex)&&(noDf y.2.1.df&&(Qny f s y.2.1 y.2.2.heap l&&Qgy l l))
 |.leaf y,.leafE x s f l ex=>Qog x y.1 (l++ex)&&(noDf y.2.1.df&&(Qny f s y.2.1 y.2.2.heap l&&Qlp l l))
 |_,.dead=>true
 |.node i y n,.node j y' n'=>Nat.beq i j&&(okS y y'&&okS n n')
 |.pick i k y n,.pick j k' y' n'=>Nat.beq i j&&(decide (k=k')&&(okS y y'&&okS n n'))
 |.req o t,.req o' v=>eqOb o o'&&okS t v
 |.or y n,v=>okS y v&&okS n v
 |_,_=>false
def segs (V:Sig) (Q:SEx->Shape->Sig->Prop):Sv->List Fact->Prop
 |.leaf x s _ l ex,F=>Qo V F->Q x s (asgS V (l++ex))
 |.leafE x s _ l ex,F=>Qo V F->EqsL V l l/\Q x s (asgS V (l++ex))
 |.req o v,F=>(Qo V F->o.Sat V)/\segs V Q v F
 |.dead,F=> ¬Qo V F
 |.node i y n,F=>segs V Q y (.tru i true::F)/\segs V Q n (.tru i false::F)
 |.pick i k y n,F=>segs V Q y (.isn i k::F)/\segs V Q n (.non i k::F)
theorem Qgs {a b:Bool} (h:(a&&b)=true):a=true/\b=true:=by rwa [Bool.and_eq_true] at h
def Qqm (o:Option (Nat×Nat)) (i:Nat):Bool:=
 match o with
 |some (x,sh)=>Nat.beq x i&&Nat.beq sh 0
 |none=>false
theorem Q11 {o:Option (Nat×Nat)} {i:Nat} (h:Qqm o i=true):o=some (i,0):=by
 unfold Qqm at h;split at h;rename_i x sh;rw [Bool.and_eq_true] at h;rw [Nat.eq_of_beq_eq_true h.1,Nat.eq_of_beq_eq_true h.2];cases h
def Qhb (R:Bm->Prop):Sv->Prop
 |.leaf _ _ f _ _=>R f
 |.leafE _ _ f _ _=>R f
 |.req _ v=>Qhb R v
 |.dead=>True
 |.node _ y n=>Qhb R y/\Qhb R n
 |.pick _ _ y n=>Qhb R y/\Qhb R n
def pinS (i:Nat):Sv->Bool
 |.leaf _ _ f _ _=>Qqm f[i]? i
 |.leafE _ _ f _ _=>Qqm f[i]? i
 |.req _ v=>pinS i v
 |.dead=>true
 |.node _ y n=>pinS i y&&pinS i n
 |.pick _ _ y n=>pinS i y&&pinS i n
theorem Qjv {pin:Nat->Prop}: ∀{Vv:Sv},(∀i,pin i->pinS i Vv=true)->Qhb (fun f=> ∀i,pin i->f[i]? =some (i,0)) Vv
 |.leaf _ _ f _ _,h=>fun i hi=>Q11 (h i hi)
 |.leafE _ _ f _ _,h=>fun i hi=>Q11 (h i hi)
 |.req _ v,h=>Qjv (Vv:=v) fun i hi=>h i hi
 |.dead,_=>trivial
 |.node _ y n,h=>⟨Qjv fun i hi=>(Qgs (h i hi)).1,Qjv fun i hi=>(Qgs (h i hi)).2⟩
 |.pick _ _ y n,h=>⟨Qjv fun i hi=>(Qgs (h i hi)).1,Qjv fun i hi=>(Qgs (h i hi)).2⟩
def EndS (V:Sig) (R:Bm->Prop) (Q:SEx->Shape->Sig->Prop) (y:Ex×Tm×Hp):Prop:=
 ∃x s f l ex,Qog x y.1 (l++ex)=true/\y.2.1.df=[]/\Qny f s y.2.1 y.2.2.heap l=true/\Fits V (asgS V (l++ex)) l/\Q x s (asgS V (l++ex))/\R f
theorem Qc5 {V:Sig} {R:Bm->Prop} {Q:SEx->Shape->Sig->Prop}: ∀{T:Tree (Ex×Tm×Hp)} {Vv:Sv} {F:List Fact},okS T Vv=true->Qhb R Vv/\segs V Q Vv F->Qo V F->Sat V (EndS V R Q) T
 |T,.dead,F,_,hv,hF=>absurd hF hv.2
 |.leaf y,.leaf x s f l ex,F,h,hv,hF=>by
  simp only [okS,Bool.and_eq_true] at h;refine ⟨x,s,f,l,ex,h.1,?_,h.2.2.1,Q04 ex h.2.2.2,hv.2 hF,hv.1⟩;have:=h.2.1;unfold noDf at this;split at this;assumption;cases this
 |.leaf y,.leafE x s f l ex,F,h,hv,hF=>by
  simp only [okS,Bool.and_eq_true] at h;obtain ⟨hv1,hv2⟩:=hv.2 hF;refine ⟨x,s,f,l,ex,h.1,?_,h.2.2.1,Qbcy ex h.2.2.2 hv1,hv2,hv.1⟩;have:=h.2.1;unfold noDf at this;split at this;assumption;cases this
 |.node i y n,.node j y' n',F,h,hv,hF=>by
  simp only [okS,Bool.and_eq_true] at h;have:=Nat.eq_of_beq_eq_true h.1;subst this;exact ⟨fun e=>Qc5 h.2.1 ⟨hv.1.1,hv.2.1⟩ (Qbm (.tru _ _) e hF),fun e=>Qc5 h.2.2 ⟨hv.1.2,hv.2.2⟩ (Qbm (.tru _ _) e hF)⟩
 |.pick i k y n,.pick j k' y' n',F,h,hv,hF=>by
  simp only [okS,Bool.and_eq_true,decide_eq_true_eq] at h;have:=Nat.eq_of_beq_eq_true h.1;subst this;obtain ⟨rfl,h1,h2⟩:=h.2;exact ⟨fun e=>Qc5 h1 ⟨hv.1.1,hv.2.1⟩ (Qbm (.isn _ _) e hF),fun e=>Qc5 h2 ⟨hv.1.2,hv.2.2⟩ (Qbm (.non _ _) e hF)⟩
 |.req o t,.req o' v,F,h,hv,hF=>by
  simp only [okS,Bool.and_eq_true] at h;have:=Qji _ _ h.1;subst this;exact ⟨hv.2.1 hF,Qc5 h.2 ⟨hv.1,hv.2.2⟩ hF⟩
 |.or y n,.leaf _ _ _ _ _,F,h,hv,hF=>by
  simp only [okS,Bool.and_eq_true] at h;exact ⟨Qc5 h.1 hv hF,Qc5 h.2 hv hF⟩
 |.or y n,.leafE _ _ _ _ _,F,h,hv,hF=>by
  simp only [okS,Bool.and_eq_true] at h;exact ⟨Qc5 h.1 hv hF,Qc5 h.2 hv hF⟩
 |.or y n,.node i a b,F,h,hv,hF=>by
  simp only [okS,Bool.and_eq_true] at h;exact ⟨Qc5 h.1 hv hF,Qc5 h.2 hv hF⟩
 |.or y n,.pick i k a b,F,h,hv,hF=>by
  simp only [okS,Bool.and_eq_true] at h;exact ⟨Qc5 h.1 hv hF,Qc5 h.2 hv hF⟩
 |.or y n,.req o v,F,h,hv,hF=>by
  simp only [okS,Bool.and_eq_true] at h;exact ⟨Qc5 h.1 hv hF,Qc5 h.2 hv hF⟩
 |.leaf _,.node _ _ _,_,h,_,_=>by simp [okS] at h
 |.leaf _,.pick _ _ _ _,_,h,_,_=>by simp [okS] at h
 |.leaf _,.req _ _,_,h,_,_=>by simp [okS] at h
 |.node _ _ _,.leaf _ _ _ _ _,_,h,_,_=>by simp [okS] at h
 |.node _ _ _,.leafE _ _ _ _ _,_,h,_,_=>by simp [okS] at h
 |.node _ _ _,.pick _ _ _ _,_,h,_,_=>by simp [okS] at h
 |.node _ _ _,.req _ _,_,h,_,_=>by simp [okS] at h
 |.pick _ _ _ _,.leaf _ _ _ _ _,_,h,_,_=>by simp [okS] at h
 |.pick _ _ _ _,.leafE _ _ _ _ _,_,h,_,_=>by simp [okS] at h
 |.pick _ _ _ _,.node _ _ _,_,h,_,_=>by simp [okS] at h
 |.pick _ _ _ _,.req _ _,_,h,_,_=>by simp [okS] at h
 |.req _ _,.leaf _ _ _ _ _,_,h,_,_=>by simp [okS] at h
 |.req _ _,.leafE _ _ _ _ _,_,h,_,_=>by simp [okS] at h
 |.req _ _,.node _ _ _,_,h,_,_=>by simp [okS] at h
 |.req _ _,.pick _ _ _ _,_,h,_,_=>by simp [okS] at h
 |.dead,.leaf _ _ _ _ _,_,h,_,_=>by simp [okS] at h
 |.dead,.leafE _ _ _ _ _,_,h,_,_=>by simp [okS] at h
 |.dead,.node _ _ _,_,h,_,_=>by simp [okS] at h
 |.dead,.pick _ _ _ _,_,h,_,_=>by simp [okS] at h
 |.dead,.req _ _,_,h,_,_=>by simp [okS] at h
inductive Sw where
 |run (v:Sv)
 |dead
 |node (i:Nat) (yes no:Sw)
 |pick (i:Nat) (n:Int) (yes no:Sw)
def okSw (run:List Fact->Tree (Ex×Tm×Hp)):Sw->List Fact->Bool
 |.run v,F=>okS (run F) v
 |.dead,_=>true
 |.node i y n,F=>okSw run y (.tru i true::F)&&okSw run n (.tru i false::F)
 |.pick i k y n,F=>okSw run y (.isn i k::F)&&okSw run n (.non i k::F)
def Qdp (V:Sig) (Q:SEx->Shape->Sig->Prop):Sw->List Fact->Prop
 |.run v,F=>segs V Q v F
 |.dead,F=> ¬Qo V F
 |.node i y n,F=>Qdp V Q y (.tru i true::F)/\Qdp V Q n (.tru i false::F)
 |.pick i k y n,F=>Qdp V Q y (.isn i k::F)/\Qdp V Q n (.non i k::F)
def Qjw (R:Bm->Prop):Sw->Prop
 |.run v=>Qhb R v
 |.dead=>True
 |.node _ y n=>Qjw R y/\Qjw R n
 |.pick _ _ y n=>Qjw R y/\Qjw R n
def pinW (i:Nat):Sw->Bool
 |.run v=>pinS i v
 |.dead=>true
 |.node _ y n=>pinW i y&&pinW i n
 |.pick _ _ y n=>pinW i y&&pinW i n
theorem Qml {pin:Nat->Prop}: ∀{Vv:Sw},(∀i,pin i->pinW i Vv=true)->Qjw (fun f=> ∀i,pin i->f[i]? =some (i,0)) Vv
 |.run v,h=>Qjv (Vv:=v) fun i hi=>h i hi
 |.dead,_=>trivial
 |.node _ y n,h=>⟨Qml fun i hi=>(Qgs (h i hi)).1,Qml fun i hi=>(Qgs (h i hi)).2⟩
 |.pick _ _ y n,h=>⟨Qml fun i hi=>(Qgs (h i hi)).1,Qml fun i hi=>(Qgs (h i hi)).2⟩
theorem Qn4 {V:Sig} {R:Bm->Prop} {Q:SEx->Shape->Sig->Prop} {run:List Fact->Tree (Ex×Tm×Hp)}: ∀{W:Sw} {F:List Fact},okSw run W F=true->Qjw R W/\Qdp V Q W F->Qo V F-> ∃F',Qo V F'/\Sat V (EndS V R Q) (run F')
 |.run v,F,h,hv,hF=>⟨F,hF,Qc5 h hv hF⟩
 |.dead,_,_,hv,hF=>absurd hF hv.2
 |.node i y n,F,h,hv,hF=>by
  simp only [okSw,Bool.and_eq_true] at h;cases hb:V.b i with
  |true=>exact Qn4 h.1 ⟨hv.1.1,hv.2.1⟩ (Qbm (.tru i true) hb hF)
  |false=>exact Qn4 h.2 ⟨hv.1.2,hv.2.2⟩ (Qbm (.tru i false) hb hF)
 |.pick i k y n,F,h,hv,hF=>by
  simp only [okSw,Bool.and_eq_true] at h;rcases Classical.em (V.i i=k) with hb|hb
  exact Qn4 h.1 ⟨hv.1.1,hv.2.1⟩ (Qbm (.isn i k) hb hF);exact Qn4 h.2 ⟨hv.1.2,hv.2.2⟩ (Qbm (.non i k) hb hF)
def Qc2 (P:Program):List Code->(Act->World->Prop)->(Exit->Act->World->Prop)->Act->World->Prop
 |[],K,_=>K
 |x::l,K,Q=>fun a w=>x.wpIn (FR none) 0 P (Exit.then (Qc2 P l K Q) Q) a w
theorem Qsw {Q:Exit->Act->World->Prop}:Exit.then (Q .normal) Q=Q:=by
 funext e a w;cases e<;>rfl
theorem Qpc {P:Program} {Q:Exit->Act->World->Prop}: ∀(l m:List Code) (K:Act->World->Prop),Qc2 P (l++m) K Q=Qc2 P l (Qc2 P m K Q) Q
 |[],_,_=>rfl
 |x::l,m,K=>by
  funext a w;simp only [List.cons_append,Qc2,Qpc l m K]
def cutC:Code->Option (List Code×(Nat×Code)×List Code)
 |.seq x y=>match cutC x with
  |some (pre,lp,post)=>some (pre,lp,post++[y])
  |none=>match cutC y with
   |some (pre,lp,post)=>some (x::pre,lp,post)
   |none=>none
 |.block id c=>match c with
  |.loop b=>some ([],(id,b),[])
  |_=>none
 |_=>none
def Qbn (c:Code):Code:=
 match cutC c with
 |some (_,(_,b),_)=>b
 |none=> .skip
def idOf (c:Code):Nat:=
 match cutC c with
 |some (_,(i,_),_)=>i
 |none=>0
def Qc (f:Func):Code:=
 match f.body with
 |some c=>c
 |none=> .skip
def runL (P:Program) (C:CxF) (mb:Bool) (fuel:Nat) (call:Qbb) (round:Qbo):List Code->List Fact->Tm->Hp->Tree (Ex×Tm×Hp)
 |[],_,t,hp=> .leaf (.normal,t,hp)
 |c::l,F,t,hp=>Qbj F (Qbq P C mb fuel call round false c F t hp) fun F' x=>match x with
  |(.normal,t',hp')=>runL P C mb fuel call round l F' t' hp'
  |x=> .leaf x
theorem Q8i {P:Program} {C:CxF} {mb:Bool} {fuel:Nat} {call:Qbb} {round:Qbo} (E:Env P C call round): ∀(l:List Code) (F:List Fact) (t:Tm) (hp:Hp) (Q:Ex×Tm×Hp->Prop) (g:Inj) (w:World) (a:Act),
  HRel (C F) g hp.heap w->FRel g t a->Sat g.sig Q (runL P C mb fuel call round l F t hp)-> ∀(K:Act->World->Prop) (Z:Exit->Act->World->Prop),(∀e a' w' x,Q x->Qw (C F) hp g w a x e a' w'->Exit.then K Z e a' w')->Qc2 P l K Z a w
 |[],F,t,hp,Q,g,w,a,hH,ht,hs,K,Z,hq=>hq .normal a w _ hs ⟨Touch.refl _,g,trivial,hH,Ext.refl _ _ _,ht,rfl⟩
 |c::l,F,t,hp,Q,g,w,a,hH,ht,hs,K,Z,hq=>by
  simp only [runL] at hs;have hs:=Qck (E.ok.facts hH) hs;simp only [Qc2];refine wpIn_mono ((Qec (mb:=mb) (fuel:=fuel) E c false).wp F t hp _ none g w a (fun _=>rfl) hH ht hs) ?_;rintro e a' w' ⟨⟨x,t',hp'⟩,⟨F',hF',q⟩,h0,g',h1,h2,h3,h4,h5⟩;have hF0:Qo g'.sig F:=by rw [h3.sub.sig];exact E.ok.facts hH
  have other:e≠.normal->Sat g.sig Q (.leaf (x,t',hp'))->Exit.then (Qc2 P l K Z) Z e a' w':=by
   intro hne q;have:=hq e a' w' _ q ⟨h0,g',h1,h2,h3,h4,h5⟩;cases e with
   |normal=>exact absurd rfl hne
   |_=>exact this
  cases x with
  |normal=>
   cases e<;>simp only [Qbp] at h1;refine Q8i E l F' t' hp' Q g' w' a' (E.ok.move h2 (by rw [h3.sub.sig];exact hF')) h4 (by rw [h3.sub.sig];exact q) K Z ?_;intro e2 a2 w2 x2 hx2 hc;refine hq e2 a2 w2 x2 hx2 ?_;exact Qw.trans hH h0 h3 h5 (hc.move E.ok hF0)
  |exit i=>exact other (by intro he;subst he;exact h1.elim) q
  |ret=>exact other (by intro he;subst he;exact h1.elim) q
  |pan v=>exact other (by intro he;subst he;exact h1.elim) q
theorem segL {P:Program} {X:Ing} {mb:Bool} {fuel d n:Nat} {c:List Code} {s:Shape} {W:Sw} {Q0:SEx->Shape->Sig->Prop} (hm:P.follows .mixedOrders=true) (hT:okLT X.m X.G X.T=true) (hG:okG X.G X.m=true) (hh: ∀F,Hooks P (cxOf X F)) (h0n:X.n=0) (hid:idOk s X.m=true)
  (h:okSw (fun F=>runL P (cxOf X) mb fuel (evD P (cxOf X) mb fuel d).1 (evD P (cxOf X) mb fuel d).2 c F (tmOf s n) ⟨s.heap,[]⟩) W []=true)
  {V:Sig} {w0:Fra} {a:Act} {w:World} (hA:At X.tab s n V w0 a w) (hi:Qx V X.m X.ins) (hob:Qdp (solve X.G X.m V) Q0 W []) {K:Act->World->Prop} {Z:Exit->Act->World->Prop}
  (hk: ∀e a' w' x s2 V2,Qb6 V2 x e->Q0 x s2 V2->At X.tab s2 n V2 w0 a' w'->Exit.then K Z e a' w') (hr:Qd8 (solve X.G X.m V) X.rows) (hcut:Qs1 (solve X.G X.m V) X.cuts) (hinv:X.inv (solve X.G X.m V):=by exact True.intro) (hkt:okKt X=true:=by exact rfl) (hpin: ∀i,w0.pin i≠none->pinW i W=true:=by exact fun _ h=>absurd rfl h):Qc2 P c K Z a w:=by
 obtain ⟨g,rfl,hH,hTm,hB,hP⟩:=hA.ex;have ag:=Qep X.G X.m g.sig;have htab:(solve X.G X.m g.sig).tab=X.tab:=by rw [<-ag.tab];exact hH.sig.tab
 have hb:BaseOk X (solve X.G X.m g.sig):=⟨Qfy hG,htab,fun i k hlt hik=>by rw [<-(ag.val i hlt).1];exact hi i k hlt hik,hr,hcut,hinv,hkt⟩;obtain ⟨F,hF,hsat⟩:=Qn4 h ⟨Qml hpin,hob⟩ trivial;have hgood:(cxOf X F).Good (solve X.G X.m g.sig):=Qpg hT hb hF;have hid':=hid;unfold idOk at hid';split at hid';rename_i lx ly hlx hly;simp only [Bool.and_eq_true] at hid';obtain ⟨⟨i1,i2⟩,i3⟩:=hid';have hH1:HRel (cxOf X F) (Qbd (idF s.heap.length 0) g (solve X.G X.m g.sig)) s.heap w:=Qkp hH h0n hgood (Qmc _ _) i3 hly (Qma ag i2) ag.ext.symm;have hT1:FRel (Qbd (idF s.heap.length 0) g (solve X.G X.m g.sig)) (tmOf s n) a:=by
  refine ⟨⟨by simp only [tmOf,hA.size];exact Nat.le_refl _,?_⟩,by rw [hA.defers];exact .nil⟩;intro i v hv;have hmem:=Qya hv;obtain ⟨u,h1,h2⟩:=hTm _ hmem;obtain ⟨mm,q1,q2⟩:=Qwh _ _ lx hlx rfl v (List.mem_map.2 ⟨_,hmem,rfl⟩);exact ⟨u,h1,Qca (Qdh _ g _ ag.ext.symm) v v mm u q1 (fun p hp=>Qma ag i1 p (q2 p hp)) h2⟩
 have hB1: ∀i L,Qbd (idF s.heap.length 0) g (solve X.G X.m g.sig) i=some L->w0.own L.blk:=by
  intro i L hi;obtain ⟨y,sh,L',_,h2,rfl⟩:=Qhi hi;exact hB y L' h2
 refine Q8i (Qpx (mb:=mb) (fuel:=fuel) hm (cx_ok hT) hh d) c F (tmOf s n) ⟨s.heap,[]⟩ _ _ w a hH1 hT1 hsat K Z ?_;rintro e a' w' ⟨e0,t,st⟩ ⟨x,s2,f,l,ex,hx,hdf,hmt,hft,hQ,hR⟩ ⟨_,g',r1,r2,r3,r4,r5⟩;obtain ⟨y1,y2,m1,m2,rfl,m4,m5⟩:=Qbjo hmt;have hsig:g'.sig=solve X.G X.m g.sig:=r3.sub.sig;have hfit:Fits g'.sig (asgS (solve X.G X.m g.sig) (y1++y2++ex)) (y1++y2):=by rw [hsig];exact hft
 have hsz:w0.w.heap.size<=w.heap.size:=hA.below.size;have hB': ∀i L,g' i=some L->w0.own L.blk:=by
  intro i L hi;cases hg:Qbd (idF s.heap.length 0) g (solve X.G X.m g.sig) i with
  |some M=>
   have:=r3.sub i M hg;rw [this] at hi;cases hi;exact hB1 i _ hg
  |none=>
   obtain ⟨_,hb⟩:=r3.new i L hi hg;rcases hb with hb|⟨j,M,hj,hM,_⟩;exact w0.new _ (by omega);rw [<-hM];exact hB1 j M hj
 refine hk e a' w' x s2 _ (by have hs:=Qbm9 hx r1;rw [show g'.sig=solve X.G X.m g.sig from r3.sub.sig] at hs;exact hs) hQ ⟨⟨Qbd f g' (asgS (solve X.G X.m g.sig) (y1++y2++ex)),rfl,Qkp r2 rfl (Qe5 htab) m4 m5 m2 hfit.right (by rw [hsig];rfl),?_,?_,?_⟩,?_,r5.trans hA.size,?_⟩;intro p hp;obtain ⟨b,mm,q1,q2,q3⟩:=Q6g _ _ m1 p hp;obtain ⟨u,h1,h2⟩:=r4.1.2 p.1 b q1;exact ⟨u,h1,Qca (Qdh f g' _ (by rw [hsig];rfl)) p.2 b mm u q2 (fun z hz=>hfit z (by simp [q3 z hz])) h2⟩;intro i L hi;obtain ⟨y,sh,L',_,h2,rfl⟩:=Qhi hi;exact hB' y L' h2;intro i x hi;have hf:=hR i (by rw [hi];simp);obtain ⟨hlt,h0⟩:=hP i x hi;refine ⟨by rw [<-m4];exact (List.getElem?_eq_some_iff.1 hf).1,?_⟩;have hid0:(idF s.heap.length 0)[i]? =some (i,0):=by simpa using Qmb (i:=0) hlt
 have e1:Qbd (idF s.heap.length 0) g (solve X.G X.m g.sig) i=x:=by
  simp only [Qbd,hid0,h0];cases x<;>simp [shift]
 have e2:g' i=x:=by
  cases hx:g' i with
  |some L=>
   cases hg:Qbd (idF s.heap.length 0) g (solve X.G X.m g.sig) i with
   |some M=>rw [r3.sub i M hg] at hx;rw [<-e1,hg,hx]
   |none=>exact absurd (r3.new i L hx hg).1 (by show¬s.heap.length<=i;omega)
  |none=>
   cases x with
   |none=>rfl
   |some L=>rw [r3.sub i L e1] at hx;cases hx
 simp only [Qbd,hf,e2];cases x<;>simp [shift];have hb:=hA.below;refine ⟨r3.os.trans hb.os,r3.tape.trans hb.tape,r3.output.trans hb.output,Nat.le_trans hb.size r3.size,fun k hk hno=>(r3.frame k (by omega) ?_).trans (hb.frame k hk hno)⟩;intro i L hi _ he;exact hno (he▸hB1 i L hi);have:=r4.2;rw [show t.df=[] from hdf] at this;generalize a'.defers=ds at this;cases this;rfl;cases hid'
theorem Qv5 {P:Program} {c:Code} {Inv:Nat->Act->World->Prop} {Q:Exit->Act->World->Prop}
  (hstep: ∀k a w,Inv k a w->c.wpIn (FR none) 0 P (fun e a' w'=>(e=.normal/\ ∃k',k'<k/\Inv k' a' w')\/(e≠.normal/\Q e a' w')) a w) (k:Nat) (a:Act) (w:World) (h:Inv k a w):(Code.loop c).wpIn (FR none) 0 P Q a w:=by
 have key: ∀(n k:Nat) (a:Act) (w:World),k<n->Inv k a w->Code.roundsIn (FR none) 0 P c Q n a w:=by
  intro n;induction n with
  |zero=>intro k a w hk _;omega
  |succ n ih=>
   intro k a w hk hI;rw [roundsIn_succ];refine wpIn_mono (hstep k a w hI) fun e a' w' he=> ?_;rcases he with ⟨rfl,k',hk',hI'⟩|⟨hne,hq⟩
   exact ih k' a' w' (by omega) hI';cases e with
   |normal=>exact absurd rfl hne
   |_=>exact hq
 exact wpIn_loop_rounds (k+1) (key (k+1) k a w (Nat.lt_succ_self k) h)
theorem Qzb {P:Program} {f:FuncId} {fn:Func} {args:Array Value} {w:World} {R:Ending->World->Prop} (hf:P.funcs[f]? =some fn) (hb:fn.body=some (Qc fn))
  (h:(Qc fn).wpIn (FR none) 0 P (bodyPost P fn R) {tmps:=args++Array.replicate (fn.ntmps-args.size) undef,defers:=[]} w):Calls P f args w R:=
 Qza (r:=none) (n:=0) (callsIn_of_wp hf hb trivial h)
def argT:Nat->List AVal->List (Nat×AVal)
 |_,[]=>[]
 |i,a::l=>(i,a)::argT (i+1) l
theorem Qyu: ∀(l:List AVal) (i:Nat) (p:Nat×AVal),p∈argT i l-> ∃j,p.1=i+j/\l[j]? =some p.2
 |[],_,p,h=>by cases h
 |a::l,i,p,h=>by
  simp only [argT,List.mem_cons] at h;rcases h with rfl|h
  exact ⟨0,rfl,rfl⟩;obtain ⟨j,h1,h2⟩:=Qyu l (i+1) p h;exact ⟨j+1,by omega,by simpa using h2⟩
end Go.Ev
namespace Go.Ev
theorem eqB {V:Sig} {d:SDef} {i:Nat} {x:Bool} (h:Qb V d=some (.bool (V.b i))) (h':Qb V d=some (.bool x)):V.b i=x:=by
 rw [h] at h';simpa using h'
theorem eqI {V:Sig} {d:SDef} {k:IntKind} {i:Nat} {x:Int} (h:Qb V d=some (.int k (V.i i))) (h':Qb V d=some (.int k x)):V.i i=x:=by
 rw [h] at h';simpa using h'
theorem Qbcg {V:Sig} {c a b:AVal} {k:IntKind} {i:Nat} {x:Bool} {p q:Int} (h:Qb V (.ite c a b)=some (.int k (V.i i))) (hc:den V c=.bool x) (ha:den V a=.int k p) (hb:den V b=.int k q):V.i i=bif x then p else q:=by
 simp only [Qb,hc,ha,hb] at h;cases x<;>simpa using h.symm
theorem Qbo8 {V:Sig} {c a b:AVal} {i:Nat} {x p q:Bool} (h:Qb V (.ite c a b)=some (.bool (V.b i))) (hc:den V c=.bool x) (ha:den V a=.bool p) (hb:den V b=.bool q):V.b i=bif x then p else q:=by
 simp only [Qb,hc,ha,hb] at h;cases x<;>simpa using h.symm
end Go.Ev
namespace Go.Ev
def Qf1 (g:TypeId->Option (List Cl)) (sz:TypeId->Nat):List Field->Nat->Option (List Cl)
 |[],_=>some []
 |f::fs,off=>match Nat.beq f.offset off with
  |true=>match g f.type with
   |some cl=>match Nat.beq (sz f.type) cl.length with
    |true=>match Qf1 g sz fs (off+cl.length) with
     |some r=>some (cl++r)
     |none=>none
    |false=>none
   |none=>none
  |false=>none
def repl (cl:List Cl):Nat->List Cl
 |0=>[]
 |n+1=>cl++repl cl n
def flat (P:Program):Nat->TypeId->Option (List Cl)
 |0,_=>none
 |n+1,t=>match P.underlying t with
  |some (.int k)=>some [.i k]
  |some .bool=>some [.b]
  |some (.array m e)=>match flat P n e with
   |some cl=>match Nat.beq (P.cellsOf e) cl.length&&Nat.beq (P.cellsOf t) (repl cl m).length with
    |true=>some (repl cl m)
    |false=>none
   |none=>none
  |some (.struct fs)=>match Qf1 (flat P n) P.cellsOf fs.toList 0 with
   |some cl=>match Nat.beq (P.cellsOf t) cl.length with
    |true=>some cl
    |false=>none
   |none=>none
  |_=>none
def isAgg (P:Program) (t:TypeId):Bool:=
 match P.underlying t with
 |some (.array _ _)=>true
 |some (.struct _)=>true
 |_=>false
theorem Qt1: ∀{a b:List Cl} {l m:List Int},InR a l->Qq (a++b) (l++m)=Qq a l++Qq b m
 |[],b,l,m,h=>by cases (show l=[] from h);simp [Qq]
 |c::a,b,[],m,h=>by cases h
 |c::a,b,n::l,m,h=>by simp [Qq,Qt1 (b:=b) (m:=m) h.2]
theorem Qun: ∀{a b:List Cl} {l m:List Int},InR a l->InR b m->InR (a++b) (l++m)
 |[],b,l,m,h,h'=>by cases (show l=[] from h);simpa using h'
 |c::a,b,[],m,h,_=>by cases h
 |c::a,b,n::l,m,h,h'=>⟨h.1,Qun h.2 h'⟩
theorem Qz9: ∀{a:List Cl} {l:List Int},(Qq a l).length=a.length
 |[],_=>rfl
 |c::a,l=>by simp [Qq,Qz9]
theorem Q74 (cl:List Cl): ∀n,(repl cl n).length=n*cl.length
 |0=>by simp [repl]
 |n+1=>by simp [repl,Q74 cl n,Nat.succ_mul,Nat.add_comm]
theorem Q94 {k:IntKind} {n:Int} (h:(Lit.int k n).wf=true):k.wrap n=n:=by
 cases k<;>simp [Lit.wf,IntKind.wrap,IntKind.min,IntKind.max,IntKind.signed,IntKind.bits] at h⊢ <;>(try split)<;>omega
theorem Qba0 (b:Bool): ∃l,InR [Cl.b] l/\[Value.bool b]=Qq [Cl.b] l:=by
 cases b;exact ⟨[0],⟨.inl rfl,rfl⟩,rfl⟩;exact ⟨[1],⟨.inr rfl,rfl⟩,rfl⟩
section
variable {H : Type} {enc : TypeId × Value -> H} {P : Program} {w : World} {base : Nat} {sp : Nat -> Bool} {held : Bool}
theorem Q08 {g:TypeId->Option (List Cl)} {cs:List Value} {T:TypeId->List Value->Prop} (hg: ∀t cl us,g t=some cl->T t us-> ∃l,InR cl l/\us=Qq cl l):
  ∀{fs:List Field} {off:Nat} {cl:List Cl},Qf1 g P.cellsOf fs off=some cl->(∀f,f∈fs->T f.type ((cs.drop f.offset).take (P.cellsOf f.type)))->cs.length=off+cl.length->
   ∃l,InR cl l/\cs.drop off=Qq cl l
 |[],off,cl,h,_,hl=>by
  simp only [Qf1,Option.some.injEq] at h;subst h;refine ⟨[],rfl,?_⟩;simp only [Qq,List.drop_eq_nil_iff];simp at hl;omega
 |f::fs,off,cl,h,ht,hl=>by
  simp only [Qf1] at h;split at h;rename_i ho;have ho:=Nat.eq_of_beq_eq_true ho;split at h;rename_i c1 h1;split at h;rename_i hs;have hs:=Nat.eq_of_beq_eq_true hs;split at h;rename_i c2 h2;cases h;simp only [List.length_append] at hl;obtain ⟨l1,i1,e1⟩:=hg _ _ _ h1 (ht f (by simp));obtain ⟨l2,i2,e2⟩:=Q08 hg h2 (fun f' hf=>ht f' (by simp [hf])) (by omega);refine ⟨l1++l2,Qun i1 i2,?_⟩;rw [Qt1 i1,<-e1,<-e2,ho,hs];rw [<-List.drop_drop,List.take_append_drop];cases h;cases h;cases h;cases h
theorem Qyv {cs:List Value} {cl:List Cl} {s m:Nat} (hs:s=cl.length) (hl:cs.length=m*s) (hg: ∀i,i<m-> ∃l,InR cl l/\(cs.drop (i*s)).take s=Qq cl l):
  ∀{j i:Nat},i+j=m-> ∃l,InR (repl cl j) l/\cs.drop (i*s)=Qq (repl cl j) l
 |0,i,h=>by
  refine ⟨[],rfl,?_⟩;have:i=m:=by omega
  subst this;simp [repl,Qq,List.drop_eq_nil_iff,hl]
 |j+1,i,h=>by
  obtain ⟨l1,i1,e1⟩:=hg i (by omega);obtain ⟨l2,i2,e2⟩:=Qyv hs hl hg (j:=j) (i:=i+1) (by omega);refine ⟨l1++l2,Qun i1 i2,?_⟩;simp only [repl];rw [Qt1 i1,<-e1,<-e2,Nat.succ_mul,<-List.drop_drop,List.take_append_drop]
theorem Qin: ∀(n:Nat) {t:TypeId} {cl:List Cl} {fuel:Nat} {cs:List Value} {x:DataW H×List MemPlace},flat P n t=some cl->DataW.trod enc P w base sp held fuel t cs=some x->
  (∃l,InR cl l/\cs=Qq cl l)/\x.2=[]
 |0,_,_,_,_,_,h,_=>by simp [flat] at h
 |n+1,t,cl,fuel,cs,x,h,hx=>by
  simp only [flat] at h;split at h
  ·rename_i k ht
   cases h;cases fuel with
   |zero=>simp [DataW.trod] at hx
   |succ fuel=>
    unfold DataW.trod at hx;rw [ht] at hx;split at hx<;>simp_all;obtain ⟨⟨rfl,hw⟩,rfl⟩:=hx;refine ⟨⟨[_],⟨Q94 hw,rfl⟩,?_⟩,rfl⟩;simp [Qq,encC,Q94 hw]
  ·rename_i ht
   cases h;cases fuel with
   |zero=>simp [DataW.trod] at hx
   |succ fuel=>
    unfold DataW.trod at hx;rw [ht] at hx;split at hx<;>simp_all;subst hx;exact ⟨Qba0 _,rfl⟩
  rename_i m e ht;split at h;rename_i c1 h1;split at h;rename_i hb;cases h;simp only [Bool.and_eq_true] at hb;have hs:=Nat.eq_of_beq_eq_true hb.1;have hz:=Nat.eq_of_beq_eq_true hb.2;obtain ⟨xs,m',rfl,rfl,hl,hxl,hf⟩:=DataW.trod_array ht hx;rw [hz,Q74,<-hs] at hl;refine ⟨?_,?_⟩;have:=Qyv (cs:=cs) (cl:=c1) (m:=m) hs hl (fun i hi=>by
   have h2:=hf i hi;rw [List.getElem?_eq_getElem (by omega)] at h2;exact (Qin n h1 h2).1) (j:=m) (i:=0) (by omega)
  simpa using this;simp only [List.flatMap_eq_nil_iff];intro y hy;obtain ⟨i,hi,rfl⟩:=List.getElem_of_mem hy;have h2:=hf i (by omega);rw [List.getElem?_eq_getElem hi] at h2;exact (Qin n h1 h2).2;cases h;cases h;rename_i fs ht;split at h;rename_i c1 h1;split at h;rename_i hb;cases h;have hz:=Nat.eq_of_beq_eq_true hb;obtain ⟨xs,m',rfl,rfl,hl,hxl,hf⟩:=DataW.trod_struct ht hx;rw [hz] at hl;refine ⟨?_,?_⟩;have:=Q08 (P:=P) (g:=flat P n) (cs:=cs) (T:=fun t us=> ∃y,DataW.trod enc P w base sp held m' t us=some y)
   (fun t cl us h2 ⟨y,hy⟩=>(Qin n h2 hy).1) h1 (fun f hfm=>by
    obtain ⟨i,hi,rfl⟩:=List.getElem_of_mem hfm;have h2:=hf i _ (by rw [<-Array.getElem?_toList];exact List.getElem?_eq_getElem hi);refine ⟨_,h2.trans (List.getElem?_eq_getElem (by rw [hxl];simpa using hi))⟩) (by omega)
  simpa using this;simp only [List.flatMap_eq_nil_iff];intro y hy;obtain ⟨i,hi,rfl⟩:=List.getElem_of_mem hy;have hi':i<fs.size:=by omega
  have h2:=hf i fs[i] (by simp [hi']);rw [List.getElem?_eq_getElem hi] at h2;have hm: ∃c,flat P n fs[i].type=some c:=by
   have: ∀{l:List Field} {off:Nat} {c:List Cl},Qf1 (flat P n) P.cellsOf l off=some c-> ∀f,f∈l-> ∃c,flat P n f.type=some c:=by
    intro l;induction l with
    |nil=>intro _ _ _ f hf;cases hf
    |cons a r ih=>
     intro off c h f hf;simp only [Qf1] at h;split at h;split at h;rename_i c' h';split at h;split at h;rename_i c2 h2;rcases List.mem_cons.1 hf with rfl|hf
     exact ⟨_,h'⟩;exact ih h2 f hf;cases h;cases h;cases h;cases h
   exact this h1 _ (by simp)
  obtain ⟨c,hc⟩:=hm;exact (Qin n hc h2).2;cases h;cases h;cases h
theorem Qwe {α β:Type} {f g:α->Option β}: ∀{l:List α},(∀a,a∈l->f a=g a)->l.mapM f=l.mapM g
 |[],_=>rfl
 |a::l,h=>by
  simp only [List.mapM_cons];rw [h a (by simp),Qwe (l:=l) (fun b hb=>h b (by simp [hb]))]
theorem Qbc3 {g:TypeId->Option (List Cl)} {sz:TypeId->Nat}: ∀{l:List Field} {off:Nat} {c:List Cl},Qf1 g sz l off=some c-> ∀f,f∈l-> ∃c,g f.type=some c:=by
 intro l;induction l with
 |nil=>intro _ _ _ f hf;cases hf
 |cons a r ih=>
  intro off c h f hf;simp only [Qf1] at h;split at h;split at h;rename_i c' h';split at h;split at h;rename_i c2 h2;rcases List.mem_cons.1 hf with rfl|hf
  exact ⟨_,h'⟩;exact ih h2 f hf;cases h;cases h;cases h;cases h
theorem Qp5 {w':World} {base':Nat} {sp':Nat->Bool} {held':Bool}: ∀(n:Nat) {t:TypeId} {cl:List Cl},flat P n t=some cl-> ∀(fuel:Nat) (cs:List Value),
  DataW.trod enc P w base sp held fuel t cs=DataW.trod enc P w' base' sp' held' fuel t cs
 |0,_,_,h=>by simp [flat] at h
 |n+1,t,cl,h=>by
  intro fuel cs;cases fuel with
  |zero=>rfl
  |succ fuel=>
  simp only [flat] at h;split at h;rename_i k ht;unfold DataW.trod;rw [ht];split<;>simp_all;rename_i ht;unfold DataW.trod;rw [ht];split<;>simp_all;rename_i m e ht;split at h;rename_i c1 h1;unfold DataW.trod;rw [ht];simp only [Qp5 (w':=w') (base':=base') (sp':=sp') (held':=held') n h1 fuel];cases h;rename_i fs ht;split at h;rename_i c1 h1;unfold DataW.trod;rw [ht];have:=Qwe (l:=fs.toList) (f:=fun f=>DataW.trod enc P w base sp held fuel f.type ((cs.drop f.offset).take (P.cellsOf f.type))) (g:=fun f=>DataW.trod enc P w' base' sp' held' fuel f.type ((cs.drop f.offset).take (P.cellsOf f.type)))
   (fun f hf=>by obtain ⟨c,hc⟩:=Qbc3 h1 f hf;exact Qp5 n hc fuel _)
  simp only [this];cases h;cases h
theorem Qbni {w':World} {base':Nat} {sp':Nat->Bool} {held':Bool} {n:Nat} {t:TypeId} {cl:List Cl} {v:Value} {d:DataW H} {ps:List MemPlace} (hf:flat P n t=some cl) (hd:DataW.Trod enc P w base sp held t v d ps):
  DataW.Trod enc P w' base' sp' held' t v d ps:=by
 obtain ⟨fuel,h⟩:=hd;exact ⟨fuel,by rw [<-Qp5 n hf];exact h⟩
theorem Qbkq {n:Nat} {t:TypeId} {cl:List Cl} {v:Value} {d:DataW H} {ps:List MemPlace} {r:Reach} {b0:Nat} (hf:flat P n t=some cl) (ha:isAgg P t=true) (hv:Value.okWide P w r b0 t v)
  (hd:DataW.Trod enc P w base sp held t v d ps): ∃l,InR cl l/\v=.agg (Qq cl l).toArray/\ps=[]:=by
 obtain ⟨cs,rfl⟩: ∃cs,v=.agg cs:=by
  unfold isAgg at ha;split at ha;rename_i ht;obtain ⟨cs,rfl,_⟩: ∃cs,v=.agg cs/\cs.size=P.cellsOf t/\Row.okWide P w r b0 t cs:=by simpa [Value.okWide,ht] using hv
  exact ⟨cs,rfl⟩;rename_i ht;obtain ⟨cs,rfl,_⟩: ∃cs,v=.agg cs/\cs.size=P.cellsOf t/\Row.okWide P w r b0 t cs:=by simpa [Value.okWide,ht] using hv
  exact ⟨cs,rfl⟩;cases ha
 obtain ⟨fuel,h⟩:=hd;obtain ⟨⟨l,hl,hc⟩,hp⟩:=Qin n hf h;refine ⟨l,hl,?_,hp⟩;rw [<-show cs.toList=Qq cl l from hc]
end
end Go.Ev
namespace Go.Ev
def Qo8:Value->AVal
 |.int k n=> .int k n
 |.bool b=> .bool b
 |_=> .nilptr
def ElOk (cl:List Cl) (f:Nat->AVal):Prop:= ∃l,InR cl l/\ ∀j,j<cl.length->f j=Qo8 ((Qq cl l).getD j .nilFunc)
structure RowV (W:World) (cl:List Cl) (v:Value) (X:Fz):Prop where
 z:X.z=cl.length
 ok:0<X.len->FzOk X W
 rel: ∀(g:Inj) (i:Nat),g.sig.ext i=some X->VRel g (.row i) v
 els: ∀m,m<X.len->ElOk cl (X.val m)
 len:(X.len:Int)<=9223372036854775807
structure RowIn {H:Type} (enc:TypeId×Value->H) (P:Program) (W:World) (t:TypeId) (cl:List Cl) (v:Value) (d:DataW H) (ps:List MemPlace) (X:Fz):Prop where
 z:X.z=cl.length
 ok:0<X.len->FzOk X W
 rel: ∀(g:Inj) (i:Nat),g.sig.ext i=some X->VRel g (.row i) v
 els: ∀m,m<X.len->ElOk cl (X.val m)
 len:(X.len:Int)<=9223372036854775807
 again: ∀W':World,RowKit.Below W.heap.size W W'-> ∀sp:Nat->Bool,(∀p∈ps,sp p.block=true)->DataW.Trod enc P W' 0 sp true t v d ps
theorem RowIn.row {H:Type} {enc:TypeId×Value->H} {P:Program} {W:World} {t:TypeId} {cl:List Cl} {v:Value} {d:DataW H} {ps:List MemPlace} {X:Fz} (h:RowIn enc P W t cl v d ps X):RowV W cl v X:=⟨h.z,h.ok,h.rel,h.els,h.len⟩
theorem Qz7: ∀{cl:List Cl} {l:List Int},InR cl l-> ∀(j:Nat) (v:Value),(Qq cl l)[j]? =some v->(∀g,VRel g (Qo8 v) v)/\v.oneCell'=true
 |[],_,_,j,v,h=>by simp [Qq] at h
 |c::cl,[],h,_,_,_=>by cases h
 |c::cl,n::l,hr,0,v,h=>by
  simp only [Qq,List.getElem?_cons_zero,Option.some.injEq] at h;subst h;cases c with
  |i k=>exact ⟨fun g=> .int k _,rfl⟩
  |b=>exact ⟨fun g=> .bool _,rfl⟩
 |c::cl,n::l,hr,j+1,v,h=>Qz7 hr.2 j v (by simpa [Qq] using h)
section
variable {H : Type} {enc : TypeId × Value -> H} {P : Program} {W : World}
theorem Qba9 {W':World} {a:Addr} {n:Nat} (hb:W'.heap[a.block]? =W.heap[a.block]?):W'.cells? 0 a n=W.cells? 0 a n:=by
 unfold World.cells?;rw [if_pos (Nat.zero_le _),if_pos (Nat.zero_le _)];refine Qwe fun i _=> ?_;have hblk:(a.add i).block=a.block:=by unfold Addr.add;split<;>rfl
 unfold World.cell?;rw [hblk,hb]
theorem Qyl (a:Addr) (i j:Nat):(a.add i).add j=a.add (i+j):=by
 unfold Addr.add;by_cases hi:i=0<;>by_cases hj:j=0<;>simp [hi,hj,Nat.add_assoc]
theorem Qoz (a:Addr) (i:Nat):(a.add i).block=a.block:=by unfold Addr.add;split<;>rfl
theorem Q7c {n:Nat} {t e:TypeId} {cl:List Cl} {v:Value} {d:DataW H} {ps:List MemPlace} {r:Reach} {b0:Nat} (ht:P.underlying t=some (.slice e)) (hf:flat P n e=some cl) (hz:Nat.beq (P.cellsOf e) cl.length=true) (hpos:Nat.blt 0 cl.length=true)
  (hv:Value.okWide P W r b0 t v) (hd:DataW.Trod enc P W 0 (fun _=>true) true t v d ps): ∃X,RowIn enc P W t cl v d ps X:=by
 have hz:=Nat.eq_of_beq_eq_true hz;have hpos:0<cl.length:=by simpa using hpos
 obtain ⟨a0,len,cap,rfl⟩:=Go.WideShapes.okWide_slice ht hv;obtain ⟨fuel,hd⟩:=hd;have hcs:(Value.slice a0 len cap).cells.toList=[.slice a0 len cap]:=rfl;rw [hcs] at hd;rcases DataW.trod_slice ht hd with ⟨h1,h2⟩|⟨a,len',cap',elems,rest,m,rfl,h1,h2,_,hlc,hcm,hel,hall,hsp,_⟩;simp only [List.cons.injEq,Value.slice.injEq,and_true] at h1;obtain ⟨rfl,rfl,rfl⟩:=h1;simp only [Prod.mk.injEq] at h2;obtain ⟨rfl,rfl⟩:=h2;refine ⟨⟨0,0,cl.length,0,fun _ _=> .nilptr,none⟩,rfl,fun h=>absurd h (Nat.lt_irrefl 0),fun g i h=> .row i _ none 0 h (Nat.le_refl _) (fun h=>absurd h (Nat.lt_irrefl 0)),fun m h=>absurd h (Nat.not_lt_zero m),by simp,?_⟩;intro W' _ sp _;refine ⟨1,?_⟩;rw [hcs];unfold DataW.trod;rw [ht];rfl;simp only [List.cons.injEq,Value.slice.injEq,and_true] at h1;obtain ⟨rfl,rfl,rfl⟩:=h1;simp only [Prod.mk.injEq] at h2;obtain ⟨rfl,rfl⟩:=h2;obtain ⟨hrl,hrest⟩:=hsp rfl;have hcell: ∀i,i<len-> ∃cs l,W.cells? 0 (a.add (i*P.cellsOf e)) (P.cellsOf e)=some cs/\InR cl l/\cs=Qq cl l:=by
  intro i hi;have h3:=hall i hi;rw [List.getElem?_eq_getElem (by omega)] at h3;obtain ⟨cs,h4,h5⟩:=Option.bind_eq_some_iff.1 h3;obtain ⟨⟨l,h6,h7⟩,_⟩:=Qin n hf h5;exact ⟨cs,l,h4,h6,h7⟩
 have hblk:0<cap->a.block<W.heap.size:=by
  intro hc;have: ∃y,(W.cells? 0 (a.add 0) (P.cellsOf e)).bind (DataW.trod enc P W 0 (fun _=>true) true m e)=some y:=by
   by_cases hl:0<len;have h3:=hall 0 hl;rw [Nat.zero_mul,List.getElem?_eq_getElem (by omega)] at h3;exact ⟨_,h3⟩;have h3:=hrest 0 (by omega);rw [List.getElem?_eq_getElem (by omega),show len+0=0 by omega,Nat.zero_mul] at h3;exact ⟨_,h3⟩
  obtain ⟨y,hy⟩:=this;obtain ⟨cs,h4,_⟩:=Option.bind_eq_some_iff.1 hy;obtain ⟨_,_,h5⟩:=World.cells?_some h4;have h6:=h5 0 (by omega);have hlen:=(World.cells?_some h4).2.1;rw [List.getElem?_eq_getElem (by omega)] at h6;unfold World.cell? at h6;split at h6;rename_i C e' fr hheap;have:=(Array.getElem?_eq_some_iff.1 hheap).1;simpa [Qoz] using this;cases h6
 have hat:0<len->a.spot=none/\ ∃C e' fr,W.heap[a.block]? =some (.cells C e' fr)/\ ∀i cs,i<len->W.cells? 0 (a.add (i*P.cellsOf e)) (P.cellsOf e)=some cs-> ∀j,j<P.cellsOf e->C[a.off+i*P.cellsOf e+j]? =cs[j]?:=by
  intro hl;obtain ⟨cs,l,h4,_,_⟩:=hcell 0 hl;obtain ⟨_,hlen,h5⟩:=World.cells?_some h4;have h6:=h5 0 (by omega);have hadd:(a.add (0*P.cellsOf e)).add 0=a:=by simp [Addr.add]
  rw [hadd,List.getElem?_eq_getElem (by omega)] at h6;unfold World.cell? at h6;split at h6;rename_i C e' fr hheap;have hsp0:a.spot=none:=by
   cases hs:a.spot with
   |none=>rfl
   |some x=>rw [hs] at h6;simp at h6
  refine ⟨hsp0,C,e',fr,hheap,?_⟩;intro i cs hi h4 j hj;obtain ⟨_,_,h5⟩:=World.cells?_some h4;have h7:=h5 j hj;rw [<-h7];rw [Qyl];unfold World.cell?;rw [Qoz,hheap];have hspot:(a.add (i*P.cellsOf e+j)).spot=none:=by unfold Addr.add;split;exact hsp0;rfl
  have hoff:(a.add (i*P.cellsOf e+j)).off=a.off+(i*P.cellsOf e+j):=by unfold Addr.add;split<;>simp_all
  rw [hspot,hoff];simp [Nat.add_assoc];cases h6
 let Vv:Nat->Nat->AVal:=fun m j=>match W.cells? 0 (a.add (m*P.cellsOf e)) (P.cellsOf e) with
  |some cs=>Qo8 (cs.getD j .nilFunc)
  |none=> .nilptr
 refine ⟨⟨a.block,a.off,cl.length,len,Vv,none⟩,rfl,?_,?_,?_,?_,?_⟩;intro hl;have hl:0<len:=hl;obtain ⟨_,C,e',fr,hheap,hC⟩:=hat hl;refine ⟨C,e',fr,hheap,?_,fun o h=>by cases h⟩;intro m' j hm' hj;have hm':m'<len:=hm';have hj:j<cl.length:=hj;obtain ⟨cs,l,h4,h6,rfl⟩:=hcell m' hm';have h7:=hC m' _ hm' h4 j (by omega);have hlt:j<(Qq cl l).length:=by rw [Qz9];exact hj
 rw [List.getElem?_eq_getElem hlt] at h7;have hgd:(Qq cl l).getD j .nilFunc=(Qq cl l)[j]:=by simp [List.getD,hlt]
 obtain ⟨q1,q2⟩:=Qz7 h6 j _ (List.getElem?_eq_getElem hlt);refine ⟨(Qq cl l)[j],?_,fun g=> ?_,q2⟩;show C[a.off+m'*cl.length+j]? =_;rw [<-hz];exact h7;show VRel g (Vv m' j) _;simp only [Vv,h4,hgd];exact q1 g;intro g i h;refine .row i _ (some a) cap h hlc (fun hl=> ?_);have hl:0<len:=hl;obtain ⟨hsp0,_⟩:=hat hl;obtain ⟨b,o,s⟩:=a;simp only at hsp0;subst hsp0;rfl;intro m' hm';have hm':m'<len:=hm';obtain ⟨cs,l,h4,h6,rfl⟩:=hcell m' hm';refine ⟨l,h6,fun j hj=> ?_⟩;show Vv m' j=_;simp only [Vv,h4];have:maxLen=2^63-1:=rfl;show (len:Int)<=_;omega;intro W' hB sp hps;refine ⟨m+1,?_⟩;rw [hcs];by_cases hc:0<cap;have hb:=hB.block a.block (hblk hc);have hspb:sp a.block=true:=by
  have hmem:MemPlace.cell a.block a.off∈MemPlace.row a ((elems.length+rest.length)*P.cellsOf e)++(elems++rest).flatMap (·.2):=
   List.mem_append_left _ (MemPlace.mem_row.2 ⟨0,by rw [hel,hrl];exact Nat.mul_pos (by omega) (by omega),by simp⟩)
  exact hps _ hmem
 have one: ∀i,(W'.cells? 0 (a.add (i*P.cellsOf e)) (P.cellsOf e)).bind (DataW.trod enc P W' 0 sp true m e)=(W.cells? 0 (a.add (i*P.cellsOf e)) (P.cellsOf e)).bind (DataW.trod enc P W 0 (fun _=>true) true m e):=by
  intro i;rw [Qba9 (W:=W) (a:=a.add (i*P.cellsOf e)) (by rw [Qoz];exact hb)];have:DataW.trod enc P W' 0 sp true m e=DataW.trod enc P W 0 (fun _=>true) true m e:=funext fun cs=>Qp5 n hf m cs;rw [this]
 unfold DataW.trod at hd⊢;rw [ht] at hd⊢;simp only [one,hspb,if_true] at hd⊢;exact hd;have hc0:cap=0:=by omega
 have hl0:len=0:=by omega
 subst hc0;subst hl0;have e1:elems=[]:=List.eq_nil_of_length_eq_zero hel;have e2:rest=[]:=List.eq_nil_of_length_eq_zero hrl;subst e1;subst e2;unfold DataW.trod;rw [ht];simp [MemPlace.row,hcm]
end
end Go.Ev
namespace Go.Ev
open Go.RowKit
end Go.Ev
