/- The evaluator, part 8. -/
import Derived.Test.YtelimhjceiamcaaDoorTEv7
set_option linter.unusedVariables false
set_option linter.unusedSimpArgs false
set_option linter.unnecessarySimpa false
namespace Go.Ev
open Go.RowKit
set_option linter.unusedVariables false
structure SegOk (P:Program) (tab:TabF) (n:Nat) (c:List Code) (s:Shape) (X:Ing) (W:Sw):Prop where
 lt:okLT X.m X.G X.T=true
 ok:okG X.G X.m=true
 hook: ∀F,Hooks P (cxOf X F)
 n0:X.n=0
 id:idOk s X.m=true
 reck:okSw (fun F=>runL P (cxOf X) true X.fu (evD P (cxOf X) true X.fu 40).1 (evD P (cxOf X) true X.fu 40).2 c F (tmOf s n) ⟨s.heap,[]⟩) W []=true
 tab:X.tab=tab
 cuts:X.cuts=[]
 inv: ∀V,X.inv V:=by exact fun _=>True.intro
 kt:okKt X=true:=by exact rfl
theorem SegOk.run {P:Program} {tab:TabF} {n:Nat} {c:List Code} {s:Shape} {X:Ing} {W:Sw} (h:SegOk P tab n c s X W) (hm:P.follows .mixedOrders=true) {Q0:SEx->Shape->Sig->Prop}
  {V:Sig} {w0:Fra} {a:Act} {w:World} (hA:At tab s n V w0 a w) (hi:Qx V X.m X.ins) (hr:Qd8 (solve X.G X.m V) X.rows) (hob:Qdp (solve X.G X.m V) Q0 W []) {K:Act->World->Prop} {Z:Exit->Act->World->Prop}
  (hk: ∀e a' w' x s2 V2,Qb6 V2 x e->Q0 x s2 V2->At tab s2 n V2 w0 a' w'->Exit.then K Z e a' w') (hpin: ∀i,w0.pin i≠none->pinW i W=true:=by exact fun _ h=>absurd rfl h):Qc2 P c K Z a w:=by
 have ht:=h.tab;subst ht;exact segL hm h.lt h.ok h.hook h.n0 h.id h.reck hA hi hob hk hr (by rw [h.cuts];exact Qlr) (h.inv _) h.kt hpin
theorem At.agree {tab:TabF} {s:Shape} {n q:Nat} {V U:Sig} {w0:Fra} {a:Act} {w:World} (hid:idOk s q=true) (ag:Agree q V U) (h:At tab s n V w0 a w):At tab s n U w0 a w:=by
 obtain ⟨⟨g,rfl,hH,hT,hB,hP⟩,h2,h3,h4⟩:=h;have hid':=hid;unfold idOk at hid';split at hid';rename_i lx ly hlx hly;simp only [Bool.and_eq_true] at hid';obtain ⟨⟨i1,i2⟩,i3⟩:=hid';have htab:U.tab=tab:=by rw [<-ag.tab];exact hH.sig.tab
 refine ⟨⟨Qbd (idF s.heap.length 0) g U,rfl,Qkp hH rfl (Qe5 htab) (Qmc _ _) i3 hly (Qma ag i2) ag.ext.symm,?_,?_,?_⟩,h2,h3,h4⟩;intro p hp;obtain ⟨u,h1,h2⟩:=hT _ hp;obtain ⟨mm,q1,q2⟩:=Qwh _ _ lx hlx rfl p.2 (List.mem_map.2 ⟨_,hp,rfl⟩);exact ⟨u,h1,Qca (Qdh _ g _ ag.ext.symm) p.2 p.2 mm u q1 (fun z hz=>Qma ag i1 z (q2 z hz)) h2⟩;intro i L hi;obtain ⟨y,sh,L',_,h2,rfl⟩:=Qhi hi;exact hB y L' h2;intro i x hi;obtain ⟨hlt,h0⟩:=hP i x hi;have hid0:(idF s.heap.length 0)[i]? =some (i,0):=by simpa using Qmb (i:=0) hlt
 refine ⟨hlt,?_⟩;simp only [Qbd,hid0,h0];cases x<;>simp [shift];cases hid'
def Qg8 (kd:Nat->Option IntKind) (l:Asg):List (Option IntKind)->Nat->Bool
 |[],_=>true
 |none::r,i=>Qg8 kd l r (i+1)
 |some k::r,i=>(match Qde l i with
  |some a=>inK kd k a
  |none=>false)&&Qg8 kd l r (i+1)
theorem Qqg {kd:Nat->Option IntKind} {l:Asg}: ∀{ins:List (Option IntKind)} {i:Nat},Qg8 kd l ins i=true-> ∀(j:Nat) (k:IntKind),ins[j]? =some (some k)-> ∃a,Qde l (i+j)=some a/\inK kd k a=true
 |[],_,_,j,k,hj=>by simp at hj
 |none::r,i,h,0,k,hj=>by simp at hj
 |none::r,i,h,j+1,k,hj=>by
  have:=Qqg (ins:=r) (i:=i+1) h j k (by simpa using hj);rw [show i+(j+1)=i+1+j by omega];exact this
 |some k'::r,i,h,0,k,hj=>by
  simp only [Qg8,Bool.and_eq_true] at h;simp only [List.getElem?_cons_zero,Option.some.injEq] at hj;subst hj;have h1:=h.1;split at h1;rename_i a ha;exact ⟨a,ha,h1⟩;cases h1
 |some k'::r,i,h,j+1,k,hj=>by
  simp only [Qg8,Bool.and_eq_true] at h;have:=Qqg (ins:=r) (i:=i+1) h.2 j k (by simpa using hj);rw [show i+(j+1)=i+1+j by omega];exact this
def Qcg (V:Sig) (q:Nat) (X:Fz):Sig where
 i:=fun t=>if t<q then V.i t else if (V.i 0).toNat<X.len then iOf (X.val (V.i 0).toNat (t-q)) else 0
 b:=fun t=>if t<q then V.b t else if (V.i 0).toNat<X.len then bOf (X.val (V.i 0).toNat (t-q)) else false
 s:=V.s
 tab:=V.tab
 ext:=V.ext
theorem Qbb3 (V:Sig) (q:Nat) (X:Fz):Agree q V (Qcg V q X):=
 ⟨fun i hi=>⟨by simp [Qcg,hi],by simp [Qcg,hi],rfl⟩,rfl,rfl⟩
def Qdx:Nat->List Cl->List AVal
 |_,[]=>[]
 |i,.i k::r=> .symi k i::Qdx (i+1) r
 |i,.b::r=> .symb i::Qdx (i+1) r
theorem Qtz: ∀(i:Nat) (cl:List Cl),(Qdx i cl).length=cl.length
 |_,[]=>rfl
 |i,.i k::r=>by simp [Qdx,Qtz (i+1) r]
 |i,.b::r=>by simp [Qdx,Qtz (i+1) r]
theorem Qty: ∀(i:Nat) (cl:List Cl) (j:Nat) (c:AVal),(Qdx i cl)[j]? =some c-> ∃z,cl[j]? =some z/\c=(match z with|.i k=> .symi k (i+j)|.b=> .symb (i+j))
 |_,[],j,c,h=>by simp [Qdx] at h
 |i,.i k::r,0,c,h=>by simp [Qdx] at h;exact ⟨.i k,rfl,h.symm⟩
 |i,.b::r,0,c,h=>by simp [Qdx] at h;exact ⟨.b,rfl,h.symm⟩
 |i,.i k::r,j+1,c,h=>by
  obtain ⟨z,h1,h2⟩:=Qty (i+1) r j c (by simpa [Qdx] using h);exact ⟨z,by simpa using h1,by rw [h2,show i+1+j=i+(j+1) by omega]⟩
 |i,.b::r,j+1,c,h=>by
  obtain ⟨z,h1,h2⟩:=Qty (i+1) r j c (by simpa [Qdx] using h);exact ⟨z,by simpa using h1,by rw [h2,show i+1+j=i+(j+1) by omega]⟩
theorem Qz8: ∀{cl:List Cl} {l:List Int},InR cl l-> ∀(j:Nat) (z:Cl),cl[j]? =some z-> ∃n,inC z n/\(Qq cl l).getD j .nilFunc=encC z n
 |c::cl,[],h,_,_,_=>by cases h
 |c::cl,n::l,h,0,z,hz=>by
  simp only [List.getElem?_cons_zero,Option.some.injEq] at hz;subst hz;exact ⟨n,h.1,rfl⟩
 |c::cl,n::l,h,j+1,z,hz=>by
  obtain ⟨m,h1,h2⟩:=Qz8 h.2 j z (by simpa using hz);exact ⟨m,h1,by simpa [Qq] using h2⟩
 |[],_,_,_,_,hz=>by simp at hz
theorem Qe7 {cl:List Cl} {f:Nat->AVal} (h:ElOk cl f) {j:Nat} {z:Cl} (hz:cl[j]? =some z): ∃n,inC z n/\f j=(match z with|.i k=> .int k n|.b=> .bool (!(n==0))):=by
 obtain ⟨l,h1,h2⟩:=h;have hj:j<cl.length:=(List.getElem?_eq_some_iff.1 hz).1;obtain ⟨n,h3,h4⟩:=Qz8 h1 j z hz;refine ⟨n,h3,?_⟩;rw [h2 j hj,h4];cases z with
 |i k=>simp only [encC,Qo8];rw [show k.wrap n=n from h3]
 |b=>rfl
theorem Qbb4 {W:World} {cl:List Cl} {v:Value} {X:Fz} (hX:RowV W cl v X) {V:Sig} {q:Nat} {insq:List (Option IntKind)} (hq:insq.length=q) (h:Qx V q insq):Qx (Qcg V q X) (q+cl.length) (insq++cl.map Qfd):=by
 intro i k hi hk;by_cases hlt:i<q;rw [List.getElem?_append_left (by omega)] at hk;have:=h i k hlt hk;simpa [Qcg,hlt] using this;rw [List.getElem?_append_right (by omega),hq,List.getElem?_map] at hk;simp only [Qcg,hlt,if_false];split
 ·rename_i hlen
  cases hz:cl[i-q]? with
  |none=>rw [hz] at hk;cases hk
  |some z=>
   rw [hz] at hk;cases z with
   |b=>simp [Qfd] at hk
   |i k'=>
    simp only [Qfd,Option.map_some,Option.getD_some,Option.some.injEq] at hk;subst hk;obtain ⟨n,h1,h2⟩:=Qe7 (hX.els _ hlen) hz;rw [h2];exact h1
 cases k<;>rfl
end Go.Ev
namespace Go.Ev
open Go.RowKit
set_option linter.unusedVariables false
set_option linter.unusedSimpArgs false
set_option linter.unnecessarySimpa false
end Go.Ev
namespace Go.Ev
open Go.RowKit
set_option linter.unusedVariables false
set_option linter.unusedSimpArgs false
set_option linter.unnecessarySimpa false
end Go.Ev
namespace Go.Ev
open Go.RowKit
set_option linter.unusedVariables false
set_option linter.unusedSimpArgs false
set_option linter.unnecessarySimpa false
section
variable (tab : TabF) (q : Nat) (XA XB XC : Ing) (WA WB WC : Sw) (cl : List Cl) (cs : List AVal)
end
end Go.Ev
namespace Go.Ev
set_option linter.unusedVariables false
set_option linter.unusedSimpArgs false
set_option linter.unnecessarySimpa false
def subA (S:TT) (a:AVal):AVal:=
 match a with
 |.symi k i=>match S.get i with
  |some (.int _ n)=> .int k n
  |some (.symi _ j)=> .symi k j
  |_=>a
 |.symb i=>match S.get i with
  |some (.bool b)=> .bool b
  |some (.symb j)=> .symb j
  |_=>a
 |_=>a
def subL (S:TT):List AVal->List AVal
 |[]=>[]
 |a::l=>subA S a::subL S l
def subP (S:TT):List (AVal×AVal)->List (AVal×AVal)
 |[]=>[]
 |a::l=>(subA S a.1,subA S a.2)::subP S l
def allT:List (AVal×AVal)->Bool
 |[]=>true
 |a::l=>match eqV a.1 a.2 with
  |true=>match skOf a.1 with
   |some _=>allT l
   |none=>false
  |false=>false
theorem Qbnl {a:AVal} {k:SK} (h:skOf a=some k) (V:Sig):eqS (den V a) (den V a)=true:=by
 cases a<;>simp only [skOf,reduceCtorEq] at h<;>simp [den,eqS]
theorem Qyq {V:Sig}: ∀{l:List (AVal×AVal)},allT l=true->(l.all fun x=>eqS (den V x.1) (den V x.2))=true
 |[],_=>rfl
 |(a,b)::l,h=>by
  simp only [allT] at h;split at h;rename_i he;have:=Qbi _ _ he;subst this;split at h;rename_i k hk;simp only [List.all_cons,Qbnl hk,Qyq h,Bool.and_self];cases h;cases h
def Q55:AVal->AVal->Bool
 |.int _ a,.int _ b=> !(a==b)
 |.bool a,.bool b=> !(a==b)
 |_,_=>false
def Qlf:List (AVal×AVal)->Bool
 |[]=>false
 |a::l=>Q55 a.1 a.2||Qlf l
theorem Qys {V:Sig}: ∀{l:List (AVal×AVal)},Qlf l=true->(l.all fun x=>eqS (den V x.1) (den V x.2))=false
 |[],h=>by simp [Qlf] at h
 |(a,b)::l,h=>by
  simp only [Qlf,Bool.or_eq_true] at h;simp only [List.all_cons,Bool.and_eq_false_iff];rcases h with h|h
  left;unfold Q55 at h;split at h<;>simp_all [den,eqS];right;exact Qys h
def Qmh:List AVal->Bool
 |[]=>true
 |a::l=>Qc4 a&&Qmh l
theorem Qfc {V:Sig} {a:AVal} (h:Qc4 a=true):den V a=a:=by
 cases a<;>simp only [Qc4,Bool.false_eq_true] at h<;>rfl
theorem Qut {V:Sig}: ∀{l:List AVal},Qmh l=true->l.map (den V)=l
 |[],_=>rfl
 |a::l,h=>by
  simp only [Qmh,Bool.and_eq_true] at h;simp only [List.map_cons,Qfc h.1,Qut h.2]
def litO (v:Option AVal):Option AVal:=
 match v with
 |some a=>match Qc4 a with
  |true=>some a
  |false=>none
 |none=>none
theorem Qns {v:Option AVal} {a:AVal} (h:litO v=some a):v=some a/\Qc4 a=true:=by
 unfold litO at h;split at h;split at h;rename_i hl;cases h;exact ⟨rfl,hl⟩;cases h;cases h
def Ql5:SDef->Option AVal
 |.bin op a b=>match Qc4 a&&Qc4 b with
  |true=>litO (binS op a b)
  |false=>match eqV a b with
   |true=>match skOf a with
    |some .s=>none
    |some _=>match op with
     |.eql=>some (.bool true)
     |.neq=>some (.bool false)
     |_=>none
    |none=>none
   |false=>none
 |.un op a=>match Qc4 a with
  |true=>litO (unA op a)
  |false=>none
 |.conv k a=>match Qc4 a with
  |true=>litO (Qjc k a)
  |false=>none
 |.low l=>match Qmh l with
  |true=>litO (minA l)
  |false=>none
 |.high l=>match Qmh l with
  |true=>litO (maxA l)
  |false=>none
 |.all l=>match allT l with
  |true=>some (.bool true)
  |false=>match Qlf l with
   |true=>some (.bool false)
   |false=>none
 |.ite c a b=>match c with
  |.bool true=>some a
  |.bool false=>some b
  |.symb _=>match eqV a b with
   |true=>some a
   |false=>none
  |_=>none
 |.sel l ix=>match ix with
  |.int _ n=>match l with
   |a::r=>some ((a::r).getD n.toNat a)
   |[]=>none
  |_=>none
 |_=>none
theorem Q1a {V:Sig} {d:SDef} {a:AVal} (h:Ql5 d=some a):Qb V d=some (den V a):=by
 unfold Ql5 at h;split at h;rename_i op x y;split at h;rename_i hl;simp only [Bool.and_eq_true] at hl;obtain ⟨h1,h2⟩:=Qns h;simp only [Qb,Qfc hl.1,Qfc hl.2,Qfc h2,h1];split at h;rename_i he;have:=Qbi _ _ he;subst this;split at h;cases h;rename_i k hk1 hk;split at h;cases h;cases x<;>simp only [skOf,reduceCtorEq,Option.some.injEq] at hk<;>first
  |(simp [Qb,den,binS,intA];done)
  |(exfalso;exact hk1 hk.symm)
 cases h;cases x<;>simp only [skOf,reduceCtorEq,Option.some.injEq] at hk<;>first
  |(simp [Qb,den,binS,intA];done)
  |(exfalso;exact hk1 hk.symm)
 cases h;cases h;cases h;rename_i op x;split at h;rename_i hl;obtain ⟨h1,h2⟩:=Qns h;simp only [Qb,Qfc hl,Qfc h2,h1];cases h;rename_i k x;split at h;rename_i hl;obtain ⟨h1,h2⟩:=Qns h;simp only [Qb,Qfc hl,Qfc h2,h1];cases h;rename_i l;split at h;rename_i hl;obtain ⟨h1,h2⟩:=Qns h;simp only [Qb,Qut hl,Qfc h2,h1];cases h;rename_i l;split at h;rename_i hl;obtain ⟨h1,h2⟩:=Qns h;simp only [Qb,Qut hl,Qfc h2,h1];cases h;rename_i l;split at h;rename_i hl;cases h;simp only [Qb];rw [Qyq hl];rfl;split at h;rename_i hl;cases h;simp only [Qb];rw [Qys hl];rfl;cases h;rename_i c x y;split at h;cases h;simp [Qb,den];cases h;simp [Qb,den];split at h;rename_i he;have:=Qbi _ _ he;subst this;cases h;simp [Qb,den];cases h;cases h;rename_i l ix;split at h;split at h;cases h;simp [Qb,den];cases h;cases h;cases h
def Q9f (i:Nat) (r:AVal):Prop:=(∃k,r=.symi k i)\/r=.symb i\/r=.syms i
theorem Qk2 (a:AVal) (i:Nat):Q9f i (Qbv a i):=by
 cases a<;>first|exact .inl ⟨_,rfl⟩|exact .inr (.inl rfl)|exact .inr (.inr rfl)
theorem Qw8 (d:SDef) (i:Nat):Q9f i (resS d i):=by
 cases d with
 |bin op a b=>cases op<;>first|exact Qk2 a i|exact .inr (.inl rfl)
 |un op a=>exact Qk2 a i
 |conv k a=>exact .inl ⟨_,rfl⟩
 |low l=>cases l<;>first|exact .inr (.inl rfl)|exact Qk2 _ i
 |high l=>cases l<;>first|exact .inr (.inl rfl)|exact Qk2 _ i
 |all l=>exact .inr (.inl rfl)
 |text l=>exact .inr (.inr rfl)
 |fn i k l=>exact .inl ⟨_,rfl⟩
 |fnb i l=>exact .inr (.inl rfl)
 |ite c a b=>exact Qk2 a i
 |sel l a=>cases l<;>first|exact .inr (.inl rfl)|exact Qk2 _ i
 |sop o l=>
  cases o<;>first|exact .inl ⟨_,rfl⟩|exact .inr (.inr rfl)|skip
  simp only [resS];split;exact .inl ⟨_,rfl⟩;exact .inr (.inl rfl)
end Go.Ev
namespace Go.Ev
open Go.RowKit
set_option linter.unusedVariables false
set_option linter.unusedSimpArgs false
set_option linter.unnecessarySimpa false
theorem Qbnz {ng:Cx} {V:Sig} (hg:ng.Good V) {d:SDef} {r:AVal} (h:symS ng d=some r):Qb V d=some (den V r):=by
 unfold symS at h;split at h;rename_i i hi;have hl:=hg.look d i hi;rw [hl];split at h;rename_i j hr;rw [hr];split at h;rename_i b hb;cases h;simp only [den];rw [hg.fact _ _ hb];cases h;rfl;rename_i k j hr;rw [hr];split at h;rename_i n hn;cases h;simp only [den];rw [hg.num _ _ hn];cases h;rfl;rename_i r' hr1 hr2;cases h;rfl;cases h
end Go.Ev
namespace Go.Ev
open Go.RowKit
set_option linter.unusedVariables false
set_option linter.unusedSimpArgs false
set_option linter.unnecessarySimpa false
end Go.Ev
namespace Go.Ev
open Go.RowKit
set_option linter.unusedVariables false
set_option linter.unusedSimpArgs false
set_option linter.unnecessarySimpa false
def Qe:Code->List Code
 |.seq x y=>Qe x++Qe y
 |c=>[c]
theorem Qbn2 {K J:Act->World->Prop} {Q:Exit->Act->World->Prop}:Exit.then J (Exit.then K Q)=Exit.then J Q:=by
 funext e a w;cases e<;>rfl
theorem Ql4 {P:Program}: ∀(c:Code) {K:Act->World->Prop} {Q:Exit->Act->World->Prop} {a:Act} {w:World},Qc2 P (Qe c) K Q a w->c.wpIn (FR none) 0 P (Exit.then K Q) a w
 |.seq x y,K,Q,a,w,h=>by
  simp only [Qe,Qpc] at h;refine wpIn_seq ?_;rw [Qbn2];refine wpIn_mono (Ql4 x h) fun e a' w' he=> ?_;cases e with
  |normal=>exact Ql4 y he
  |_=>exact he
 |.skip,_,_,_,_,h|.region _ _ _,_,_,_,_,h|.cond _ _ _,_,_,_,_,h|.loop _,_,_,_,_,h|.rangeFunc _ _ _ _,_,_,_,_,h
 |.exit _,_,_,_,_,h|.ret,_,_,_,_,h|.label _,_,_,_,_,h|.goto _,_,_,_,_,h|.scope _,_,_,_,_,h|.refuse _,_,_,_,_,h|.block _ _,_,_,_,_,h=>h
def Qf (P:Program) (tab:TabF) (n:Nat) (W0:Fra) (Z:Exit->Act->World->Prop) (c:List Code) (S:Shape) (q:Nat) (ins:List (Option IntKind)) (J:Sig->Prop):Prop:=
 ∀a w V,At tab S n V W0 a w->Qx V q ins->J V->V.tab=tab->Qc2 P c (Z .normal) Z a w
def EndZ (tab:TabF) (n:Nat) (W0:Fra) (Z:Exit->Act->World->Prop) (x:SEx) (s:Shape) (V:Sig):Prop:=
 ∀e a w,Qb6 V x e->At tab s n V W0 a w->Z e a w
theorem Qf.seg {P:Program} {tab:TabF} {n:Nat} {W0:Fra} {Z:Exit->Act->World->Prop} {c1 c2:List Code} {S S2:Shape} {q q2:Nat} {ins ins2:List (Option IntKind)} {J J2:Sig->Prop} {X:Ing} {Wt:Sw}
  (hm:P.follows .mixedOrders=true) (s:SegOk P tab n c1 S X Wt) (aX:X.m=q/\X.ins=ins) (hJ: ∀V U,Agree q V U->J V->J U) (hr: ∀U,J U->Qd8 U X.rows)
  (next:Qf P tab n W0 Z c2 S2 q2 ins2 J2)
  (o: ∀U,Eqs U q X.G->U.tab=tab->Qx U q ins->J U->Qdp U (fun x s V2=>(x=.normal/\s=S2/\Qx V2 q2 ins2/\J2 V2/\V2.tab=tab)\/(x≠.normal/\EndZ tab n W0 Z x s V2)) Wt []) (hp: ∀i,W0.pin i≠none->pinW i Wt=true:=by exact fun _ h=>absurd rfl h):
  Qf P tab n W0 Z (c1++c2) S q ins J:=by
 intro a w V hA hi hj ht;obtain ⟨rfl,rfl⟩:=aX;have ag:=Qep X.G X.m V;have hi2:Qx (solve X.G X.m V) X.m X.ins:=by
  intro i k hi' hk;rw [<-(ag.val i hi').1];exact hi i k hi' hk
 have hj2:=hJ _ _ ag hj;have ob:=o _ (Qfy s.ok) (by rw [<-ag.tab];exact ht) hi2 hj2;rw [Qpc];refine s.run hm hA hi (hr _ hj2) ob ?_ hp;rintro e a' w' x s2 V2 hx hq hA2;rcases hq with ⟨rfl,rfl,gi,gj,gt⟩|⟨hne,hz⟩
 cases e<;>simp only [Qb6] at hx;exact next a' w' V2 hA2 gi gj gt;have:=hz e a' w' hx hA2;cases e with
 |normal=>cases x<;>simp only [Qb6] at hx;exact absurd rfl hne
 |_=>exact this
theorem Qf.last {P:Program} {tab:TabF} {n:Nat} {W0:Fra} {Z:Exit->Act->World->Prop} {c1:List Code} {S:Shape} {q:Nat} {ins:List (Option IntKind)} {J:Sig->Prop} {X:Ing} {Wt:Sw}
  (hm:P.follows .mixedOrders=true) (s:SegOk P tab n c1 S X Wt) (aX:X.m=q/\X.ins=ins) (hJ: ∀V U,Agree q V U->J V->J U) (hr: ∀U,J U->Qd8 U X.rows)
  (o: ∀U,Eqs U q X.G->U.tab=tab->Qx U q ins->J U->Qdp U (EndZ tab n W0 Z) Wt []) (hp: ∀i,W0.pin i≠none->pinW i Wt=true:=by exact fun _ h=>absurd rfl h):
  Qf P tab n W0 Z c1 S q ins J:=by
 intro a w V hA hi hj ht;obtain ⟨rfl,rfl⟩:=aX;have ag:=Qep X.G X.m V;have hi2:Qx (solve X.G X.m V) X.m X.ins:=by
  intro i k hi' hk;rw [<-(ag.val i hi').1];exact hi i k hi' hk
 have hj2:=hJ _ _ ag hj;refine s.run hm hA hi (hr _ hj2) (o _ (Qfy s.ok) (by rw [<-ag.tab];exact ht) hi2 hj2) ?_ hp;rintro e a' w' x s2 V2 hx hz hA2;have:=hz e a' w' hx hA2;cases e with
 |normal=>exact this
 |_=>exact this
theorem Qf.loop {P:Program} {tab:TabF} {n:Nat} {W0:Fra} {Z:Exit->Act->World->Prop} {b:Code} {id:Nat} {c2:List Code} {S S2:Shape} {q q2:Nat} {ins ins2:List (Option IntKind)} {J J2:Sig->Prop} {X:Ing} {Wt:Sw} {μ:Sig->Nat}
  (hm:P.follows .mixedOrders=true) (s:SegOk P tab n [b] S X Wt) (aX:X.m=q/\X.ins=ins) (hJ: ∀V U,Agree q V U->J V->J U) (hμ: ∀V U,Agree q V U->μ V=μ U) (hr: ∀U,J U->Qd8 U X.rows)
  (next:Qf P tab n W0 Z c2 S2 q2 ins2 J2)
  (o: ∀U,Eqs U q X.G->U.tab=tab->Qx U q ins->J U->Qdp U (fun x s V2=>(x=.normal/\s=S/\Qx V2 q ins/\J V2/\V2.tab=tab/\μ V2<μ U)\/(x=.exit id/\s=S2/\Qx V2 q2 ins2/\J2 V2/\V2.tab=tab)
   \/(x=.ret/\EndZ tab n W0 Z x s V2)) Wt []) (hp: ∀i,W0.pin i≠none->pinW i Wt=true:=by exact fun _ h=>absurd rfl h):
  Qf P tab n W0 Z (.block id (.loop b)::c2) S q ins J:=by
 intro a w V hA hi hj ht;obtain ⟨rfl,rfl⟩:=aX;show (Code.block id (.loop b)).wpIn (FR none) 0 P _ a w;refine wpIn_block ?_
 let Inv:Nat->Act->World->Prop:=fun k a w=> ∃V,At tab S n V W0 a w/\Qx V X.m X.ins/\J V/\V.tab=tab/\k=μ V
 refine Qv5 (Inv:=Inv) ?_ (μ V) a w ⟨V,hA,hi,hj,ht,rfl⟩;clear hA hi hj ht a w;rintro k a w ⟨V,hA,hi,hj,ht,rfl⟩;have ag:=Qep X.G X.m V;have hi2:Qx (solve X.G X.m V) X.m X.ins:=by
  intro i k hi' hk;rw [<-(ag.val i hi').1];exact hi i k hi' hk
 have hj2:=hJ _ _ ag hj;have ob:=o _ (Qfy s.ok) (by rw [<-ag.tab];exact ht) hi2 hj2;have:=s.run hm hA hi (hr _ hj2) ob (K:=fun a' w'=> ∃k',k'<μ V/\Inv k' a' w')
  (Z:=fun e a' w'=>(e=.normal/\ ∃k',k'<μ V/\Inv k' a' w')\/(e≠.normal/\Exit.inBlock id (Exit.then (Qc2 P c2 (Z .normal) Z) Z) e a' w')) ?_ hp
 ·simp only [Qc2] at this
  refine wpIn_mono this fun e a' w' h=> ?_;cases e with
  |normal=>exact .inl ⟨rfl,h⟩
  |_=>exact h
 rintro e a' w' x s3 V3 hx hq0 hA3;rcases hq0 with ⟨rfl,rfl,gins,gj,gtab,glt⟩|⟨rfl,rfl,gins,gk,gtab⟩|⟨rfl,gd⟩;cases e<;>simp only [Qb6] at hx;exact ⟨μ V3,by rw [hμ _ _ ag];exact glt,V3,hA3,gins,gj,gtab,rfl⟩;cases e<;>simp only [Qb6] at hx;subst hx;refine .inr ⟨by simp,?_⟩;simp only [Exit.inBlock,if_true];exact next a' w' V3 hA3 gins gk gtab;cases e<;>simp only [Qb6] at hx;exact .inr ⟨by simp,gd .ret a' w' trivial hA3⟩
def Qid (j:Nat) (c:Code):Code:=
 match (Qe c)[j]? with
 |some (.block _ (.loop b))=>b
 |_=> .skip
end Go.Ev
namespace Go.Ev
open Go.RowKit
set_option linter.unusedVariables false
set_option linter.unusedSimpArgs false
set_option linter.unnecessarySimpa false
def BlkZ (P:Program) (id:Nat) (c2:List Code) (Z:Exit->Act->World->Prop):Exit->Act->World->Prop:=
 Exit.inBlock id (Exit.then (Qc2 P c2 (Z .normal) Z) Z)
def Qfs (P:Program) (id:Nat) (c2:List Code) (Z:Exit->Act->World->Prop) (I:Nat->Act->World->Prop) (k:Nat):Exit->Act->World->Prop:=
 fun e a w=>(e=.normal/\ ∃k',k'<k/\I k' a w)\/(e≠.normal/\BlkZ P id c2 Z e a w)
def InvS (tab:TabF) (n:Nat) (W0:Fra) (S:Shape) (q:Nat) (ins:List (Option IntKind)) (J:Sig->Prop) (μ:Sig->Nat):Nat->Act->World->Prop:=
 fun k a w=> ∃V,At tab S n V W0 a w/\Qx V q ins/\J V/\V.tab=tab/\k=μ V
theorem EndZ.blk {P:Program} {tab:TabF} {n:Nat} {W0:Fra} {Z:Exit->Act->World->Prop} {id:Nat} {c2:List Code} {S:Shape} {q:Nat} {ins:List (Option IntKind)} {J:Sig->Prop} {x:SEx} {V:Sig}
  (h:Qf P tab n W0 Z c2 S q ins J) (hx:x=.normal\/x=.exit id) (hi:Qx V q ins) (hj:J V) (ht:V.tab=tab):EndZ tab n W0 (BlkZ P id c2 Z) x S V:=by
 intro e a w hxe hA;have:=h a w V hA hi hj ht;rcases hx with rfl|rfl
 cases e<;>simp only [Qb6] at hxe;exact this;cases e<;>simp only [Qb6] at hxe;subst hxe;simp only [BlkZ,Exit.inBlock,if_true];exact this
theorem EndZ.ret {P:Program} {tab:TabF} {n:Nat} {W0:Fra} {Z:Exit->Act->World->Prop} {id:Nat} {c2:List Code} {s:Shape} {V:Sig}
  (h:EndZ tab n W0 Z .ret s V):EndZ tab n W0 (BlkZ P id c2 Z) .ret s V:=by
 intro e a w hxe hA;have:=h e a w hxe hA;cases e<;>simp only [Qb6] at hxe;exact this
theorem EndZ.loop {P:Program} {tab:TabF} {n:Nat} {W0:Fra} {Z:Exit->Act->World->Prop} {id:Nat} {c2:List Code} {S:Shape} {q:Nat} {ins:List (Option IntKind)} {J:Sig->Prop} {μ:Sig->Nat} {k:Nat} {V:Sig}
  (hi:Qx V q ins) (hj:J V) (ht:V.tab=tab) (hk:μ V<k):EndZ tab n W0 (Qfs P id c2 Z (InvS tab n W0 S q ins J μ) k) .normal S V:=by
 intro e a w hxe hA;cases e<;>simp only [Qb6] at hxe;exact .inl ⟨rfl,μ V,hk,V,hA,hi,hj,ht,rfl⟩
theorem EndZ.out {P:Program} {tab:TabF} {n:Nat} {W0:Fra} {Z:Exit->Act->World->Prop} {id:Nat} {c2:List Code} {I:Nat->Act->World->Prop} {k:Nat} {x:SEx} {s:Shape} {V:Sig}
  (hx:x≠.normal) (h:EndZ tab n W0 (BlkZ P id c2 Z) x s V):EndZ tab n W0 (Qfs P id c2 Z I k) x s V:=by
 intro e a w hxe hA;refine .inr ⟨?_,h e a w hxe hA⟩;rintro rfl;cases x<;>simp only [Qb6] at hxe;exact hx rfl
theorem Qf.loopS {P:Program} {tab:TabF} {n:Nat} {W0:Fra} {Z:Exit->Act->World->Prop} {b:Code} {id:Nat} {c2:List Code} {S:Shape} {q:Nat} {ins:List (Option IntKind)} {J:Sig->Prop} {μ:Sig->Nat}
  (body: ∀k,Qf P tab n W0 (Qfs P id c2 Z (InvS tab n W0 S q ins J μ) k) (Qe b) S q ins (fun V=>J V/\μ V=k)):
  Qf P tab n W0 Z (.block id (.loop b)::c2) S q ins J:=by
 intro a w V hA hi hj ht;show (Code.block id (.loop b)).wpIn (FR none) 0 P _ a w;refine wpIn_block ?_;refine Qv5 (Inv:=InvS tab n W0 S q ins J μ) ?_ (μ V) a w ⟨V,hA,hi,hj,ht,rfl⟩;clear hA hi hj ht a w;rintro k a w ⟨V,hA,hi,hj,ht,rfl⟩;have:=Ql4 _ (body (μ V) a w V hA hi ⟨hj,rfl⟩ ht);rwa [Qsw] at this
theorem Qbcq {X Y:Fz} {V:Sig} (h:V.ext=fun i=>if i=0 then some X else none) {i:Nat} (hi:V.ext i=some Y):Y=X:=by
 rw [h] at hi;have hi:(if i=0 then some X else none)=some Y:=hi;split at hi;cases hi;rfl;cases hi
theorem Agree.trans' {q:Nat} {V U υ:Sig} (h1:Agree q V U) (h2:Agree q U υ):Agree q V υ:=
 ⟨fun i hi=>⟨(h1.val i hi).1.trans (h2.val i hi).1,(h1.val i hi).2.1.trans (h2.val i hi).2.1,(h1.val i hi).2.2.trans (h2.val i hi).2.2⟩,h1.tab.trans h2.tab,h1.ext.trans h2.ext⟩
end Go.Ev
namespace Go.Ev
open Go.RowKit
set_option linter.unusedVariables false
set_option linter.unusedSimpArgs false
set_option linter.unnecessarySimpa false
structure AsOk (P:Program) (fAs:FuncId) (tF tPP:TypeId) (blk:Nat) (OK:Obj->Prop):Prop where
 nil: ∀(t:Value) (w:World),Calls P fAs #[.nilIface,t] w fun e w'=>e=.returned (.bool false)/\w'=w
 hit: ∀(p t:Addr) (old:Value) (w:World) (O:Obj),OK O->w.heap[blk]? =some O->w.cell? t=some old->w.frozen? t=false->
  Calls P fAs #[.iface tF (.pointer (some p)),.iface tPP (.pointer (some t))] w fun e w'=>e=.returned (.bool true)/\ ∃w1,Below w.heap.size w w1/\(Instr.storeAt tF (.pointer (some t)) (.pointer (some p))).run P w1=.ok () w'
structure IsOk (P:Program) (fIs:FuncId) (tF tE:TypeId):Prop where
 hit: ∀(p:Addr) (c c':Int) (w:World),w.cell? p=some (.int .i64 c')->
  Calls P fIs #[.iface tF (.pointer (some p)),.iface tE (.int .i64 c)] w fun e w'=>e=.returned (.bool (c'==c))/\Below w.heap.size w w'
def isMh (look:SDef->Option AVal) (a c:AVal):Option AVal:=
 match a,c with
 |.int .i64 x,.int .i64 y=>some (.bool (x==y))
 |a,c=>match Qjs a&&Qjs c with
  |true=>look (.bin .eql a c)
  |false=>none
def asMh (P:Program) (fAs:FuncId) (tF tPP:TypeId) (fIs:FuncId) (tE:TypeId):Qe1:=fun look f args hp=>
 match Nat.beq f fAs with
 |true=>match args with
  |[.niliface,_]=>some (.bool false,hp)
  |[.iface t (.ptr b off),.iface t2 (.ptr tb o2)]=>match Nat.beq t tF&&Nat.beq t2 tPP with
   |true=>match Qgp P tF (.ptr tb o2) (.ptr b off) hp with
    |some hp'=>some (.bool true,hp')
    |none=>none
   |false=>none
  |_=>none
 |false=>match Nat.beq f fIs with
  |true=>match args with
   |[.iface t (.ptr b off),.iface t2 c]=>match Nat.beq t tF&&Nat.beq t2 tE with
    |true=>match hp.heap[b]? with
     |some (.cells cs _)=>match cs[off]? with
      |some a=>match isMh look a c with
       |some v=>some (v,hp)
       |none=>none
      |none=>none
     |_=>none
    |false=>none
   |_=>none
  |false=>none
theorem Qbnu {P:Program} {ty:TypeId} {a v:AVal} {hp hp':Hp} (h:Qgp P ty a v hp=some hp'):Touch hp hp':=by
 unfold Qgp at h;split at h;split at h;rename_i hb;split at h;split at h;split at h;cases h;exact Qsk hb;cases h;cases h;cases h;cases h;cases h
theorem Qbnt {P:Program} {ty:TypeId} {b off:Nat} {v:AVal} {hp hp':Hp} (h:Qgp P ty (.ptr b off) v hp=some hp'): ∃c e,hp.heap[b]? =some (.cells c e)/\(Q6 v).length<=c.length-off:=by
 unfold Qgp at h;split at h;rename_i b' off' e;cases e;split at h;rename_i c e hb;split at h;split at h;rename_i hc;exact ⟨c,e,hb,by omega⟩;cases h;cases h;cases h;rename_i hne;exact absurd rfl (hne _ _)
def Qdr (blk:Nat) (OK:Obj->Prop) (V:Sig):Prop:= ∃r Y O,V.ext r=some Y/\0<Y.len/\Y.blk=blk/\Y.obj=some O/\OK O
theorem Q7k {ng:Cx} {g:Inj} {H:List Blk} {w:World} {blk:Nat} {OK:Obj->Prop} (hH:HRel ng g H w) (h:Qdr blk OK g.sig): ∃O,OK O/\w.heap[blk]? =some O:=by
 obtain ⟨r,Y,O,h1,h2,rfl,h4,h5⟩:=h;obtain ⟨_,_,_,_,_,k⟩:=(hH.frz.row r Y h1 h2).1;exact ⟨O,h5,k O h4⟩
theorem Qyw {P:Program} {X:Ing} {fAs fIs:FuncId} {tF tPP tE:TypeId} {blk:Nat} {OK:Obj->Prop} (hT:okLT X.m X.G X.T=true) (ha:AsOk P fAs tF tPP blk OK) (hi:IsOk P fIs tF tE)
  (hinv: ∀V,X.inv V->Qdr blk OK V) (F:List Fact) (f:FuncId) (args:List AVal) (hp:Hp) (v:AVal) (hp':Hp) (h:asMh P fAs tF tPP fIs tE (symS (Q5 X F)) f args hp=some (v,hp')):CallP P (cxOf X F) f args hp (.val v) hp':=by
 unfold asMh at h;split at h;rename_i hf;have hf:=Nat.eq_of_beq_eq_true hf;subst hf;split at h
 ·cases h
  refine Qy8 (fun g w args' hg hl=> ?_) hp;obtain ⟨l⟩:=args';cases hl with
  |cons _ u1 _ _ h1 hl=>
  cases hl with
  |cons _ u2 _ _ h2 hl=>
  cases hl;cases h1;refine (ha.nil u2 w).mono ?_;rintro e w' ⟨rfl,rfl⟩;exact ⟨_,rfl,.bool _,Below.refl _ _⟩
 rename_i t b off t2 tb o2;split at h;rename_i ht;rw [Bool.and_eq_true] at ht;obtain ⟨ht1,ht2⟩:=ht;have ht1:=Nat.eq_of_beq_eq_true ht1;have ht2:=Nat.eq_of_beq_eq_true ht2;subst ht1;subst ht2;split at h
 ·rename_i hq hs
  cases h;refine ⟨Qbnu hs,fun g w args' hH hl=> ?_⟩;obtain ⟨l⟩:=args';cases hl with
  |cons _ u1 _ _ h1 hl=>
  cases hl with
  |cons _ u2 _ _ h2 hl=>
  cases hl;cases h1 with
  |iface _ _ p1 hp1=>
  cases h2 with
  |iface _ _ p2 hp2=>
  have hpp1:=hp1;have hpp2:=hp2;cases hp1 with
  |ptr _ _ L1 hL1=>
  cases hp2 with
  |ptr _ _ L2 hL2=>
  obtain ⟨c,e,hb,hlen⟩:=Qbnt hs;obtain ⟨M,hM,C,fr,k1,k2,k3,k4,k5⟩:=hH.blk tb _ hb (by simp);rw [hL2] at hM;cases hM;have hlen:1<=c.length-o2:=hlen;have hlt:L2.dl+o2<C.size:=by omega
  have hcell:w.cell? ⟨L2.blk,L2.dl+o2,none⟩=some C[L2.dl+o2]:=by
   rw [Qdw k1];simp [hlt]
  have hfro:w.frozen? ⟨L2.blk,L2.dl+o2,none⟩=false:=by
   have:=k3.1 _ hlt;unfold World.frozen?;simp only [k1];simp only [Bool.and_eq_false_iff,decide_eq_false_iff_not];omega
  obtain ⟨O,hO1,hO2⟩:=Q7k hH (hinv _ hH.sig.ok.2.inv);refine (ha.hit ⟨L1.blk,L1.dl+off,none⟩ ⟨L2.blk,L2.dl+o2,none⟩ _ w O hO1 hO2 hcell hfro).mono ?_;rintro e w' ⟨rfl,w1,hB,hrun⟩;obtain ⟨g1,g2⟩:=hH.below hB;obtain ⟨w2,r1,r2,r3⟩:=Q89 (P:=P) g1 hs hpp2 hpp1;rw [r1] at hrun;cases hrun;exact ⟨g,⟨_,rfl,.bool _⟩,r2,g2.trans hH r3⟩
 cases h;cases h;cases h;split at h;rename_i hf;have hf:=Nat.eq_of_beq_eq_true hf;subst hf;split at h;rename_i t b off t2 c;split at h;rename_i ht;rw [Bool.and_eq_true] at ht;obtain ⟨ht1,ht2⟩:=ht;have ht1:=Nat.eq_of_beq_eq_true ht1;have ht2:=Nat.eq_of_beq_eq_true ht2;subst ht1;subst ht2;split at h;rename_i cs ce hb;split at h;rename_i a hca;split at h
 ·rename_i v' hv
  cases h;refine ⟨Touch.refl _,fun g w args' hH hl=> ?_⟩;obtain ⟨l⟩:=args';cases hl with
  |cons _ u1 _ _ h1 hl=>
  cases hl with
  |cons _ u2 _ _ h2 hl=>
  cases hl;cases h1 with
  |iface _ _ p1 hp1=>
  cases h2 with
  |iface _ _ p2 hp2=>
  cases hp1 with
  |ptr _ _ L1 hL1=>
  obtain ⟨M,hM,C,fr,k1,k2,k3,k4,k5⟩:=hH.blk b _ hb (by simp);rw [hL1] at hM;cases hM;obtain ⟨y,y1,y2,y3⟩:=k5 off a hca;have go: ∀(x z:Int),den g.sig a=.int .i64 x->den g.sig c=.int .i64 z->VRel g v (.bool (x==z))->
    Calls P f #[.iface t (.pointer (some ⟨L1.blk,L1.dl+off,none⟩)),.iface t2 p2] w fun e w'=> ∃g',Qla g' (.val v) e/\HRel (cxOf X F) g' hp.heap w'/\Ext g hp.heap w g' hp.heap w':=by
   intro x z dx dz hvz;have e1:y=.int .i64 x:=by
    have:=Qn.2 y2;rw [dx] at this;cases this;rfl
   have e2:p2=.int .i64 z:=by
    have:=Qn.2 hp2;rw [dz] at this;cases this;rfl
   subst e1;subst e2;refine (hi.hit ⟨L1.blk,L1.dl+off,none⟩ z x w (by rw [Qdw k1];exact y1)).mono ?_;rintro e w' ⟨rfl,hB⟩;obtain ⟨g1,g2⟩:=hH.below hB;exact ⟨g,⟨_,rfl,hvz⟩,g1,g2⟩
  unfold isMh at hv;split at hv;rename_i x z;cases hv;exact go x z rfl rfl (.bool _);split at hv;rename_i hi;rw [Bool.and_eq_true] at hi;obtain ⟨x,hx⟩:=Qql hi.1 g.sig;obtain ⟨z,hz⟩:=Qql hi.2 g.sig;obtain ⟨q,q1,q2⟩:=Qv4 hT hH.sig hv;refine go x z hx hz (q2 _ ?_);simp only [Qb,hx,hz,binS,intA,if_true,Option.some.injEq] at q1;subst q1;exact .bool _;cases hv
 cases h;cases h;cases h;cases h;cases h;cases h
theorem Qbao {P:Program} {X:Ing} {fAs fIs:FuncId} {tF tPP tE:TypeId} {blk:Nat} {OK:Obj->Prop} (hX:X.mh=asMh P fAs tF tPP fIs tE) (hT:okLT X.m X.G X.T=true) (ha:AsOk P fAs tF tPP blk OK) (hi:IsOk P fIs tF tE)
  (hinv: ∀V,X.inv V->Qdr blk OK V) (F:List Fact) (f:FuncId) (args:List AVal) (hp:Hp) (v:AVal) (hp':Hp) (h:(cxOf X F).mhook f args hp=some (v,hp')):CallP P (cxOf X F) f args hp (.val v) hp':=by
 replace h:X.mh (symS (Q5 X F)) f args hp=some (v,hp'):=h;rw [hX] at h;exact Qyw hT ha hi hinv F f args hp v hp' h
theorem Qbba {P:Program} {X:Ing} {mb:Bool} {fuel d:Nat} {f:FuncId} {Y:Fz} (hX:X.m=0/\X.G=[]/\X.T=.e/\X.n=0/\X.rows=[]/\X.cuts=[]) (hinv: ∀V,(V.ext=fun i=>if i=0 then some Y else none)->X.inv V) (hkt:okKt X=true:=by exact rfl) (hm:P.follows .mixedOrders=true) (hh: ∀F,Hooks P (cxOf X F)) (h:Qev ((evD P (cxOf X) mb fuel d).1 [] f [] ⟨[],[]⟩)=true) (w:World) (hY:FzOk Y w):
  Calls P f #[] w fun e w'=>e=.returned (.bool true)/\RowKit.Below w.heap.size w w':=by
 obtain ⟨x1,x2,x3,x4,x5,x6⟩:=hX
 let V:Sig:=⟨fun _=>0,fun _=>false,fun _=> .empty,X.tab,fun i=>if i=0 then some Y else none⟩
 have hb:BaseOk X V:=⟨by rw [x2];intro k d h;simp at h,rfl,fun i k hi _=>by omega,by rw [x5];exact Qv,by rw [x6];exact Qlr,hinv _ rfl,hkt⟩;have hg:=Qpg (X:=X) (F:=[]) (V:=V) (by rw [x3];rfl) hb trivial;have h0:HRel (cxOf X []) ⟨fun _=>none,V,fun _=>none⟩ [] w:=⟨fun i L hi=>by simp at hi,fun i j L M hi=>by simp at hi,fun i k hi=>by simp at hi,fun i hi=>by have:(cxOf X []).n=0:=x4;omega,hg,
  ⟨fun i Z hi _=>by have:=Qbcq (V:=V) rfl hi;subst this;exact ⟨hY,fun j L hj=>by cases hj⟩,(fun i Y hi=>by cases hi),fun i Z h0 hi=>by have h9:(if i=0 then _ else none)=some Z:=hi;(rw [if_neg (by omega)] at h9;cases h9)⟩⟩
 refine ((Qpx (mb:=mb) (fuel:=fuel) hm (cx_ok (by rw [x3];rfl)) hh d).call [] f [] ⟨[],[]⟩ (fun x=>x.1=.val (.bool true)) ⟨fun _=>none,V,fun _=>none⟩ w #[] h0 .nil (Quu h)).mono ?_;rintro e w' ⟨x,hq,_,g',h1,h2,h3⟩;rw [hq] at h1;obtain ⟨u,rfl,hu⟩:=h1;cases hu;exact ⟨rfl,h3.os,h3.tape,h3.output,h3.size,fun k hk=>h3.frame k hk (fun i L hi=>by simp at hi)⟩
def Qsx (fs:List Nat):Qe1:=fun _ f args hp=>
 match args with
 |[]=>match fs.any (Nat.beq f) with
  |true=>some (.bool true,hp)
  |false=>none
 |_=>none
structure SegOkI (P:Program) (tab:TabF) (n:Nat) (c:List Code) (s:Shape) (X:Ing) (W:Sw):Prop where
 lt:okLT X.m X.G X.T=true
 ok:okG X.G X.m=true
 hook: ∀F,Hooks P (cxOf X F)
 n0:X.n=0
 id:idOk s X.m=true
 reck:okSw (fun F=>runL P (cxOf X) true X.fu (evD P (cxOf X) true X.fu 40).1 (evD P (cxOf X) true X.fu 40).2 c F (tmOf s n) ⟨s.heap,[]⟩) W []=true
 tab:X.tab=tab
 cuts:X.cuts=[]
 kt:okKt X=true:=by exact rfl
theorem Qf.segI {P:Program} {tab:TabF} {n:Nat} {W0:Fra} {Z:Exit->Act->World->Prop} {c1 c2:List Code} {S S2:Shape} {q q2:Nat} {ins ins2:List (Option IntKind)} {J J2:Sig->Prop} {X:Ing} {Wt:Sw}
  (hm:P.follows .mixedOrders=true) (s:SegOkI P tab n c1 S X Wt) (aX:X.m=q/\X.ins=ins) (hJ: ∀V U,Agree q V U->J V->J U) (hr: ∀U,J U->Qd8 U X.rows) (hinv: ∀U,J U->X.inv U)
  (next:Qf P tab n W0 Z c2 S2 q2 ins2 J2)
  (o: ∀U,Eqs U q X.G->U.tab=tab->Qx U q ins->J U->Qdp U (fun x s V2=>(x=.normal/\s=S2/\Qx V2 q2 ins2/\J2 V2/\V2.tab=tab)\/(x≠.normal/\EndZ tab n W0 Z x s V2)) Wt []) (hp: ∀i,W0.pin i≠none->pinW i Wt=true:=by exact fun _ h=>absurd rfl h):
  Qf P tab n W0 Z (c1++c2) S q ins J:=by
 intro a w V hA hi hj ht;obtain ⟨rfl,rfl⟩:=aX;have ag:=Qep X.G X.m V;have hi2:Qx (solve X.G X.m V) X.m X.ins:=by
  intro i k hi' hk;rw [<-(ag.val i hi').1];exact hi i k hi' hk
 have hj2:=hJ _ _ ag hj;have ob:=o _ (Qfy s.ok) (by rw [<-ag.tab];exact ht) hi2 hj2;rw [Qpc];have ht':=s.tab;subst ht';refine segL hm s.lt s.ok s.hook s.n0 s.id s.reck hA hi ob ?_ (hr _ hj2) (by rw [s.cuts];exact Qlr) (hinv _ hj2) s.kt hp;rintro e a' w' x s2 V2 hx hq hA2;rcases hq with ⟨rfl,rfl,gi,gj,gt⟩|⟨hne,hz⟩
 cases e<;>simp only [Qb6] at hx;exact next a' w' V2 hA2 gi gj gt;have:=hz e a' w' hx hA2;cases e with
 |normal=>cases x<;>simp only [Qb6] at hx;exact absurd rfl hne
 |_=>exact this
end Go.Ev
namespace Go.Ev
open Go.RowKit
set_option linter.unusedVariables false
set_option linter.unusedSimpArgs false
def orMh (a b:Qe1):Qe1:=fun look f args hp=>
 match a look f args hp with
 |some r=>some r
 |none=>b look f args hp
end Go.Ev
namespace Go.Ev
open Go.RowKit
set_option linter.unusedVariables false
set_option linter.unusedSimpArgs false
mutual
def Qwq:AVal->Bool
 |.bool _=>true
 |.int _ _=>true
 |.float _ _=>true
 |.str _=>true
 |.nilptr=>true
 |.ptr _ _=>true
 |.nilslice=>true
 |.slice _ _ _ _ _=>true
 |.nilmap=>true
 |.nilfunc=>true
 |.func _ f c=>Qkh f&&Qkh c
 |.niliface=>true
 |.iface _ v=>Qwq v
 |.agg l=>Qkh l
 |.tuple l=>Qkh l
 |_=>false
def Qkh:List AVal->Bool
 |[]=>true
 |a::l=>Qwq a&&Qkh l
end
def litB:Blk->Bool
 |.cells c _=>Qkh c
 |_=>false
def Q54:List Blk->Bool
 |[]=>true
 |k::l=>litB k&&Q54 l
end Go.Ev
namespace Go.Ev
open Go.RowKit
set_option linter.unusedVariables false
set_option linter.unusedSimpArgs false
mutual
def renV (ρ:Nat->Nat):AVal->AVal
 |.ptr b o=> .ptr (ρ b) o
 |.slice b o l c e=> .slice (ρ b) o l c e
 |.func fn f c=> .func fn (Qkq ρ f) (Qkq ρ c)
 |.iface t v=> .iface t (renV ρ v)
 |.agg l=> .agg (Qkq ρ l)
 |.tuple l=> .tuple (Qkq ρ l)
 |a=>a
def Qkq (ρ:Nat->Nat):List AVal->List AVal
 |[]=>[]
 |a::l=>renV ρ a::Qkq ρ l
end
def renB (ρ:Nat->Nat):Blk->Blk
 |.cells c e=> .cells (Qkq ρ c) e
 |k=>k
structure MemF where
 f:FuncId
 args:List AVal
 pre:List Blk
 v:AVal
 post:List Blk
mutual
def uV (m:List Nat):AVal->AVal->List Nat
 |.ptr b _,.ptr x _=>match Nat.beq b m.length with
  |true=>m++[x]
  |false=>m
 |.slice b _ _ _ _,.slice x _ _ _ _=>match Nat.beq b m.length with
  |true=>m++[x]
  |false=>m
 |.lsl b _ _ _ _,.lsl x _ _ _ _=>match Nat.beq b m.length with
  |true=>m++[x]
  |false=>m
 |.func _ f c,.func _ f' c'=>uL (uL m f f') c c'
 |.iface _ v,.iface _ v'=>uV m v v'
 |.agg l,.agg l'=>uL m l l'
 |.tuple l,.tuple l'=>uL m l l'
 |_,_=>m
def uL (m:List Nat):List AVal->List AVal->List Nat
 |a::l,b::l'=>uL (uV m a b) l l'
 |_,_=>m
end
def uH (H:List Blk):List Blk->Nat->List Nat->List Nat
 |[],_,m=>m
 |.cells c _::ks,i,m=>match m[i]? with
  |some x=>match H[x]? with
   |some (.cells c' _)=>uH H ks (i+1) (uL m c c')
   |_=>m
  |none=>m
 |.lst _ _ _ _::ks,i,m=>uH H ks (i+1) m
 |_::_,_,m=>m
def zs:List Nat->Bm
 |[]=>[]
 |x::l=>(x,0)::zs l
theorem Q96: ∀{l:List Nat} {i x sh:Nat},(zs l)[i]? =some (x,sh)->l[i]? =some x/\sh=0
 |[],i,x,sh,h=>by simp [zs] at h
 |y::l,0,x,sh,h=>by
  simp [zs] at h;obtain ⟨rfl,rfl⟩:=h;exact ⟨rfl,rfl⟩
 |y::l,i+1,x,sh,h=>by simpa using Q96 (l:=l) (i:=i) (by simpa [zs] using h)
theorem zs_of {l:List Nat}: ∀{i x:Nat},l[i]? =some x->(zs l)[i]? =some (x,0):=by
 induction l with
 |nil=>intro i x h;simp at h
 |cons y l ih=>
  intro i x h;cases i with
  |zero=>simp at h;simp [zs,h]
  |succ i=>simpa [zs] using ih (by simpa using h)
theorem Q97: ∀(l:List Nat),(zs l).length=l.length
 |[]=>rfl
 |_::l=>by simp [zs,Q97 l]
def rho (m:List Nat) (n:Nat) (i:Nat):Nat:=match m[i]? with
 |some x=>x
 |none=>i-m.length+n
def wr:List Nat->List Blk->List Blk->List Blk
 |[],bs,H=>H++bs
 |_::_,[],H=>H
 |x::m,b::bs,H=>wr m bs (H.set x b)
theorem Q93: ∀(m:List Nat) (bs H:List Blk),(wr m bs H).length=H.length+(bs.length-m.length)
 |[],bs,H=>by simp [wr]
 |_::_,[],H=>by simp [wr]
 |x::m,b::bs,H=>by simp [wr,Q93 m bs]
theorem Qyg: ∀(m:List Nat) (bs H:List Blk) (i:Nat),m.length<=bs.length->(wr m bs H)[H.length+i]? =bs[m.length+i]?
 |[],bs,H,i,_=>by rw [wr,List.getElem?_append_right (by omega)];simp
 |_::_,[],H,i,h=>by simp at h
 |x::m,b::bs,H,i,h=>by
  have:=Qyg m bs (H.set x b) i (by simpa using h);simp only [List.length_set] at this;simp only [wr,this,List.length_cons];rw [show m.length+1+i=(m.length+i)+1 by omega];simp
theorem Qk8: ∀(m:List Nat) (bs H:List Blk) (i:Nat),i<H.length->i∉m->(wr m bs H)[i]? =H[i]?
 |[],bs,H,i,h,_=>by simp [wr,List.getElem?_append_left h]
 |_::_,[],H,i,h,_=>by simp [wr]
 |x::m,b::bs,H,i,h,hn=>by
  simp only [List.mem_cons,not_or] at hn;rw [wr,Qk8 m bs _ i (by simpa using h) hn.2];exact List.getElem?_set_ne (fun e=>hn.1 e.symm)
theorem wr_at: ∀(m:List Nat) (bs H:List Blk) (j x:Nat),m.length<=bs.length->Qek (zs m)=true->(∀y,y∈m->y<H.length)->m[j]? =some x->(wr m bs H)[x]? =bs[j]?
 |[],bs,H,j,x,_,_,_,h=>by simp at h
 |_::_,[],H,j,x,h,_,_,_=>by simp at h
 |y::m,b::bs,H,j,x,hl,hn,hd,h=>by
  simp only [zs,Qek,Bool.and_eq_true] at hn;cases j with
  |zero=>
   simp at h;subst h;have hnot:y∉m:=fun hm=>by
    obtain ⟨i,hi⟩:=List.mem_iff_getElem?.1 hm;exact Qrp hn.1 i y 0 (zs_of hi) rfl
   have hlt:=hd y (by simp);rw [wr,Qk8 m bs _ y (by simpa using hlt) hnot];simp [hlt]
  |succ j=>
   rw [wr,wr_at m bs _ j x (by simpa using hl) hn.2 (fun z hz=>by simpa using hd z (by simp [hz])) (by simpa using h)];simp
def Qv0:List Blk->Bool
 |[]=>true
 |.gone::l=>Qv0 l
 |k::l=>litB k&&Qv0 l
structure LitRel (g:Inj) (H:List Blk) (w:World):Prop where
 dom: ∀i L,g i=some L->i<H.length/\L.blk<w.heap.size
 inj: ∀i j L M,g i=some L->g j=some M->L.blk=M.blk->Live H i->Live H j->i=j
 blk: ∀i k,H[i]? =some k->k≠.gone-> ∃L,g i=some L/\BRel g w k L
def sgz (tab:Nat->List Int->Int):Sig:=⟨fun _=>0,fun _=>false,fun _=> .empty,tab,fun _=>none⟩
def Q98 (P:Program) (tab:Nat->List Int->Int) (e:MemF):Prop:=
 Qwq e.v=true/\Q54 e.pre=true/\Qv0 e.post=true/\e.pre.length<=e.post.length/\ ∀(w:World) (l:Nat->Option Loc) (args':Array Value),LitRel ⟨l,sgz tab,fun _=>none⟩ e.pre w->LRel ⟨l,sgz tab,fun _=>none⟩ e.args args'.toList->Calls P e.f args' w fun en w'=>
  ∃(u:Value) (g1:Inj),en=.returned u/\VRel g1 e.v u/\LitRel g1 e.post w'/\(∀i,i<e.pre.length->g1 i=l i)/\(∀i L,e.pre.length<=i->g1 i=some L->w.heap.size<=L.blk\/ ∃j M,l j=some M/\M.blk=L.blk)/\
   w.heap.size<=w'.heap.size/\(∀b,b<w.heap.size->(∀i L,l i=some L->L.blk≠b)->w'.heap[b]? =w.heap[b]?)/\w'.os=w.os/\w'.tape=w.tape/\w'.output=w.output
def AllF (P:Program) (tab:Nat->List Int->Int) (l:List MemF):Prop:= ∀e,e∈l->Q98 P tab e
end Go.Ev
namespace Go.Ev
open Go.RowKit
set_option linter.unusedVariables false
set_option linter.unusedSimpArgs false
structure EnvS (V U:Sig) (env:TT):Prop where
 i: ∀i a k,env.get i=some a->skOf a=some (.i k)->den V a=.int k (U.i i)
 b: ∀i a,env.get i=some a->skOf a=some .b->den V a=.bool (U.b i)
 s: ∀i a,env.get i=some a->skOf a=some .s->den V a=.str (U.s i)
def sbA (env:TT) (a:AVal):Option AVal:=
 match a with
 |.symi k i=>match env.get i with
  |some v=>match skOf v with
   |some (.i k')=>match decide (k=k') with
    |true=>some v
    |false=>none
   |_=>none
  |none=>none
 |.symb i=>match env.get i with
  |some v=>match skOf v with
   |some .b=>some v
   |_=>none
  |none=>none
 |.syms i=>match env.get i with
  |some v=>match skOf v with
   |some .s=>some v
   |_=>none
  |none=>none
 |.int _ _=>some a
 |.bool _=>some a
 |.str _=>some a
 |_=>none
theorem Qbz {V U:Sig} {env:TT} (h:EnvS V U env) {a v:AVal} (he:sbA env a=some v):den V v=den U a:=by
 unfold sbA at he;split at he;rename_i k i;split at he;rename_i w hw;split at he;rename_i k' hk;split at he;rename_i hd;simp only [decide_eq_true_eq] at hd;subst hd;cases he;exact h.i i _ _ hw hk;cases he;cases he;cases he;rename_i i;split at he;rename_i w hw;split at he;rename_i hk;cases he;exact h.b i _ hw hk;cases he;cases he;rename_i i;split at he;rename_i w hw;split at he;rename_i hk;cases he;exact h.s i _ hw hk;cases he;cases he;cases he;rfl;cases he;rfl;cases he;rfl;cases he
def sbL (env:TT):List AVal->Option (List AVal)
 |[]=>some []
 |a::l=>match sbA env a with
  |some b=>match sbL env l with
   |some m=>some (b::m)
   |none=>none
  |none=>none
theorem Qiu {V U:Sig} {env:TT} (h:EnvS V U env): ∀{l m:List AVal},sbL env l=some m->m.map (den V)=l.map (den U)
 |[],m,he=>by simp only [sbL,Option.some.injEq] at he;subst he;rfl
 |a::l,m,he=>by
  simp only [sbL] at he;split at he;rename_i b hb;split at he;rename_i m' hm;cases he;simp only [List.map_cons,Qbz h hb,Qiu h hm];cases he;cases he
def sbP (env:TT):List (AVal×AVal)->Option (List (AVal×AVal))
 |[]=>some []
 |a::l=>match sbA env a.1 with
  |some b=>match sbA env a.2 with
   |some c=>match sbP env l with
    |some m=>some ((b,c)::m)
    |none=>none
   |none=>none
  |none=>none
theorem Q8y {V U:Sig} {env:TT} (h:EnvS V U env): ∀{l m:List (AVal×AVal)},sbP env l=some m->(m.all fun x=>eqS (den V x.1) (den V x.2))=(l.all fun x=>eqS (den U x.1) (den U x.2))
 |[],m,he=>by simp only [sbP,Option.some.injEq] at he;subst he;rfl
 |a::l,m,he=>by
  simp only [sbP] at he;split at he;rename_i b hb;split at he;rename_i c hc;split at he;rename_i m' hm;cases he;simp only [List.all_cons,Qbz h hb,Qbz h hc,Q8y h hm];cases he;cases he;cases he
def sbD (env:TT) (d:SDef):Option SDef:=
 match d with
 |.bin o a b=>match sbA env a,sbA env b with
  |some a,some b=>some (.bin o a b)
  |_,_=>none
 |.un o a=>match sbA env a with
  |some a=>some (.un o a)
  |none=>none
 |.conv k a=>match sbA env a with
  |some a=>some (.conv k a)
  |none=>none
 |.low l=>match sbL env l with
  |some l=>some (.low l)
  |none=>none
 |.high l=>match sbL env l with
  |some l=>some (.high l)
  |none=>none
 |.all l=>match sbP env l with
  |some l=>some (.all l)
  |none=>none
 |.fn i k l=>match sbL env l with
  |some l=>some (.fn i k l)
  |none=>none
 |.fnb i l=>match sbL env l with
  |some l=>some (.fnb i l)
  |none=>none
 |.ite c a b=>match sbA env c,sbA env a,sbA env b with
  |some c,some a,some b=>some (.ite c a b)
  |_,_,_=>none
 |.sop o l=>match sbL env l with
  |some l=>some (.sop o l)
  |none=>none
 |.text l=>match sbL env l with
  |some l=>some (.text l)
  |none=>none
 |_=>none
theorem Q8x {V U:Sig} {env:TT} (h:EnvS V U env) (ht:V.tab=U.tab) {d e:SDef} (he:sbD env d=some e):Qb V e=Qb U d:=by
 have num: ∀(ρ:Sig) (l:List AVal),(l.map fun a=>numS (den ρ a))=(l.map (den ρ)).map numS:=fun ρ l=>by simp
 have byt: ∀(ρ:Sig) (l:List AVal),(l.map fun a=>Qcr (den ρ a))=(l.map (den ρ)).map Qcr:=fun ρ l=>by simp
 cases d<;>simp only [sbD,reduceCtorEq] at he;split at he;rename_i a b ha hb;cases he;simp only [Qb,Qbz h ha,Qbz h hb];cases he;split at he;rename_i a ha;cases he;simp only [Qb,Qbz h ha];cases he;split at he;rename_i a ha;cases he;simp only [Qb,Qbz h ha];cases he;split at he;rename_i a ha;cases he;simp only [Qb,Qiu h ha];cases he;split at he;rename_i a ha;cases he;simp only [Qb,Qiu h ha];cases he;split at he;rename_i a ha;cases he;simp only [Qb];rw [Q8y h ha];cases he;split at he;rename_i a ha;cases he;simp only [Qb];rw [byt,byt,Qiu h ha];cases he;split at he;rename_i a ha;cases he;simp only [Qb];rw [num,num,Qiu h ha,ht];cases he;split at he;rename_i a ha;cases he;simp only [Qb];rw [num,num,Qiu h ha,ht];cases he;split at he;rename_i a b c ha hb hc;cases he;simp only [Qb,Qbz h ha,Qbz h hb,Qbz h hc];cases he;split at he;rename_i a ha;cases he;simp only [Qb,Qiu h ha,ht];cases he
def Qx0 (look:SDef->Option AVal) (env:TT) (d:SDef):Option AVal:=
 match Qcs d with
 |some _=>none
 |none=>
  let gen:Option AVal:=match sbD env d with
   |some e=>match Ql5 e with
    |some a=>some a
    |none=>look e
   |none=>none
  match d with
  |.ite c a b=>match sbA env c with
   |some (.bool true)=>sbA env a
   |some (.bool false)=>sbA env b
   |_=>gen
  |_=>gen
def Qfz (look:SDef->Option AVal):List SDef->Nat->TT->TT
 |[],_,env=>env
 |d::G,i,env=>match Qx0 look env d with
  |some a=>Qfz look G (i+1) (env.put i a)
  |none=>Qfz look G (i+1) env
theorem Qbnq {V U:Sig} {env:TT} {look:SDef->Option AVal} (h:EnvS V U env) (ht:V.tab=U.tab) (hl: ∀d r,look d=some r->Qb V d=some (den V r)) {d:SDef} {i:Nat} (he:Qcs d=none->Qb U d=some (den U (resS d i))) {a:AVal} (hs:Qx0 look env d=some a):den V a=den U (resS d i):=by
 unfold Qx0 at hs;split at hs;cases hs;rename_i hc;have he:=he hc;have gen: ∀b,(match sbD env d with
  |some e=>match Ql5 e with
   |some a=>some a
   |none=>look e
  |none=>none)=some b->den V b=den U (resS d i):=by
  intro b hb;split at hb;rename_i e hd;have h1:=Q8x h ht hd;split at hb;rename_i a' ha;cases hb;have:=Q1a (V:=V) ha;rw [h1,he,Option.some.injEq] at this;exact this.symm;have:=hl _ _ hb;rw [h1,he,Option.some.injEq] at this;exact this.symm;cases hb
 simp only at hs;split at hs;rename_i c x y;split at hs;rename_i hcc;have h1:=Qbz h hcc;simp only [Qb] at he;rw [<-h1] at he;simp only [den,cond_true,Option.some.injEq] at he;rw [Qbz h hs];exact he;rename_i hcc;have h1:=Qbz h hcc;simp only [Qb] at he;rw [<-h1] at he;simp only [den,cond_false,Option.some.injEq] at he;rw [Qbz h hs];exact he;exact gen _ hs;exact gen _ hs
theorem EnvS.put {V U:Sig} {env:TT} (h:EnvS V U env) {i:Nat} {a:AVal} {d:SDef} (ha:den V a=den U (resS d i)):EnvS V U (env.put i a):=by
 refine ⟨fun j b k hb hk=> ?_,fun j b hb hk=> ?_,fun j b hb hk=> ?_⟩<;>rcases TT.get_put _ _ _ _ _ hb with ⟨rfl,rfl⟩|⟨_,h2⟩
 obtain ⟨⟨n,hn⟩,_⟩:=sk_i hk V;rcases Qw8 d j with ⟨k',e⟩|e|e<;>rw [e,hn] at ha<;>simp only [den,AVal.int.injEq,reduceCtorEq] at ha;rw [hn,ha.2];exact h.i j b k h2 hk;obtain ⟨⟨n,hn⟩,_⟩:=sk_b hk V;rcases Qw8 d j with ⟨k',e⟩|e|e<;>rw [e,hn] at ha<;>simp only [den,AVal.bool.injEq,reduceCtorEq] at ha;rw [hn,ha];exact h.b j b h2 hk;obtain ⟨⟨n,hn⟩,_⟩:=sk_s hk V;rcases Qw8 d j with ⟨k',e⟩|e|e<;>rw [e,hn] at ha<;>simp only [den,AVal.str.injEq,reduceCtorEq] at ha;rw [hn,ha];exact h.s j b h2 hk
theorem Quc {V U:Sig} {look:SDef->Option AVal} (ht:V.tab=U.tab) (hl: ∀d r,look d=some r->Qb V d=some (den V r)): ∀{G:List SDef} {i:Nat} {env:TT},EnvS V U env->(∀k d,G[k]? =some d->Qcs d=none->Qb U d=some (den U (resS d (i+k))))->EnvS V U (Qfz look G i env)
 |[],_,_,h,_=>h
 |d::G,i,env,h,he=>by
  have hr: ∀k e,G[k]? =some e->Qcs e=none->Qb U e=some (den U (resS e (i+1+k))):=fun k e hk hc=>by
   have:=he (k+1) e (by simpa using hk) hc;rw [show i+1+k=i+(k+1) by omega];exact this
  simp only [Qfz];split;rename_i a ha;exact Quc ht hl (h.put (Qbnq h ht hl (he 0 d rfl) ha)) hr;exact Quc ht hl h hr
mutual
def sbV (env:TT) (ρ:Nat->Nat):AVal->Option AVal
 |.ptr b o=>some (.ptr (ρ b) o)
 |.slice b o l c e=>some (.slice (ρ b) o l c e)
 |.func fn f c=>match sbVs env ρ f,sbVs env ρ c with
  |some f,some c=>some (.func fn f c)
  |_,_=>none
 |.iface t v=>match sbV env ρ v with
  |some v=>some (.iface t v)
  |none=>none
 |.agg l=>match sbVs env ρ l with
  |some l=>some (.agg l)
  |none=>none
 |.tuple l=>match sbVs env ρ l with
  |some l=>some (.tuple l)
  |none=>none
 |.symi k i=>sbA env (.symi k i)
 |.symb i=>sbA env (.symb i)
 |.syms i=>sbA env (.syms i)
 |.int k n=>some (.int k n)
 |.bool b=>some (.bool b)
 |.str s=>some (.str s)
 |.nilptr=>some .nilptr
 |.nilslice=>some .nilslice
 |.nilmap=>some .nilmap
 |.nilfunc=>some .nilfunc
 |.niliface=>some .niliface
 |.row i=>some (.row i)
 |.crow i=>some (.crow i)
 |.rptr i ix j=>match sbA env ix with
  |some ix=>some (.rptr i ix j)
  |none=>none
 |.junk=>some .junk
 |.lsl b z ap off n=>match sbA env off with
  |some off=>match sbA env n with
   |some n=>some (.lsl (ρ b) z ap off n)
   |none=>none
  |none=>none
 |.lptr b z ix j=>match sbA env ix with
  |some ix=>some (.lptr (ρ b) z ix j)
  |none=>none
 |_=>none
def sbVs (env:TT) (ρ:Nat->Nat):List AVal->Option (List AVal)
 |[]=>some []
 |a::l=>match sbV env ρ a,sbVs env ρ l with
  |some b,some m=>some (b::m)
  |_,_=>none
end
theorem Qxu {g g2:Inj} {env:TT} (he:EnvS g2.sig g.sig env) {a a':AVal} {v:Value} (h:sbA env a=some a') (hv:VRel g a v):VRel g2 a' v:=by
 have hd:=Qbz he h;unfold sbA at h;split at h;cases hv;exact Qn.1 (by rw [hd];exact .int _ _);cases hv;exact Qn.1 (by rw [hd];exact .bool _);cases hv;exact Qn.1 (by rw [hd];exact .str _);cases h;cases hv;exact .int _ _;cases h;cases hv;exact .bool _;cases h;cases hv;exact .str _;cases h
mutual
theorem Qsj {ρ:Nat->Nat} {g g2:Inj} {env:TT} (hl: ∀i L,g i=some L->g2 (ρ i)=some L) (he:EnvS g2.sig g.sig env) (hx:g2.sig.ext=g.sig.ext): ∀{a a':AVal} {v:Value},VRel g a v->sbV env ρ a=some a'->VRel g2 a' v
 |_,_,_,.bool b,h=>by simp only [sbV,Option.some.injEq] at h;subst h;exact .bool b
 |_,_,_,.int k m,h=>by simp only [sbV,Option.some.injEq] at h;subst h;exact .int k m
 |_,_,_,.float k m,h=>by simp [sbV] at h
 |_,_,_,.str s,h=>by simp only [sbV,Option.some.injEq] at h;subst h;exact .str s
 |_,_,_,.nilptr,h=>by simp only [sbV,Option.some.injEq] at h;subst h;exact .nilptr
 |_,_,_,.ptr b off L h1,h=>by simp only [sbV,Option.some.injEq] at h;subst h;exact .ptr _ off L (hl _ _ h1)
 |_,_,_,.nilslice,h=>by simp only [sbV,Option.some.injEq] at h;subst h;exact .nilslice
 |_,_,_,.slice b off len cap ex o' cap' L h1 h0 h2 h3,h=>by simp only [sbV,Option.some.injEq] at h;subst h;exact .slice _ off len cap ex o' cap' L (hl _ _ h1) h0 h2 h3
 |_,_,_,.nilmap,h=>by simp only [sbV,Option.some.injEq] at h;subst h;exact .nilmap
 |_,_,_,.map _ _ _,h=>by simp [sbV] at h
 |_,_,_,.nilfunc,h=>by simp only [sbV,Option.some.injEq] at h;subst h;exact .nilfunc
 |_,_,_,.func fn f c f' c' h1 h2,h=>by
  simp only [sbV] at h;split at h;rename_i f2 c2 e1 e2;cases h;exact .func fn _ _ f' c' (Qoh hl he hx h1 e1) (Qoh hl he hx h2 e2);cases h
 |_,_,_,.niliface,h=>by simp only [sbV,Option.some.injEq] at h;subst h;exact .niliface
 |_,_,_,.iface t v v' h1,h=>by
  simp only [sbV] at h;split at h;rename_i v2 e;cases h;exact .iface t _ v' (Qsj hl he hx h1 e);cases h
 |_,_,_,.agg l l' h1,h=>by
  simp only [sbV] at h;split at h;rename_i v2 e;cases h;exact .agg _ l' (Qoh hl he hx h1 e);cases h
 |_,_,_,.tuple l l' h1,h=>by
  simp only [sbV] at h;split at h;rename_i v2 e;cases h;exact .tuple _ l' (Qoh hl he hx h1 e);cases h
 |_,_,_,.symi k i,h=>Qxu he (by simpa only [sbV] using h) (.symi k i)
 |_,_,_,.symb i,h=>Qxu he (by simpa only [sbV] using h) (.symb i)
 |_,_,_,.syms i,h=>Qxu he (by simpa only [sbV] using h) (.syms i)
 |_,_,_,.row i X ao cap h1 h2 h3,h=>by simp only [sbV,Option.some.injEq] at h;subst h;exact .row i X ao cap (by rw [hx];exact h1) h2 h3
 |_,_,_,.crow i X ao h1 h2,h=>by simp only [sbV,Option.some.injEq] at h;subst h;exact .crow i X ao (by rw [hx];exact h1) h2
 |_,_,_,.rptr i ix j m X h1 h2 h3,h=>by
  simp only [sbV] at h;split at h;rename_i ix2 e;cases h;exact .rptr i _ j m X (by rw [hx];exact h1) (by rw [Qbz he e];exact h2) h3;cases h
 |_,_,_,.yield _ _ _,h=>by simp [sbV] at h
 |_,_,_,.junk v h1,h=>by simp only [sbV,Option.some.injEq] at h;subst h;exact .junk v h1
 |_,_,_,.geq _ _ _,h=>by simp [sbV] at h
 |_,_,_,.lsl b z ap off n o m cap ao h1 h2 h3 h4 h5,h=>by
  simp only [sbV] at h;split at h;rename_i off2 e1;split at h;rename_i n2 e2;cases h;refine .lsl _ z ap _ _ o m cap ao (by rw [Qbz he e1];exact h1) (by rw [Qbz he e2];exact h2) h3 h4 fun hm=> ?_;obtain ⟨L,a1,a2,a3⟩:=h5 hm;exact ⟨L,hl _ _ a1,a2,a3⟩;cases h;cases h
 |_,_,_,.lptr b z ix j m L h1 h2 h3 h4,h=>by
  simp only [sbV] at h;split at h;rename_i ix2 e1;cases h;exact .lptr _ z _ j m L (hl _ _ h1) (by rw [Qbz he e1];exact h2) h3 h4;cases h
theorem Qoh {ρ:Nat->Nat} {g g2:Inj} {env:TT} (hl: ∀i L,g i=some L->g2 (ρ i)=some L) (he:EnvS g2.sig g.sig env) (hx:g2.sig.ext=g.sig.ext): ∀{a a':List AVal} {v:List Value},LRel g a v->sbVs env ρ a=some a'->LRel g2 a' v
 |_,_,_,.nil,h=>by simp only [sbVs,Option.some.injEq] at h;subst h;exact .nil
 |_,_,_,.cons a v l m h1 h2,h=>by
  simp only [sbVs] at h;split at h;rename_i b m2 e1 e2;cases h;exact .cons _ v _ m (Qsj hl he hx h1 e1) (Qoh hl he hx h2 e2);cases h
end
theorem Q8z {env:TT} {ρ:Nat->Nat}: ∀{l m:List AVal},sbVs env ρ l=some m-> ∀(i:Nat) (a:AVal),m[i]? =some a-> ∃b,l[i]? =some b/\sbV env ρ b=some a
 |[],m,h,i,a,hi=>by simp only [sbVs,Option.some.injEq] at h;subst h;simp at hi
 |b::l,m,h,i,a,hi=>by
  simp only [sbVs] at h;split at h
  ·rename_i b' m' e1 e2
   cases h;cases i with
   |zero=>simp at hi;subst hi;exact ⟨b,rfl,e1⟩
   |succ i=>simpa using Q8z e2 i a (by simpa using hi)
  cases h
theorem Q80 {env:TT} {ρ:Nat->Nat}: ∀{l m:List AVal},sbVs env ρ l=some m->m.length=l.length
 |[],m,h=>by simp only [sbVs,Option.some.injEq] at h;subst h;rfl
 |b::l,m,h=>by
  simp only [sbVs] at h;split at h;rename_i b' m' e1 e2;cases h;simp [Q80 e2];cases h
theorem Qblq {g g2:Inj} {cl:List (Option IntKind)} {S:ByteArray} {m j:Nat} {v:Value} (h:VRel g (Qm cl S m j) v):VRel g2 (Qm cl S m j) v:=by
 rcases Qgw cl j (S.data.toList.drop (m*rsz cl)) with ⟨k',n3,_,e3⟩|⟨_,b',e3⟩;have:Qm cl S m j=.int k' n3:=e3;rw [this] at h⊢;cases h;exact .int _ _;have:Qm cl S m j=.bool b':=e3;rw [this] at h⊢;cases h;exact .bool _
def sbB (env:TT) (ρ:Nat->Nat):Blk->Option Blk
 |.cells c e=>match sbVs env ρ c with
  |some c=>some (.cells c e)
  |none=>none
 |.lst s n cl e=>match sbA env s with
  |some s=>match sbA env n with
   |some n=>some (.lst s n cl e)
   |none=>none
  |none=>none
 |.gone=>some .gone
 |_=>none
def sbBs (env:TT) (ρ:Nat->Nat):List Blk->Option (List Blk)
 |[]=>some []
 |k::l=>match sbB env ρ k with
  |some k=>match sbBs env ρ l with
   |some l=>some (k::l)
   |none=>none
  |none=>none
theorem Qky {env:TT} {ρ:Nat->Nat}: ∀{l m:List Blk},sbBs env ρ l=some m-> ∀(i:Nat) (k:Blk),m[i]? =some k-> ∃b,l[i]? =some b/\sbB env ρ b=some k
 |[],m,h,i,k,hi=>by simp only [sbBs,Option.some.injEq] at h;subst h;simp at hi
 |b::l,m,h,i,k,hi=>by
  simp only [sbBs] at h;split at h;rename_i k' e1;split at h
  ·rename_i m' e2
   cases h;cases i with
   |zero=>simp at hi;subst hi;exact ⟨b,rfl,e1⟩
   |succ i=>simpa using Qky e2 i k (by simpa using hi)
  cases h;cases h
theorem Q8w {env:TT} {ρ:Nat->Nat}: ∀{l m:List Blk},sbBs env ρ l=some m->m.length=l.length
 |[],m,h=>by simp only [sbBs,Option.some.injEq] at h;subst h;rfl
 |b::l,m,h=>by
  simp only [sbBs] at h;split at h;split at h;rename_i m' e2;cases h;simp [Q8w e2];cases h;cases h
theorem Qsi {env:TT} {ρ:Nat->Nat} {b k:Blk} (h:sbB env ρ b=some k):b=.gone↔k=.gone:=by
 unfold sbB at h;split at h;split at h<;>cases h;simp;split at h;split at h<;>cases h;simp;cases h;cases h;simp;cases h
theorem Qbna {env:TT} {ρ:Nat->Nat} {b:Blk} {la:LoopA} (h:sbB env ρ b=some (.loop la)):False:=by
 unfold sbB at h;split at h;split at h<;>cases h;split at h;split at h<;>cases h;cases h;cases h;cases h
theorem Q8u {ρ:Nat->Nat} {g g2:Inj} {env:TT} (he:EnvS g2.sig g.sig env) {b k:Blk} (h:sbB env ρ b=some k) (hn:Qce g b):Qce g2 k:=by
 obtain ⟨s,n,cl,e,rfl,d1,d2⟩:=hn;simp only [sbB] at h;split at h;rename_i s' hs;split at h;rename_i n' hn';cases h;exact ⟨s',n',cl,e,rfl,by rw [Qbz he hs];exact d1,by rw [Qbz he hn'];exact d2⟩;cases h;cases h
theorem Q8v {ρ:Nat->Nat} {g g2:Inj} {env:TT} {w:World} {L:Loc} (hl: ∀i L,g i=some L->g2 (ρ i)=some L) (he:EnvS g2.sig g.sig env) (hx:g2.sig.ext=g.sig.ext) {b k:Blk} (h:sbB env ρ b=some k) (hb:BRel g w b L):BRel g2 w k L:=by
 unfold sbB at h;split at h;split at h;rename_i c e c' hc;cases h;obtain ⟨C,fr,k1,k2,k3,k4,k5⟩:=hb;refine ⟨C,fr,k1,k2,k3,by rw [Q80 hc];exact k4,?_⟩;intro j a hj;obtain ⟨a0,h0,h1⟩:=Q8z hc _ _ hj;obtain ⟨z,y1,y2,y3⟩:=k5 j a0 h0;exact ⟨z,y1,Qsj hl he hx y2 h1,y3⟩;cases h;rename_i s n cl e;split at h;rename_i s' hs;split at h;rename_i n' hn';cases h;obtain ⟨S,N,C,fr,e9,b1,b2,b3,b4,b5,b6,b7,b8⟩:=hb;refine ⟨S,N,C,fr,e9,by rw [Qbz he hs];exact b1,by rw [Qbz he hn'];exact b2,b3,b4,b5,by rw [hx];exact b6,b7,fun m j hm hj=> ?_⟩;obtain ⟨v,v1,v2,v3⟩:=b8 m j hm hj;exact ⟨v,v1,Qblq v2,v3⟩;cases h;cases h;cases h;trivial;cases h
def Qgx:List Blk->Bool
 |[]=>true
 |.cells _ _::l=>Qgx l
 |.lst _ _ _ _::l=>Qgx l
 |_::_=>false
def Qi8:List Blk->Bool
 |[]=>true
 |.cells _ _::l=>Qi8 l
 |.lst _ _ _ _::l=>Qi8 l
 |.gone::l=>Qi8 l
 |_::_=>false
theorem Qze: ∀{l:List Blk},Qgx l=true-> ∀(i:Nat) (k:Blk),l[i]? =some k->(∃c e,k=.cells c e)\/ ∃s n cl e,k=.lst s n cl e
 |[],_,i,k,hi=>by simp at hi
 |b::l,h,0,k,hi=>by
  simp at hi;subst hi;cases b<;>simp [Qgx] at h⊢
 |b::l,h,i+1,k,hi=>by
  refine Qze (l:=l) ?_ i k (by simpa using hi);cases b<;>simp [Qgx] at h⊢ <;>exact h
structure SymF where
 f:FuncId
 m:Nat
 ins:List (Option IntKind)
 args:List AVal
 pre:List Blk
 pcs:List SDef
 G:List SDef
 v:AVal
 post:List Blk
 xs:List AVal:=[]
 pan:Bool:=false
def SymF.fin (e:SymF) (u:Value):Ending:=
 match e.pan with
 |true=> .panicked [{v:=u,recovered:=false}]
 |false=> .returned u
def SymF.out (e:SymF) (v:AVal):Out:=
 match e.pan with
 |true=> .pan v
 |false=> .val v
theorem SymF.rel {e:SymF} {g:Inj} {v:AVal} {u:Value} (h:VRel g v u):Qla g (e.out v) (e.fin u):=by
 unfold SymF.out SymF.fin;cases e.pan with
 |true=>exact ⟨u,rfl,h⟩
 |false=>exact ⟨u,rfl,h⟩
theorem SymF.fin_no {e:SymF} (h:e.pan=false) (u:Value):e.fin u=.returned u:=by unfold SymF.fin;rw [h]
theorem SymF.fin_pan {e:SymF} (h:e.pan=true) (u:Value):e.fin u=.panicked [{v:=u,recovered:=false}]:=by unfold SymF.fin;rw [h]
theorem SymF.out_no {e:SymF} (h:e.pan=false) (v:AVal):e.out v=.val v:=by unfold SymF.out;rw [h]
theorem SymF.out_pan {e:SymF} (h:e.pan=true) (v:AVal):e.out v=.pan v:=by unfold SymF.out;rw [h]
structure SymFOk (P:Program) (tab:TabF) (inv:Sig->Prop) (e:SymF):Prop where
 len:e.pre.length<=e.post.length
 cpre:Qgx e.pre=true
 cpost:Qi8 e.post=true
 ok:okG e.G e.m=true
 call: ∀(g:Inj) (w:World) (args':Array Value),g.sig.tab=tab->inv g.sig->Eqs g.sig e.m e.G->Qx g.sig e.m e.ins->(∀d,d∈e.pcs->Qb g.sig d=some (.bool true))->HRel (cx0 tab) g e.pre w->LRel g e.args args'.toList->
  Calls P e.f args' w fun en w'=> ∃(u:Value) (g1:Inj),en=e.fin u/\g1.sig=g.sig/\VRel g1 e.v u/\HRel (cx0 tab) g1 e.post w'/\(∀i,i<e.pre.length->g1 i=g i)/\(∀i L,e.pre.length<=i->g1 i=some L->w.heap.size<=L.blk\/ ∃j M,g j=some M/\M.blk=L.blk)/\
   w.heap.size<=w'.heap.size/\(∀b,b<w.heap.size->(∀i L,g i=some L->L.blk≠b)->w'.heap[b]? =w.heap[b]?)/\w'.os=w.os/\w'.tape=w.tape/\w'.output=w.output
def Qo4 (m:Nat):Asg->Bool
 |[]=>true
 |p::l=>Nat.blt p.1 m&&Qo4 m l
theorem Qyx {m:Nat}: ∀{l:Asg},Qo4 m l=true-> ∀p,p∈l->p.1<m
 |[],_,p,hp=>by cases hp
 |q::l,h,p,hp=>by
  simp only [Qo4,Bool.and_eq_true] at h;rcases List.mem_cons.1 hp with rfl|hp
  simpa using h.1;exact Qyx h.2 p hp
def envF (e:SymF) (l:Asg):TT:=Qr6 (TT.skel (e.m+e.G.length) 12 0 1) l
def pcOk (look:SDef->Option AVal) (env:TT):List SDef->Bool
 |[]=>true
 |d::l=>(match sbD env d with
  |some e=>match Ql5 e with
   |some (.bool true)=>true
   |some _=>false
   |none=>match look e with
    |some (.bool true)=>true
    |_=>false
  |none=>false)&&pcOk look env l
theorem Q7s {V U:Sig} {env:TT} {look:SDef->Option AVal} (h:EnvS V U env) (ht:V.tab=U.tab) (hl: ∀d r,look d=some r->Qb V d=some (den V r)): ∀{l:List SDef},pcOk look env l=true-> ∀d,d∈l->Qb U d=some (.bool true)
 |[],_,d,hd=>by cases hd
 |q::l,hp,d,hd=>by
  simp only [pcOk,Bool.and_eq_true] at hp;rcases List.mem_cons.1 hd with rfl|hd
  have h1:=hp.1;split at h1;rename_i e he;rw [<-Q8x h ht he];split at h1;rename_i hf;exact Q1a hf;cases h1;split at h1;rename_i hk;exact hl _ _ hk;cases h1;cases h1;exact Q7s h ht hl hp.2 d hd
def Qo0:List Nat->Nat->Bool
 |[],_=>true
 |x::l,n=>Nat.blt x n&&Qo0 l n
theorem Qyo {n:Nat}: ∀{l:List Nat},Qo0 l n=true-> ∀x,x∈l->x<n
 |[],_,x,hx=>by cases hx
 |y::l,h,x,hx=>by
  simp only [Qo0,Bool.and_eq_true] at h;rcases List.mem_cons.1 hx with rfl|hx
  simpa [Nat.blt_eq] using h.1;exact Qyo h.2 x hx
def atmV:AVal->Bool
 |.int _ _=>true
 |.bool _=>true
 |.str _=>true
 |.symi _ _=>true
 |.symb _=>true
 |.syms _=>true
 |_=>false
def Qe2:List AVal->Bool
 |[]=>true
 |a::l=>atmV a&&Qe2 l
def toV:AVal->Value
 |.int k n=> .int k n
 |.bool b=> .bool b
 |.str s=> .string s
 |_=> .nilFunc
theorem Qtd {g:Inj} {a:AVal} (h:atmV a=true):VRel g a (toV (den g.sig a))/\ ∀v,VRel g a v->v=toV (den g.sig a):=by
 cases a<;>simp only [atmV,Bool.false_eq_true] at h
 all_goals exact ⟨by constructor,fun v hv=>by cases hv;rfl⟩
theorem Qbn3 {g1 g2:Inj} {a b:AVal} (ha:atmV a=true) (hb:atmV b=true) (h:toV (den g1.sig a)=toV (den g2.sig b)):den g1.sig a=den g2.sig b:=by
 cases a<;>simp only [atmV,Bool.false_eq_true] at ha<;>cases b<;>simp only [atmV,Bool.false_eq_true] at hb<;>simp only [den,toV,Value.int.injEq,Value.bool.injEq,Value.string.injEq,reduceCtorEq] at h<;>simp only [den,h]
theorem Qyz {g1 g2:Inj}: ∀{l m:List AVal} {vs:List Value},Qe2 l=true->Qe2 m=true->LRel g1 l vs->LRel g2 m vs->l.map (den g1.sig)=m.map (den g2.sig)
 |[],[],_,_,_,_,_=>rfl
 |[],_::_,_,_,_,h,k=>by cases h;cases k
 |_::_,[],_,_,_,h,k=>by cases k;cases h
 |a::l,b::m,_,ha,hb,.cons _ v _ vs h1 h2,.cons _ _ _ _ k1 k2=>by
  simp only [Qe2,Bool.and_eq_true] at ha hb;have e1:=Qbn3 ha.1 hb.1 (((Qtd ha.1).2 _ h1).symm.trans ((Qtd hb.1).2 _ k1));simp only [List.map_cons,e1,Qyz ha.2 hb.2 h2 k2]
theorem Qy0 {g:Inj}: ∀{l:List AVal},Qe2 l=true-> ∃vs,LRel g l vs
 |[],_=>⟨[],.nil⟩
 |a::l,h=>by
  simp only [Qe2,Bool.and_eq_true] at h;obtain ⟨vs,hv⟩:=Qy0 (g:=g) h.2;exact ⟨_::vs,.cons _ _ _ _ (Qtd h.1).1 hv⟩
theorem Q59 {g:Inj}: ∀{l m:List AVal} {vs us:List Value},l.length=vs.length->LRel g (l++m) (vs++us)->LRel g l vs/\LRel g m us
 |[],m,[],us,_,h=>⟨.nil,h⟩
 |[],m,_::_,us,hl,h=>by simp at hl
 |_::_,m,[],us,hl,h=>by simp at hl
 |a::l,m,v::vs,us,hl,.cons _ _ _ _ h1 h2=>by
  obtain ⟨k1,k2⟩:=Q59 (by simpa using hl) h2;exact ⟨.cons _ _ _ _ h1 k1,k2⟩
theorem Q58 {g:Inj}: ∀{l m:List AVal} {vs us:List Value},LRel g l vs->LRel g m us->LRel g (l++m) (vs++us)
 |[],m,_,us,.nil,h=>h
 |a::l,m,_,us,.cons _ _ _ _ h1 h2,h=> .cons _ _ _ _ h1 (Q58 h2 h)
def tryM (look:SDef->Option AVal) (kd:Nat->Option IntKind) (ys:List AVal) (e:SymF) (m:List Nat) (args:List AVal) (hp:Hp):Option (AVal×Hp):=
  match (match Nat.beq e.xs.length ys.length&&(Qe2 e.xs&&Qe2 ys) with
    |true=>Qd1 (zs m) (e.xs++e.args) (ys++args)
    |false=>none) with
  |some x=>match Qfg (zs m) hp.heap e.pre 0 with
    |some y=>match Nat.beq m.length e.pre.length&&(Qek (zs m)&&(Qgy (x++y) (x++y)&&(Qo4 e.m (x++y)&&(Qg8 kd (x++y) e.ins 0&&pcOk look (Qfz look e.G e.m (envF e (x++y))) e.pcs)))) with
      |true=>match Qo0 m hp.heap.length with
       |false=>none
       |true=>match sbV (Qfz look e.G e.m (envF e (x++y))) (rho m hp.heap.length) e.v with
        |some v=>match sbBs (Qfz look e.G e.m (envF e (x++y))) (rho m hp.heap.length) e.post with
          |some bs=>some (v,⟨wr m bs hp.heap,m++hp.log⟩)
          |none=>none
        |none=>none
      |false=>none
    |none=>none
  |none=>none
def Qjn (look:SDef->Option AVal) (kd:Nat->Option IntKind) (ys:List AVal) (f:FuncId) (args:List AVal) (hp:Hp):List SymF->Option (AVal×Hp)
 |[]=>none
 |e::l=>match Nat.beq f e.f with
  |true=>match tryM look kd ys e (uH hp.heap e.pre 0 (uL [] e.args args)) args hp with
   |some r=>some r
   |none=>Qjn look kd ys f args hp l
  |false=>Qjn look kd ys f args hp l
theorem Quf {look:SDef->Option AVal} {kd:Nat->Option IntKind} {ys:List AVal} {f:FuncId} {args:List AVal} {hp:Hp} {r:AVal×Hp}: ∀{l:List SymF},Qjn look kd ys f args hp l=some r-> ∃e m,e∈l/\e.f=f/\tryM look kd ys e m args hp=some r
 |[],h=>by cases h
 |x::l,h=>by
  simp only [Qjn] at h;have rest:Qjn look kd ys f args hp l=some r-> ∃e m,e∈x::l/\e.f=f/\tryM look kd ys e m args hp=some r:=fun h=>
   let ⟨e,m,h1,h2⟩:=Quf h
   ⟨e,m,List.mem_cons_of_mem _ h1,h2⟩
  split at h;rename_i hf;split at h;rename_i r' hr;cases h;exact ⟨x,_,List.mem_cons_self ..,(Nat.eq_of_beq_eq_true hf).symm,hr⟩;exact rest h;exact rest h
def Qom (kd:Nat->Option IntKind) (ys:List AVal) (tbl:List SymF):Qe1:=fun look f args hp=>Qjn look kd ys f args hp tbl
def Qbr (kd:Nat->Option IntKind) (tbl:List SymF):Qe1:=Qom kd [] tbl
theorem Q9k {P:Program} {X:Ing} {ys:List AVal} {inv:Sig->Prop} {e:SymF} {m:List Nat} (h:SymFOk P X.tab inv e) (hT:okLT X.m X.G X.T=true) (hn:X.n=0) (hi: ∀V U:Sig,U.ext=V.ext->e.xs.map (den U)=ys.map (den V)->X.inv V->inv U)
  (F:List Fact) (args:List AVal) (hp:Hp) (v:AVal) (hp':Hp) (hm:tryM (symS (Q5 X F)) (kdX X) ys e m args hp=some (v,hp')):CallP P (cxOf X F) e.f args hp (e.out v) hp':=by
 obtain ⟨hlen,hpre,hpost,hG,hc⟩:=h;unfold tryM at hm;split at hm;rename_i x f20;obtain ⟨f2,hys⟩:Qd1 (zs m) (e.xs++e.args) (ys++args)=some x/\(Nat.beq e.xs.length ys.length&&(Qe2 e.xs&&Qe2 ys))=true:=by
  split at f20;rename_i hc;exact ⟨f20,hc⟩;cases f20
 clear f20;simp only [Bool.and_eq_true] at hys;obtain ⟨y1,y2,y3⟩:=hys;have y1:=Nat.eq_of_beq_eq_true y1;split at hm;rename_i y f3;split at hm;rename_i hfit;split at hm;cases hm;rename_i hall;split at hm;rename_i vv hvv;split at hm;rename_i bs hbs;cases hm;simp only [Bool.and_eq_true] at hfit;obtain ⟨f1,f4,f5,f6,f7,f8⟩:=hfit;have f1:=Nat.eq_of_beq_eq_true f1;have hmlt: ∀y,y∈m->y<hp.heap.length:=Qyo hall;have hcell: ∀(j x:Nat),m[j]? =some x->Live hp.heap x:=by
  intro j x hj;have hlt:j<e.pre.length:=by rw [<-f1];exact (List.getElem?_eq_some_iff.1 hj).1
  have hxl:=hmlt x (List.mem_iff_getElem?.2 ⟨j,hj⟩);obtain ⟨l,h1,_⟩:=Qwg e.pre 0 _ f3 j _ (List.getElem?_eq_getElem hlt);rw [Nat.zero_add] at h1;refine ⟨_,List.getElem?_eq_getElem hxl,fun hg=> ?_⟩;rcases Qze hpre j _ (List.getElem?_eq_getElem hlt) with ⟨c,t,hk⟩|⟨s,n,cl,t,hk⟩
  rw [hk] at h1;simp only [Qnw,zs_of hj,List.getElem?_eq_getElem hxl,hg] at h1;cases h1;rw [hk] at h1;simp only [Qnw,zs_of hj,List.getElem?_eq_getElem hxl,hg] at h1;split at h1<;>cases h1
 have hlive: ∀y,y∈m->Live hp.heap y:=by
  intro y hy;obtain ⟨j,hj⟩:=List.mem_iff_getElem?.1 hy;exact hcell j y hj
 have hbl:=Q8w hbs;have hlp:m.length<=bs.length:=by rw [hbl,f1];exact hlen
 have hat: ∀j x,m[j]? =some x->(wr m bs hp.heap)[x]? =bs[j]?:=fun j x hj=>wr_at m _ _ j x hlp f4 hmlt hj;have hback: ∀i,i<hp.heap.length->Live (wr m bs hp.heap) i->Live hp.heap i:=by
  intro i hi hl;by_cases hin:i∈m;exact hlive i hin;obtain ⟨k,hk,hne⟩:=hl;rw [Qk8 m _ _ i hi hin] at hk;exact ⟨k,hk,hne⟩
 have hwl:(wr m bs hp.heap).length=hp.heap.length+(e.post.length-m.length):=by rw [Q93,hbl]
 refine ⟨⟨by show hp.heap.length<=(wr _ _ _).length;omega,⟨m,rfl,fun i hi hn=>Qk8 m _ _ i hi hn⟩,hback,fun i la hi hl=> ?_⟩,fun g w args' hH hl=> ?_⟩;by_cases hin:i∈m;obtain ⟨j,hj⟩:=List.mem_iff_getElem?.1 hin;have hl:(wr m bs hp.heap)[i]? =some (.loop la):=hl;rw [hat j i hj] at hl;obtain ⟨b,hb,hbb⟩:=Qky hbs _ _ hl;exact (Qbna hbb).elim;have hl:(wr m bs hp.heap)[i]? =some (.loop la):=hl;rw [Qk8 m _ _ i hi hin] at hl;exact ⟨la,hl,rfl,rfl,rfl,rfl,rfl⟩;have hbase:=Qte hT hH.sig.ok.2 hH.sig.ok.1;have hlook: ∀d r,symS (Q5 X F) d=some r->Qb g.sig d=some (den g.sig r):=fun d r hd=>Qbnz hbase hd
 let U0:Sig:=asgS g.sig (x++y)
 let U:Sig:=solve e.G e.m U0
 have ag:=Qep e.G e.m U0;have hext:U.ext=g.sig.ext:=ag.ext.symm;have htab:U.tab=X.tab:=by rw [<-ag.tab];exact hH.sig.ok.2.tab
 have hfit0:Fits g.sig U0 (x++y):=by
  have:=Q04 (V:=g.sig) [] f5;simpa using this
 have hfit:Fits g.sig U (x++y):=by
  intro p hp;have hlt:=Qyx f6 p hp;obtain ⟨h1,h2,h3⟩:=hfit0 p hp;obtain ⟨a1,a2,a3⟩:=ag.val p.1 hlt;exact ⟨fun k n hn=>by rw [<-a1];exact h1 k n hn,fun b hb=>by rw [<-a2];exact h2 b hb,fun s hs=>by rw [<-a3];exact h3 s hs⟩
 have henv:EnvS g.sig U (envF e (x++y)):=by
  have hin: ∀i a,(envF e (x++y)).get i=some a->(i,a)∈x++y:=by
   intro i a hi;rcases Qw4 _ _ hi with h|h
   exact h;rw [TT.get_skel] at h;cases h
  refine ⟨fun i a k hi hk=> ?_,fun i a hi hk=> ?_,fun i a hi hk=> ?_⟩;obtain ⟨⟨n,hn⟩,_⟩:=sk_i hk g.sig;have hn':den g.sig a=.int k n:=hn;rw [hn',(hfit (i,a) (hin i a hi)).1 k n hn'];obtain ⟨⟨n,hn⟩,_⟩:=sk_b hk g.sig;have hn':den g.sig a=.bool n:=hn;rw [hn',(hfit (i,a) (hin i a hi)).2.1 n hn'];obtain ⟨⟨n,hn⟩,_⟩:=sk_s hk g.sig;have hn':den g.sig a=.str n:=hn;rw [hn',(hfit (i,a) (hin i a hi)).2.2 n hn']
 have heq:Eqs U e.m e.G:=Qfy hG;have htt:g.sig.tab=U.tab:=by rw [htab];exact hH.sig.ok.2.tab
 have henv2:EnvS g.sig U (Qfz (symS (Q5 X F)) e.G e.m (envF e (x++y))):=Quc htt hlook henv fun k d hk hcd=>heq.at k d hk hcd;have hins:Qx U e.m e.ins:=by
  intro i k hlt hik;have hik':e.ins[i]? =some (some k):=by
   cases hc:e.ins[i]? with
   |none=>rw [hc] at hik;cases hik
   |some o=>rw [hc] at hik;simp only [Option.getD_some] at hik;rw [hik]
  obtain ⟨a,h1,h2⟩:=Qqg f7 i k hik';rw [Nat.zero_add] at h1;obtain ⟨n,h3,h4⟩:=Qfb (fun i k h=>Qqp hH.sig.ok.2.eqs hH.sig.ok.2.ins hH.sig.ok.2.kt i k h) h2;have:U0.i i=n:=by
   simp only [U0,asgS,h1];cases a<;>simp only [inK,Bool.false_eq_true] at h2<;>simp only [valS,h3,iOf]
  rw [<-(ag.val i hlt).1,this];exact h4
 have hpc:=Q7s henv2 htt hlook f8;have R:HRel (cx0 X.tab) (Qbd (zs m) g U) e.pre w:=Qkp hH rfl (Qe5 htab) (by rw [Q97,f1]) f4 f3 (fun p hp=>hfit p (by simp [hp])) hext;have hmv: ∀j L,Qbd (zs m) g U j=some L-> ∃x,m[j]? =some x/\g x=some L:=by
  intro j L hj;obtain ⟨x,sh,L',h1,h2,rfl⟩:=Qhi hj;obtain ⟨h3,rfl⟩:=Q96 h1;exact ⟨x,h3,h2⟩
 obtain ⟨yv,hyv⟩:=Qy0 (g:=g) y3;have hboth:LRel (Qbd (zs m) g U) (e.xs++e.args) (yv++args'.toList):=Qka (Qdh (zs m) g U hext) _ _ x _ f2 (fun p hp=>hfit p (by simp [hp])) (Q58 hyv hl);obtain ⟨hxs,hargs⟩:=Q59 (by rw [y1];exact hyv.length) hboth;have hxe:e.xs.map (den U)=ys.map (den g.sig):=Qyz (g1:=Qbd (zs m) g U) (g2:=g) y2 y3 hxs hyv;refine (hc (Qbd (zs m) g U) w args' htab (hi _ _ hext hxe hH.sig.ok.2.inv) heq hins hpc R hargs).mono ?_;rintro en w' ⟨u,g1,rfl,hs1,hu,hP,hsame,hnew,hsz,hfr,hos,htp,hout⟩;have hs1:g1.sig=U:=hs1;have hgn: ∀i L,g i=some L->i<hp.heap.length:=fun i L hi=>(hH.dom i L hi).1
 let g2:Inj:=⟨fun i=>if i<hp.heap.length then g i else g1 (i-hp.heap.length+m.length),g.sig,g.mp⟩
 have lo: ∀i,i<hp.heap.length->g2 i=g i:=fun i hi=>by show (if i<hp.heap.length then g i else _)=_;rw [if_pos hi]
 have hi': ∀i,¬i<hp.heap.length->g2 i=g1 (i-hp.heap.length+m.length):=fun i hi=>by show (if i<hp.heap.length then g i else _)=_;rw [if_neg hi]
 have hsub:Sub g g2:=⟨fun i L hi=>by rw [lo i (hgn i L hi)];exact hi,rfl,fun _ _ h=>h⟩;have hold: ∀j L,j<m.length->g1 j=some L-> ∃x,m[j]? =some x/\g x=some L:=by
  intro j L hj h1;rw [hsame j (by rw [<-f1];exact hj)] at h1;exact hmv j L h1
 have hren: ∀i L,g1 i=some L->g2 (rho m hp.heap.length i)=some L:=by
  intro i L h1;by_cases hlt:i<m.length;obtain ⟨x,hx,hgx⟩:=hold i L hlt h1;have:rho m hp.heap.length i=x:=by simp [rho,hx]
  rw [this,lo x (hgn x L hgx)];exact hgx;have:rho m hp.heap.length i=i-m.length+hp.heap.length:=by simp [rho,List.getElem?_eq_none (by omega:m.length<=i)]
  rw [this,hi' _ (by omega),show i-m.length+hp.heap.length-hp.heap.length+m.length=i by omega];exact h1
 have hfresh: ∀i L,¬i<hp.heap.length->g2 i=some L->w.heap.size<=L.blk\/ ∃x M,x∈m/\g x=some M/\M.blk=L.blk:=by
  intro i L hlt h2;rw [hi' i hlt] at h2;rcases hnew _ L (by rw [<-f1];omega) h2 with h3|⟨j,M,h3,h4⟩
  exact .inl h3;obtain ⟨x,hx,hgx⟩:=hmv j M h3;exact .inr ⟨x,M,List.mem_iff_getElem?.2 ⟨_,hx⟩,hgx,h4⟩
 have hlv2: ∀i,¬i<hp.heap.length->Live (wr m bs hp.heap) i->Live e.post (i-hp.heap.length+m.length):=by
  rintro i h1 ⟨k,hk,hne⟩;rw [show i=hp.heap.length+(i-hp.heap.length) by omega,Qyg m _ _ _ hlp] at hk;obtain ⟨b,hb2,hbb⟩:=Qky hbs _ _ hk;exact ⟨b,by rw [Nat.add_comm];exact hb2,fun hg=>hne ((Qsi hbb).1 hg)⟩
 have hapart: ∀i j L M,i<hp.heap.length-> ¬j<hp.heap.length->g i=some L->g2 j=some M->L.blk=M.blk->Live (wr m bs hp.heap) i->Live (wr m bs hp.heap) j->False:=by
  intro i j L M h1 h2 hi hj hb li lj;rcases hfresh j M h2 hj with h3|⟨x,N,hx,hgx,hN⟩
  have a1:=(hH.dom i L hi).2;omega;have hxi:=hH.inj i x L N hi hgx (by rw [hb,hN]) (hback i h1 li) (hlive x hx);subst hxi;obtain ⟨q,hq⟩:=List.mem_iff_getElem?.1 hx;have hql:q<m.length:=(List.getElem?_eq_some_iff.1 hq).1;have lq:Live e.post q:=by
   obtain ⟨k,hk,hne⟩:=li;rw [hat q i hq] at hk;obtain ⟨b,hb2,hbb⟩:=Qky hbs _ _ hk;exact ⟨b,hb2,fun hg=>hne ((Qsi hbb).1 hg)⟩
  have lj2:=hlv2 j h2 lj;have hgq:g1 q=some L:=by
   rw [hsame q (by rw [<-f1];exact hql)];have:=(Qdh (zs m) g U hext).1 q i 0 L (zs_of hq) hi;rw [this];rfl
  rw [hi' j h2] at hj;have:=hP.inj q _ L M hgq hj hb lq lj2;omega
 have hkeep: ∀b,b<w.heap.size->(∀x L,x∈m->g x=some L->L.blk≠b)->w'.heap[b]? =w.heap[b]?:=by
  intro b hb hno;refine hfr b hb fun i L hiL=> ?_;obtain ⟨x,hx,hgx⟩:=hmv i L hiL;exact hno x L (List.mem_iff_getElem?.2 ⟨_,hx⟩) hgx
 have he2:EnvS g2.sig g1.sig (Qfz (symS (Q5 X F)) e.G e.m (envF e (x++y))):=by rw [hs1];exact henv2
 have hx2:g2.sig.ext=g1.sig.ext:=by rw [hs1];exact hext.symm
 refine ⟨g2,SymF.rel (Qsj hren he2 hx2 hu hvv),⟨?_,?_,?_,?_,hH.sig,?_⟩,?_⟩;intro i L hi;show i<(wr _ _ _).length/\_;by_cases hlt:i<hp.heap.length;rw [lo i hlt] at hi;have:=hH.dom i L hi;exact ⟨by rw [hwl];omega,by omega⟩;rw [hi' i hlt] at hi;have:=hP.dom _ L hi;exact ⟨by rw [hwl];omega,this.2⟩;intro i j L M hi hj hb li lj;by_cases h1:i<hp.heap.length<;>by_cases h2:j<hp.heap.length;rw [lo i h1] at hi;rw [lo j h2] at hj;exact hH.inj i j L M hi hj hb (hback i h1 li) (hback j h2 lj);rw [lo i h1] at hi;exact (hapart i j L M h1 h2 hi hj hb li lj).elim;rw [lo j h2] at hj;exact (hapart j i M L h2 h1 hj hi hb.symm lj li).elim;have l1:=hlv2 i h1 li;have l2:=hlv2 j h2 lj;rw [hi' i h1] at hi;rw [hi' j h2] at hj;have:=hP.inj _ _ L M hi hj hb l1 l2;omega;intro i k hi hk;have hi:(wr m bs hp.heap)[i]? =some k:=hi;by_cases h1:i<hp.heap.length;by_cases hin:i∈m;obtain ⟨j,hj⟩:=List.mem_iff_getElem?.1 hin;rw [hat j i hj] at hi;obtain ⟨b,hb,hbb⟩:=Qky hbs _ _ hi;rcases hP.blk0 _ _ hb (fun hg=>hk ((Qsi hbb).1 hg)) with hz|⟨L,hL,hBr⟩
 exact .inl (Q8u he2 hbb hz);have hjl:j<m.length:=(List.getElem?_eq_some_iff.1 hj).1;obtain ⟨x,hx,hgx⟩:=hold j L hjl hL;rw [hj] at hx;cases hx;exact .inr ⟨L,by rw [lo i h1];exact hgx,Q8v hren he2 hx2 hbb hBr⟩;rw [Qk8 m _ _ i h1 hin] at hi;rcases hH.blk0 i k hi hk with hz|⟨L,hL,hBr⟩
 exact .inl (hz.mono rfl);refine .inr ⟨L,by rw [lo i h1];exact hL,(hBr.of_same (hkeep L.blk (hH.dom i L hL).2 fun x M hx hgx hbb=> ?_)).mono hsub⟩;have:=hH.inj x i M L hgx hL hbb (hlive x hx) ⟨k,hi,hk⟩;exact hin (this▸hx);have hnl:i=hp.heap.length+(i-hp.heap.length):=by omega
 rw [hnl,Qyg m _ _ _ hlp] at hi;obtain ⟨b,hb,hbb⟩:=Qky hbs _ _ hi;rcases hP.blk0 _ _ hb (fun hg=>hk ((Qsi hbb).1 hg)) with hz|⟨L,hL,hBr⟩
 exact .inl (Q8u he2 hbb hz);refine .inr ⟨L,by rw [hi' i h1,show i-hp.heap.length+m.length=m.length+(i-hp.heap.length) by omega];exact hL,Q8v hren he2 hx2 hbb hBr⟩;intro i hi;have:(cxOf X F).n=0:=hn;omega;refine ⟨fun i Y hi hY=> ?_,fun i Y hi=> ?_,fun i Y h0 hi=>Nat.lt_of_lt_of_le (hH.frz.top i Y h0 hi) hsz⟩;have f:=hH.frz.row i Y hi hY;refine ⟨f.1.of_same (hkeep _ f.1.lt fun x M hx hgx=>f.2 x M hgx (hlive x hx)),fun j N hj lj=> ?_⟩;by_cases h1:j<hp.heap.length;rw [lo j h1] at hj;exact f.2 j N hj (hback j h1 lj);rcases hfresh j N h1 hj with a1|⟨x,M,hx,hgx,hM⟩
 have a2:=f.1.lt;omega;rw [<-hM];exact f.2 x M hgx (hlive x hx);have f:=hH.frz.mp i Y hi;refine ⟨by show i<(wr _ _ _).length;rw [hwl];omega,f.2.1.of_same (hkeep _ f.2.1.lt fun x M hx hgx=>f.2.2 x M hgx (hlive x hx)),fun j N hj lj=> ?_⟩;by_cases h1:j<hp.heap.length;rw [lo j h1] at hj;exact f.2.2 j N hj (hback j h1 lj);rcases hfresh j N h1 hj with a1|⟨x,M,hx,hgx,hM⟩
 have a2:=f.2.1.lt;omega;rw [<-hM];exact f.2.2 x M hgx (hlive x hx);refine ⟨hsub,?_,fun i Y hi hn=> ?_,by show _<=(wr _ _ _).length;omega,hback,hsz,fun b hb hno=>hkeep b hb fun x L hx hgx=>hno x L hgx (hlive x hx),hos,htp,hout⟩;intro i L hi hn;by_cases h1:i<hp.heap.length;rw [lo i h1] at hi;rw [hn] at hi;cases hi;exact ⟨by omega,(hfresh i L h1 hi).imp id fun ⟨x,M,hx,hgx,hM⟩=>⟨x,M,hgx,hM,hlive x hx⟩⟩;exact absurd hi (by show¬g.mp i=some Y;rw [hn];simp);cases hm;cases hm;cases hm;cases hm;cases hm
def Qkg:List SymF->Bool
 |[]=>true
 |e::l=>(match e.pan with|true=>false|false=>true)&&Qkg l
def Qlc:List SymF->Bool
 |[]=>true
 |e::l=>e.pan&&Qlc l
theorem Q6w: ∀{l:List SymF},Qkg l=true-> ∀e,e∈l->e.pan=false
 |[],_,e,he=>by cases he
 |x::l,h,e,he=>by
  simp only [Qkg,Bool.and_eq_true] at h;rcases List.mem_cons.1 he with rfl|he
  ·cases hp:e.pan with
   |false=>rfl
   |true=>have:=h.1;rw [hp] at this;cases this
  exact Q6w h.2 e he
theorem Qyp: ∀{l:List SymF},Qlc l=true-> ∀e,e∈l->e.pan=true
 |[],_,e,he=>by cases he
 |x::l,h,e,he=>by
  simp only [Qlc,Bool.and_eq_true] at h;rcases List.mem_cons.1 he with rfl|he
  exact h.1;exact Qyp h.2 e he
theorem Q6h {P:Program} {X:Ing} {tbl:List SymF} {ys:List AVal} {inv:Sig->Prop} (h: ∀e,e∈tbl->SymFOk P X.tab inv e) (hT:okLT X.m X.G X.T=true) (hn:X.n=0) (hi: ∀e,e∈tbl-> ∀V U:Sig,U.ext=V.ext->e.xs.map (den U)=ys.map (den V)->X.inv V->inv U)
  (F:List Fact) (f:FuncId) (args:List AVal) (hp:Hp) (v:AVal) (hp':Hp) (hm:Qom (kdX X) ys tbl (symS (Q5 X F)) f args hp=some (v,hp')) (hpn:Qkg tbl=true:=by rfl):CallP P (cxOf X F) f args hp (.val v) hp':=by
 obtain ⟨e,m,hmem,rfl,hm2⟩:=Quf hm;have:=Q9k (h e hmem) hT hn (hi e hmem) F args hp v hp' hm2;rwa [SymF.out_no (Q6w hpn e hmem)] at this
theorem Qbkz {P:Program} {X:Ing} {tbl:List SymF} {ys:List AVal} {inv:Sig->Prop} (h: ∀e,e∈tbl->SymFOk P X.tab inv e) (hT:okLT X.m X.G X.T=true) (hn:X.n=0) (hi: ∀e,e∈tbl-> ∀V U:Sig,U.ext=V.ext->e.xs.map (den U)=ys.map (den V)->X.inv V->inv U)
  (F:List Fact) (f:FuncId) (args:List AVal) (hp:Hp) (v:AVal) (hp':Hp) (hm:Qom (kdX X) ys tbl (symS (Q5 X F)) f args hp=some (v,hp')) (hpn:Qlc tbl=true:=by rfl):CallP P (cxOf X F) f args hp (.pan v) hp':=by
 obtain ⟨e,m,hmem,rfl,hm2⟩:=Quf hm;have:=Q9k (h e hmem) hT hn (hi e hmem) F args hp v hp' hm2;rwa [SymF.out_pan (Qyp hpn e hmem)] at this
theorem Qwj {P:Program} {X:Ing} {tbl:List SymF} {inv:Sig->Prop} (h: ∀e,e∈tbl->SymFOk P X.tab inv e) (hT:okLT X.m X.G X.T=true) (hn:X.n=0) (hi: ∀V U:Sig,U.ext=V.ext->X.inv V->inv U)
  (F:List Fact) (f:FuncId) (args:List AVal) (hp:Hp) (v:AVal) (hp':Hp) (hm:Qbr (kdX X) tbl (symS (Q5 X F)) f args hp=some (v,hp')) (hpn:Qkg tbl=true:=by rfl):CallP P (cxOf X F) f args hp (.val v) hp':=
 Q6h h hT hn (fun _ _ V U he _ hv=>hi V U he hv) F f args hp v hp' hm hpn
theorem Qbky {P:Program} {X:Ing} {tbl:List SymF} {inv:Sig->Prop} (h: ∀e,e∈tbl->SymFOk P X.tab inv e) (hT:okLT X.m X.G X.T=true) (hn:X.n=0) (hi: ∀V U:Sig,U.ext=V.ext->X.inv V->inv U)
  (F:List Fact) (f:FuncId) (args:List AVal) (hp:Hp) (v:AVal) (hp':Hp) (hm:Qbr (kdX X) tbl (symS (Q5 X F)) f args hp=some (v,hp')) (hpn:Qlc tbl=true:=by rfl):CallP P (cxOf X F) f args hp (.pan v) hp':=
 Qbkz h hT hn (fun _ _ V U he _ hv=>hi V U he hv) F f args hp v hp' hm hpn
def MemR (tab:TabF) (e:SymF) (g:Inj) (w:World) (en:Ending) (w':World):Prop:=
 ∃(u:Value) (g1:Inj),en=e.fin u/\g1.sig=g.sig/\VRel g1 e.v u/\HRel (cx0 tab) g1 e.post w'/\(∀i,i<e.pre.length->g1 i=g i)/\(∀i L,e.pre.length<=i->g1 i=some L->w.heap.size<=L.blk\/ ∃j M,g j=some M/\M.blk=L.blk)/\
   w.heap.size<=w'.heap.size/\(∀b,b<w.heap.size->(∀i L,g i=some L->L.blk≠b)->w'.heap[b]? =w.heap[b]?)/\w'.os=w.os/\w'.tape=w.tape/\w'.output=w.output
def Qu (g:Inj) (w:World) (n:Nat):Fra where
 w:=w
 own:=fun b=>w.heap.size<=b\/ ∃i L,g i=some L/\L.blk=b
 new:=fun _ h=> .inl h
 pin:=fun i=>if i<n then some (g.loc i) else none
def idE (e:SymF):Option Asg:=
 match Qz (idF e.post.length 0) e.v e.v,Qfg (idF e.post.length 0) e.post e.post 0 with
 |some x,some y=>some (x++y)
 |_,_=>none
def Qhw (V U:Sig):Asg->Prop
 |[]=>True
 |p::r=>den V p.2=den U p.2/\Qhw V U r
theorem Qtp {V U:Sig} {M:Nat}: ∀{l:Asg},Qf4 M l=true->Qhw V U l->Fits V U l
 |[],_,_=>fun p hp=>by cases hp
 |q::l,hl,hd=>by
  simp only [Qf4,Bool.and_eq_true] at hl;intro p hp;rcases List.mem_cons.1 hp with rfl|hp
  ·have h1:=hl.1
   have h2:=hd.1;split at h1
   all_goals first
    |cases h1
    |skip
   all_goals
    rename_i hx;simp only [Bool.and_eq_true] at h1;have e:=Nat.eq_of_beq_eq_true h1.1;rw [hx] at h2⊢;rw [<-e] at h2⊢;refine ⟨fun k n hn=> ?_,fun b hn=> ?_,fun s hn=> ?_⟩<;>rw [h2] at hn<;>simp only [den,AVal.int.injEq,AVal.bool.injEq,AVal.str.injEq,reduceCtorEq] at hn
    first
     |exact hn.2
     |exact hn
  exact Qtp hl.2 hd.2 p hp
theorem Qb8 {P:Program} {tab:TabF} {n M:Nat} {fn:Func} {e:SymF} {g:Inj} {w:World} {SE:Shape} {vs:List AVal} {V:Sig} {x:SEx} {l:Asg} (hSE:resA P (tmOf SE n) SE.heap fn.results.toList=some vs) (hv:Qkl vs=e.v) (hp:SE.heap=e.post)
  (hH:HRel (cx0 tab) g e.pre w) (ht:g.sig.tab=tab) (hcp:Qgx e.pre=true) (hc:Qi8 e.post=true) (hid:idE e=some l) (hidl:Qf4 M l=true) (hnt:Qek (idF e.post.length 0)=true) (hd:Qhw V g.sig l) (hlen2:e.pre.length<=e.post.length) (hext:V.ext=g.sig.ext) (hx:x=.ret\/x=.normal) (hpn:e.pan=false:=by rfl):
  EndZ tab n (Qu g w e.pre.length) (bodyPost P fn (MemR tab e g w)) x SE V:=by
 intro en a w' hxe hA;obtain ⟨g',rfl,hH',hT,hO,hP⟩:=hA.ex;have hT1:TRel g' (tmOf SE n) a:=by
  refine ⟨by simp only [tmOf,hA.size];exact Nat.le_refl _,?_⟩;intro i v hv;exact hT _ (Qya hv)
 obtain ⟨u,hres,h2⟩:=Qsc hH' hT1 hSE;rw [hv] at h2;rw [hp] at hH';have hfit:=Qtp hidl hd;unfold idE at hid;split at hid
 ·rename_i lx ly hlx hly
  cases hid;have R:HRel (cx0 tab) (Qbd (idF e.post.length 0) g' g.sig) e.post w':=Qkp hH' rfl (Qe5 ht) (Qmc _ _) hnt hly hfit.right hext.symm;have hmv: ∀i,i<e.post.length->Qbd (idF e.post.length 0) g' g.sig i=g' i:=by
   intro i hi;have h0:(idF e.post.length 0)[i]? =some (i,0):=by simpa using Qmb (i:=0) hi
   cases hg:g' i with
   |none=>simp only [Qbd,h0,hg,Option.map_none]
   |some L=>simp only [Qbd,h0,hg,Option.map_some,shift,Nat.add_zero,Nat.sub_zero]
  have hR:MemR tab e g w (.returned u) w':=by
   refine ⟨u,Qbd (idF e.post.length 0) g' g.sig,(SymF.fin_no hpn u).symm,rfl,Qca (Qdh _ g' _ hext.symm) e.v e.v lx u hlx hfit.left h2,R,fun i hi=> ?_,fun i L hi hL=> ?_,hA.below.size,fun b hb hno=>hA.below.frame b hb ?_,hA.below.os,hA.below.tape,hA.below.output⟩;have h3:=(hP i (g.loc i) (by show (if i<e.pre.length then some (g.loc i) else none)=_;rw [if_pos hi])).2;rw [hmv i (by have:=hlen2;omega),h3];have hlt:=(R.dom i L hL).1;rw [hmv i hlt] at hL;rcases hO i L hL with h3|⟨j,N,hj,hb⟩
   exact .inl h3;exact .inr ⟨j,N,hj,hb⟩;rintro (h3|⟨i,L,hi,h3⟩);exact absurd h3 (by omega);exact hno i L hi h3
  have:a.defers=[]/\ ∃v,(results fn a.tmps).run P w'=.ok v w'/\MemR tab e g w (.returned v) w':=⟨hA.defers,_,hres,hR⟩;cases en with
  |normal=>exact this
  |ret=>exact this
  |_=>rcases hx with rfl|rfl<;>exact hxe.elim
 cases hid
theorem Qbcc {P:Program} {tab:TabF} {n M:Nat} {fn:Func} {e:SymF} {g:Inj} {w:World} {SE:Shape} {v':AVal} {V:Sig} {l lv:Asg} (hmv:Qz [] e.v v'=some lv) (hfv:Fits V g.sig lv) (hp:SE.heap=e.post)
  (hH:HRel (cx0 tab) g e.pre w) (ht:g.sig.tab=tab) (hid:Qfg (idF e.post.length 0) e.post e.post 0=some l) (hidl:Qf4 M l=true) (hnt:Qek (idF e.post.length 0)=true) (hd:Qhw V g.sig l) (hlen2:e.pre.length<=e.post.length) (hext:V.ext=g.sig.ext) (hpn:e.pan=true:=by rfl):
  EndZ tab n (Qu g w e.pre.length) (bodyPost P fn (MemR tab e g w)) (.pan v') SE V:=by
 intro en a w' hxe hA;cases en<;>simp only [Qb6] at hxe;obtain ⟨u,rfl,hu⟩:=hxe;obtain ⟨g',rfl,hH',hT,hO,hP⟩:=hA.ex;have h2:=hu g' rfl;rw [hp] at hH';have hfit:=Qtp hidl hd;have R:HRel (cx0 tab) (Qbd (idF e.post.length 0) g' g.sig) e.post w':=Qkp hH' rfl (Qe5 ht) (Qmc _ _) hnt hid hfit hext.symm;have hmv': ∀i,i<e.post.length->Qbd (idF e.post.length 0) g' g.sig i=g' i:=by
  intro i hi;have h0:(idF e.post.length 0)[i]? =some (i,0):=by simpa using Qmb (i:=0) hi
  cases hg:g' i with
  |none=>simp only [Qbd,h0,hg,Option.map_none]
  |some L=>simp only [Qbd,h0,hg,Option.map_some,shift,Nat.add_zero,Nat.sub_zero]
 refine ⟨hA.defers,u,Qbd (idF e.post.length 0) g' g.sig,(SymF.fin_pan hpn u).symm,rfl,Qca (f:=[]) (g:=g') (g2:=Qbd (idF e.post.length 0) g' g.sig) ⟨fun b x sh L hb=>by simp at hb,hext.symm⟩ _ _ lv u hmv hfv h2,R,fun i hi=> ?_,fun i L hi hL=> ?_,hA.below.size,fun b hb hno=>hA.below.frame b hb ?_,hA.below.os,hA.below.tape,hA.below.output⟩;have h3:=(hP i (g.loc i) (by show (if i<e.pre.length then some (g.loc i) else none)=_;rw [if_pos hi])).2;rw [hmv' i (by have:=hlen2;omega),h3];have hlt:=(R.dom i L hL).1;rw [hmv' i hlt] at hL;rcases hO i L hL with h3|⟨j,N,hj,hb⟩
 exact .inl h3;exact .inr ⟨j,N,hj,hb⟩;rintro (h3|⟨i,L,hi,h3⟩);exact absurd h3 (by omega);exact hno i L hi h3
theorem Qb5 {P:Program} {tab:TabF} {inv:Sig->Prop} {e:SymF} {fn:Func} {n:Nat} (hf:P.funcs[e.f]? =some fn) (hb:fn.body=some (Qc fn)) (hn:fn.ntmps=n) (hna:e.args.length<=n)
  (hlen:e.pre.length<=e.post.length) (hcp:Qgx e.pre=true) (hc:Qi8 e.post=true) (hG:okG e.G e.m=true)
  (h: ∀(g:Inj) (w:World),g.sig.tab=tab->inv g.sig->Eqs g.sig e.m e.G->Qx g.sig e.m e.ins->(∀d,d∈e.pcs->Qb g.sig d=some (.bool true))->HRel (cx0 tab) g e.pre w->
   Qf P tab n (Qu g w e.pre.length) (bodyPost P fn (MemR tab e g w)) (Qe (Qc fn)) ⟨argT 0 e.args,e.pre⟩ e.m e.ins (fun V=>Agree e.m g.sig V)):SymFOk P tab inv e:=by
 refine ⟨hlen,hcp,hc,hG,fun g w args' ht hi he hins hpc hH ha=> ?_⟩;refine Qzb hf hb ?_;rw [hn];have hal:args'.size<=n:=by
  have:=ha.length;simp only [Array.length_toList] at this;omega
 have hA0:At tab ⟨argT 0 e.args,e.pre⟩ n g.sig (Qu g w e.pre.length) {tmps:=args'++Array.replicate (n-args'.size) undef,defers:=[]} w:=by
  refine ⟨⟨g,rfl,hH,?_,fun i L hi=> .inr ⟨i,L,hi,rfl⟩,fun i x hi=> ?_⟩,BelowF.refl (Qu g w e.pre.length),by simp;omega,rfl⟩;intro p hp;obtain ⟨j,h1,h2⟩:=Qyu _ _ _ hp;obtain ⟨u,k1,k2⟩:=ha.get j p.2 h2;refine ⟨u,?_,k2⟩;have hlt:j<args'.size:=by
   have:=(List.getElem?_eq_some_iff.1 k1).1;simpa using this
  rw [h1,Nat.zero_add,Array.getElem?_append_left hlt];simpa using k1;by_cases hlt:i<e.pre.length;have hi:(if i<e.pre.length then some (g.loc i) else none)=some x:=hi;rw [if_pos hlt] at hi;cases hi;exact ⟨hlt,rfl⟩;have hi:(if i<e.pre.length then some (g.loc i) else none)=some x:=hi;rw [if_neg hlt] at hi;cases hi
 have:=Ql4 _ (h g w ht hi he hins hpc hH _ _ g.sig hA0 hins ⟨fun _ _=>⟨rfl,rfl,rfl⟩,rfl,rfl⟩ ht);rwa [Qsw] at this
end Go.Ev
namespace Go.Ev
open Go.RowKit
set_option linter.unusedVariables false
set_option linter.unusedSimpArgs false
theorem Qf.lastI {P:Program} {tab:TabF} {n:Nat} {W0:Fra} {Z:Exit->Act->World->Prop} {c1:List Code} {S:Shape} {q:Nat} {ins:List (Option IntKind)} {J:Sig->Prop} {X:Ing} {Wt:Sw}
  (hm:P.follows .mixedOrders=true) (s:SegOkI P tab n c1 S X Wt) (aX:X.m=q/\X.ins=ins) (hJ: ∀V U,Agree q V U->J V->J U) (hr: ∀U,J U->Qd8 U X.rows) (hinv: ∀U,J U->X.inv U)
  (o: ∀U,Eqs U q X.G->U.tab=tab->Qx U q ins->J U->Qdp U (EndZ tab n W0 Z) Wt []) (hp: ∀i,W0.pin i≠none->pinW i Wt=true:=by exact fun _ h=>absurd rfl h):
  Qf P tab n W0 Z c1 S q ins J:=by
 intro a w V hA hi hj ht;obtain ⟨rfl,rfl⟩:=aX;have ag:=Qep X.G X.m V;have hi2:Qx (solve X.G X.m V) X.m X.ins:=by
  intro i k hi' hk;rw [<-(ag.val i hi').1];exact hi i k hi' hk
 have hj2:=hJ _ _ ag hj;have ht':=s.tab;subst ht';refine segL hm s.lt s.ok s.hook s.n0 s.id s.reck hA hi (o _ (Qfy s.ok) (by rw [<-ag.tab];exact ht) hi2 hj2) ?_ (hr _ hj2) (by rw [s.cuts];exact Qlr) (hinv _ hj2) s.kt hp;rintro e a' w' x s2 V2 hx hz hA2;have:=hz e a' w' hx hA2;cases e with
 |normal=>exact this
 |_=>exact this
structure RowE (E:Nat->Option Fz) (X:Fz) (V:Sig):Prop where
 ext:V.ext=E
 len:V.i 1=X.len
 lo:0<=V.i 0
 hi:V.i 0<=X.len
def Qft (q:Nat) (cl:List Cl) (E:Nat->Option Fz) (X:Fz) (U:Sig):Prop:= ∃V,Agree (q+cl.length) (Qcg V q X) U/\RowE E X V
theorem Qft.agree {E:Nat->Option Fz} {cl:List Cl} {X:Fz} {q:Nat} {V U:Sig} (ag:Agree (q+cl.length) V U) (h:Qft q cl E X V):Qft q cl E X U:=by
 obtain ⟨υ,ag0,hd⟩:=h;exact ⟨υ,ag0.trans' ag,hd⟩
theorem Qft.hd {E:Nat->Option Fz} {cl:List Cl} {X:Fz} {q:Nat} (h2:2<=q) {U:Sig} (h:Qft q cl E X U):RowE E X U:=by
 obtain ⟨V,ag,he,h1,h0,h3⟩:=h;refine ⟨by rw [<-ag.ext];exact he,?_,?_,?_⟩;rw [<-(ag.val 1 (by omega)).1];simp [Qcg,show 1<q by omega,h1];rw [<-(ag.val 0 (by omega)).1];simp [Qcg,show 0<q by omega,h0];rw [<-(ag.val 0 (by omega)).1];simp [Qcg,show 0<q by omega,h3]
theorem Qft.rows {E:Nat->Option Fz} {W:World} {cl:List Cl} {v:Value} {X:Fz} (hX:RowV W cl v X) (hE: ∀Y,E 0=some Y->Y=X) {q:Nat} (h2q:2<=q) {U:Sig} (h:Qft q cl E X U):Qd8 U [⟨.symi .i64 1,[(.symi .i64 0,Qdx q cl)]⟩]:=by
 obtain ⟨V,ag,he,h1,h0,_⟩:=h;intro i r Y hr hY;have hr0:i=0:=by
  cases i with
  |zero=>rfl
  |succ i=>simp at hr
 subst hr0;rw [<-ag.ext] at hY;have hY:V.ext 0=some Y:=hY;rw [he] at hY;have hY:=hE Y hY;subst hY;simp only [List.getElem?_cons_zero,Option.some.injEq] at hr;subst hr;have t0:U.i 0=V.i 0:=by rw [<-(ag.val 0 (by omega)).1];simp [Qcg,show 0<q by omega]
 have t1:U.i 1=V.i 1:=by rw [<-(ag.val 1 (by omega)).1];simp [Qcg,show 1<q by omega]
 refine ⟨by show AVal.int .i64 (U.i 1)=_;rw [t1,h1],fun p hp m hm hlt=> ?_⟩;simp only [List.mem_singleton] at hp;subst hp;have hm:U.i 0=(m:Int):=by simpa [den] using hm
 rw [t0] at hm;have hmN:(V.i 0).toNat=m:=by omega
 refine ⟨by rw [Qtz];exact hX.z.symm,fun j c hc=> ?_⟩;obtain ⟨z,hz,rfl⟩:=Qty q cl j c hc;have hj:j<cl.length:=(List.getElem?_eq_some_iff.1 hz).1;obtain ⟨n,h3,h4⟩:=Qe7 (hX.els _ hlt) hz;have hnq: ¬(q+j<q):=by omega
 cases z with
 |i k=>
  simp only [den];rw [<-(ag.val (q+j) (by omega)).1];simp only [Qcg,hnq,if_false,hmN,hlt,if_true,Nat.add_sub_cancel_left];rw [h4];rfl
 |b=>
  simp only [den];rw [<-(ag.val (q+j) (by omega)).2.1];simp only [Qcg,hnq,if_false,hmN,hlt,if_true,Nat.add_sub_cancel_left];rw [h4];rfl
def InvF {ι:Type} (tab:TabF) (n:Nat) (W0:Fra) (S:ι->Shape) (q:Nat) (ins:List (Option IntKind)) (J:ι->Sig->Prop) (μ:Sig->Nat):Nat->Act->World->Prop:=
 fun k a w=> ∃i V,At tab (S i) n V W0 a w/\Qx V q ins/\J i V/\V.tab=tab/\k=μ V
theorem EndZ.loopF {ι:Type} {P:Program} {tab:TabF} {n:Nat} {W0:Fra} {Z:Exit->Act->World->Prop} {id:Nat} {c2:List Code} {S:ι->Shape} {q:Nat} {ins:List (Option IntKind)} {J:ι->Sig->Prop} {μ:Sig->Nat} {k:Nat} {V:Sig} {s:Shape} (i:ι) (hs:s=S i)
  (hi:Qx V q ins) (hj:J i V) (ht:V.tab=tab) (hk:μ V<k):EndZ tab n W0 (Qfs P id c2 Z (InvF tab n W0 S q ins J μ) k) .normal s V:=by
 subst hs;intro e a w hxe hA;cases e<;>simp only [Qb6] at hxe;exact .inl ⟨rfl,μ V,hk,i,V,hA,hi,hj,ht,rfl⟩
theorem Qf.rowLoopF {ι:Type} {P:Program} {tab:TabF} {n:Nat} {W0:Fra} {WX:World} {Z:Exit->Act->World->Prop} {b:Code} {id:Nat} {c2:List Code} {S:ι->Shape} {q:Nat} {insq:List (Option IntKind)} {J:ι->Sig->Prop} {cl:List Cl} {v:Value} {X:Fz} {E:Nat->Option Fz} (hX:RowV WX cl v X)
  (hq:insq.length=q) (h2:2<=q) (hid: ∀i,idOk (S i) q=true) (hJ: ∀i V U,Agree q V U->J i V->J i U)
  (body: ∀k i,Qf P tab n W0 (Qfs P id c2 Z (InvF tab n W0 S q insq (fun i V=>RowE E X V/\J i V) (fun V=>((X.len:Int)-V.i 0).toNat)) k) [b] (S i) (q+cl.length) (insq++cl.map Qfd) (fun U=>Qft q cl E X U/\J i U/\((X.len:Int)-U.i 0).toNat=k)) (i0:ι):
  Qf P tab n W0 Z (.block id (.loop b)::c2) (S i0) q insq (fun V=>RowE E X V/\J i0 V):=by
 intro a w V hA hi hj ht;show (Code.block id (.loop b)).wpIn (FR none) 0 P _ a w;refine wpIn_block ?_;refine Qv5 (Inv:=InvF tab n W0 S q insq (fun i V=>RowE E X V/\J i V) (fun V=>((X.len:Int)-V.i 0).toNat)) ?_ _ a w ⟨i0,V,hA,hi,hj,ht,rfl⟩;clear hA hi hj ht a w;rintro k a w ⟨i,V,hA,hi,hj,ht,rfl⟩;have ag:=Qbb3 V q X;have h0:(Qcg V q X).i 0=V.i 0:=by simp [Qcg,show 0<q by omega]
 have:=body _ i a w (Qcg V q X) (hA.agree (hid i) ag) (Qbb4 hX hq hi) ⟨⟨V,⟨fun _ _=>⟨rfl,rfl,rfl⟩,rfl,rfl⟩,hj.1⟩,hJ _ _ _ ag hj.2,by rw [h0]⟩ ht;simp only [Qc2] at this;rwa [Qsw] at this
end Go.Ev
namespace Go.Ev
open Go.RowKit
set_option linter.unusedVariables false
set_option linter.unusedSimpArgs false
def bI (b:Bool):Int:=bif b then 1 else 0
theorem Qr {b:Bool} {P:Prop} [Decidable P] (h:b=decide P):(bI b=1/\P)\/(bI b=0/\ ¬P):=by
 subst h;by_cases hp:P;exact .inl ⟨by simp [bI,hp],hp⟩;exact .inr ⟨by simp [bI,hp],hp⟩
theorem ob_eq {b:Bool} {x y:Int} (h:b=(x==y)):(bI b=1/\x=y)\/(bI b=0/\ ¬x=y):=by
 refine Qr (h.trans ?_);rw [Bool.eq_iff_iff];simp
theorem ob_ne {b:Bool} {x y:Int} (h:b=(x !=y)):(bI b=1/\ ¬x=y)\/(bI b=0/\x=y):=by
 subst h;by_cases hp:x=y;exact .inr ⟨by simp [bI,hp],hp⟩;exact .inl ⟨by rw [bne_iff_ne.2 hp];rfl,hp⟩
theorem ob_rT {b:Bool} {P Q:Prop} (h:(bI b=1/\P)\/(bI b=0/\Q)) (f:b=true):P:=by
 subst f;rcases h with h|h
 exact h.2;exact absurd h.1 (by simp [bI])
theorem ob_rF {b:Bool} {P Q:Prop} (h:(bI b=1/\P)\/(bI b=0/\Q)) (f:b=false):Q:=by
 subst f;rcases h with h|h
 exact absurd h.1 (by simp [bI]);exact h.2
theorem Qh (n:Int):IntKind.i64.wrap n=(n+9223372036854775808)%18446744073709551616-9223372036854775808:=by simp [IntKind.wrap,IntKind.bits,IntKind.signed];omega
theorem Qg (n:Int):IntKind.u64.wrap n=n%18446744073709551616:=by simp [IntKind.wrap,IntKind.bits,IntKind.signed]
theorem Qd7 (n:Int):IntKind.u32.wrap n=n%4294967296:=by simp [IntKind.wrap,IntKind.bits,IntKind.signed]
theorem Qov (n:Int):IntKind.u16.wrap n=n%65536:=by simp [IntKind.wrap,IntKind.bits,IntKind.signed]
theorem wr_u8 (n:Int):IntKind.u8.wrap n=n%256:=by simp [IntKind.wrap,IntKind.bits,IntKind.signed]
theorem Qbf {a p:Int} (hp:0<p):a.fdiv p=a/p:=Int.fdiv_eq_ediv_of_nonneg _ (by omega)
def bAt (s:ByteArray) (i:Int):Int:=((s.data.toList.getD i.toNat 0).toNat:Nat)
theorem Qd (s:ByteArray) (i:Int):0<=bAt s i/\bAt s i<256:=by
 unfold bAt;have:=UInt8.toNat_lt (s.data.toList.getD i.toNat 0);omega
theorem Qet {V:Sig} {i j:Nat} (h:Qb V (.sop .len [.syms j])=some (den V (.symi .i64 i))):V.i i=((V.s j).size:Nat):=by
 simp only [Qb,List.map,den,sopA,Option.some.injEq,AVal.int.injEq,true_and] at h;exact h.symm
theorem eqAt {V:Sig} {i j:Nat} {a:AVal} {k:IntKind} {n:Int} (h:Qb V (.sop .at [.syms j,a])=some (den V (.symi .u8 i))) (ha:den V a=.int k n):V.i i=bAt (V.s j) n:=by
 simp only [Qb,List.map,ha] at h;simp only [den,sopA,Option.some.injEq,AVal.int.injEq,true_and] at h;exact h.symm
theorem Qpw {V:Sig} {i j:Nat} {a b:AVal} {k k':IntKind} {n m:Int} (h:Qb V (.sop .sub [.syms j,a,b])=some (den V (.syms i))) (ha:den V a=.int k n) (hb:den V b=.int k' m):V.s i=(V.s j).extract n.toNat m.toNat:=by
 simp only [Qb,List.map,ha,hb] at h;simp only [den,sopA,Option.some.injEq,AVal.str.injEq] at h;exact h.symm
theorem Qb7 {s:ByteArray} {a b i:Int} (h0:0<=a) (h1:a<=b) (h2:b<=s.size) (h3:0<=i) (h4:i<b-a):bAt (s.extract a.toNat b.toNat) i=bAt s (a+i):=by
 unfold bAt;have e:(s.extract a.toNat b.toNat).data.toList=(s.data.toList.drop a.toNat).take (b.toNat-a.toNat):=by
  rw [ByteArray.data_extract,Array.toList_extract,List.extract_eq_take_drop]
 rw [e,List.getD_eq_getElem?_getD,List.getD_eq_getElem?_getD,List.getElem?_take_of_lt (by omega),List.getElem?_drop,show a.toNat+i.toNat=(a+i).toNat by omega]
def encL (l:List UInt8):Int:=l.foldl (fun a b=>a*256+b.toNat) 1
theorem encL_snoc (l:List UInt8) (b:UInt8):encL (l++[b])=encL l*256+b.toNat:=by simp [encL]
theorem Q0e (l:List UInt8):1<=encL l:=by
 have h: ∀(l:List UInt8) (a:Int),1<=a->1<=l.foldl (fun (a:Int) (b:UInt8)=>a*256+(b.toNat:Int)) a:=by
  intro l;induction l with
  |nil=>intro a h;exact h
  |cons b l ih=>intro a h;exact ih _ (by show 1<=a*256+(b.toNat:Int);omega)
 exact h l 1 (by decide)
theorem Q0d: ∀(n:Nat) (l m:List UInt8),l.length=n->encL l=encL m->l=m
 |0,l,m,hl,h=>by
  have:l=[]:=List.eq_nil_of_length_eq_zero hl;subst this;rcases List.eq_nil_or_concat m with rfl|⟨m',b,rfl⟩
  rfl;exfalso;rw [List.concat_eq_append,encL_snoc] at h;have h1:=Q0e m';have h2:encL []=1:=rfl;omega
 |n+1,l,m,hl,h=>by
  rcases List.eq_nil_or_concat l with rfl|⟨l',b,rfl⟩;simp at hl;rw [List.concat_eq_append] at*;rcases List.eq_nil_or_concat m with rfl|⟨m',c,rfl⟩;exfalso;rw [encL_snoc] at h;have h1:=Q0e l';have h2:encL []=1:=rfl;omega;rw [List.concat_eq_append] at*;rw [encL_snoc,encL_snoc] at h;have hb:=UInt8.toNat_lt b;have hc:=UInt8.toNat_lt c;have e1:b.toNat=c.toNat:=by omega
  have e2:encL l'=encL m':=by omega
  rw [Q0d n l' m' (by simpa using hl) e2,UInt8.toNat_inj.1 e1]
noncomputable def decB (n:Int):ByteArray:=open Classical in if h: ∃s,encB s=n then h.choose else .empty
theorem Qe6 (s:ByteArray):decB (encB s)=s:=by
 unfold decB;have h: ∃t,encB t=encB s:=⟨s,rfl⟩;rw [dif_pos h];have h1:=h.choose_spec;have h2:=Q0d _ _ _ rfl (show encL h.choose.data.toList=encL s.data.toList from h1);generalize h.choose=t at h2;cases t;cases s;simp only [ByteArray.mk.injEq];exact Array.toList_inj.1 h2
def Qiv (V:Sig) (Q:SEx->Shape->Sig->Prop):Sv->Prop
 |.leaf x s _ l ex=>Q x s (asgS V (l++ex))
 |.leafE x s _ l ex=>EqsL V l l/\Q x s (asgS V (l++ex))
 |.req o v=>o.Sat V/\Qiv V Q v
 |.dead=>False
 |.node i y n=>(V.b i=true->Qiv V Q y)/\(V.b i=false->Qiv V Q n)
 |.pick i k y n=>(V.i i=k->Qiv V Q y)/\(¬V.i i=k->Qiv V Q n)
def Qiw (V:Sig) (Q:SEx->Shape->Sig->Prop):Sw->Prop
 |.run v=>Qiv V Q v
 |.dead=>False
 |.node i y n=>(V.b i=true->Qiw V Q y)/\(V.b i=false->Qiw V Q n)
 |.pick i k y n=>(V.i i=k->Qiw V Q y)/\(¬V.i i=k->Qiw V Q n)
theorem Qfo {V:Sig} {Q:SEx->Shape->Sig->Prop}: ∀{v:Sv} {F:List Fact},¬Qo V F->segs V Q v F
 |.leaf ..,_,h=>fun hF=>absurd hF h
 |.leafE ..,_,h=>fun hF=>absurd hF h
 |.req ..,_,h=>⟨fun hF=>absurd hF h,Qfo h⟩
 |.dead,_,h=>h
 |.node ..,_,h=>⟨Qfo fun hF=>h hF.2,Qfo fun hF=>h hF.2⟩
 |.pick ..,_,h=>⟨Qfo fun hF=>h hF.2,Qfo fun hF=>h hF.2⟩
theorem Qhp {V:Sig} {Q:SEx->Shape->Sig->Prop}: ∀{v:Sw} {F:List Fact},¬Qo V F->Qdp V Q v F
 |.run ..,_,h=>Qfo (v:=_) h
 |.dead,_,h=>h
 |.node ..,_,h=>⟨Qhp fun hF=>h hF.2,Qhp fun hF=>h hF.2⟩
 |.pick ..,_,h=>⟨Qhp fun hF=>h hF.2,Qhp fun hF=>h hF.2⟩
theorem Qkz {V:Sig} {Q:SEx->Shape->Sig->Prop}: ∀{v:Sv} {F:List Fact},Qiv V Q v->segs V Q v F
 |.leaf ..,_,h=>fun _=>h
 |.leafE ..,_,h=>fun _=>h
 |.req ..,_,h=>⟨fun _=>h.1,Qkz h.2⟩
 |.dead,_,h=>h.elim
 |.node i y n,F,h=>by
  constructor;by_cases hb:V.b i=true;exact Qkz (h.1 hb);exact Qfo fun hF=>hb hF.1;by_cases hb:V.b i=false;exact Qkz (h.2 hb);exact Qfo fun hF=>hb hF.1
 |.pick i k y n,F,h=>by
  constructor;by_cases hb:V.i i=k;exact Qkz (h.1 hb);exact Qfo fun hF=>hb hF.1;by_cases hb:V.i i=k;exact Qfo fun hF=>hF.1 hb;exact Qkz (h.2 hb)
theorem Qp {V:Sig} {Q:SEx->Shape->Sig->Prop}: ∀{v:Sw} {F:List Fact},Qiw V Q v->Qdp V Q v F
 |.run ..,_,h=>Qkz (v:=_) h
 |.dead,_,h=>h.elim
 |.node i y n,F,h=>by
  constructor;by_cases hb:V.b i=true;exact Qp (h.1 hb);exact Qhp fun hF=>hb hF.1;by_cases hb:V.b i=false;exact Qp (h.2 hb);exact Qhp fun hF=>hb hF.1
 |.pick i k y n,F,h=>by
  constructor;by_cases hb:V.i i=k;exact Qp (h.1 hb);exact Qhp fun hF=>hb hF.1;by_cases hb:V.i i=k;exact Qhp fun hF=>hF.1 hb;exact Qp (h.2 hb)
theorem Qbdi {X:Ing} {U:Sig} (hG:Eqs U X.m X.G) (hi:Qx U X.m X.ins) (hkt:okKt X=true) {l:Asg} {q:Nat} {insq:List (Option IntKind)} (h:Qg8 (kdX X) l insq 0=true):Qx (asgS U l) q insq:=by
 intro i k _ hik;have hik:insq[i]? =some (some k):=by
  cases hc:insq[i]? with
  |none=>rw [hc] at hik;cases hik
  |some o=>rw [hc] at hik;simp only [Option.getD_some] at hik;rw [hik]
 obtain ⟨a,h1,h2⟩:=Qqg h i k hik;rw [Nat.zero_add] at h1;obtain ⟨n,h3,h4⟩:=Qfb (fun i k h=>Qqp hG hi hkt i k h) h2;have:(asgS U l).i i=n:=by
  simp only [asgS,h1];cases a<;>simp only [inK,Bool.false_eq_true] at h2<;>simp only [valS,h3,iOf]
 rw [this];exact h4
end Go.Ev
namespace Go.Ev
set_option linter.unusedVariables false
set_option linter.unusedSimpArgs false
end Go.Ev
