/-
 What operations say of logs' entries; truths as propositions.
 No conditions.
-/
import Derived.Test.YtelimhjceiamcaaDoorLgp
namespace Go.Lgp
open Go.Ev Go.RowKit Go.Wbp
set_option linter.unusedVariables false
set_option linter.unusedSimpArgs false
theorem Qcf {σ:Sig} {i a j:Nat} {b:AVal} {k kk:IntKind} {n:Int} {cl:List (Option IntKind)} (h:Qa σ (.sop (.cell cl j) [.syms a,b])=some (den σ (.symi k i))) (hb:den σ b=.int kk n):σ.ival i=iOf (Qn cl (σ.sval a) n.toNat j):=by
 simp only [Qa,List.map,hb] at h
 have h:some (Qn cl (σ.sval a) n.toNat j)=some (.int k (σ.ival i)):=h
 rw [Option.some.injEq] at h
 rw [h]
 rfl
theorem Qbe1 {c x y:Bool}:((bif c then x else y)=true)↔((c=true/\x=true)\/(¬c=true/\y=true)):=by cases c<;>simp
theorem Qbhp {b:Bool}:((!b)=true)↔ ¬(b=true):=by cases b<;>simp
theorem Qbbd {b:Bool}:(b=false)↔ ¬(b=true):=by cases b<;>simp
theorem Qw6:(false=true)↔False:=by simp
theorem Q7j:(true=true)↔True:=by simp
theorem sb:(∀{c x y:Bool},((bif c then x else y)=true)↔((c=true/\x=true)\/(¬c=true/\y=true)))/\(∀{b:Bool},((!b)=true)↔ ¬(b=true))/\(∀{b:Bool},(b=false)↔ ¬(b=true))/\((false=true)↔False)/\((true=true)↔True)/\
  (∀(p:Prop) [Decidable p],(decide p=true)=p)/\(∀p:Prop,(p/\True)=p)/\(∀p:Prop,(True/\p)=p)/\(∀p:Prop,(p/\False)=False)/\(∀p:Prop,(False/\p)=False)/\(∀p:Prop,(p\/False)=p)/\(∀p:Prop,(False\/p)=p)/\((¬True)=False)/\((¬False)=True)/\(∀{p:Prop},¬¬p↔p):=
 ⟨Qbe1,Qbhp,Qbbd,Qw6,Q7j,fun p _=>decide_eq_true_eq,and_true,true_and,and_false,false_and,or_false,false_or,not_true_eq_false,not_false_eq_true,Classical.not_not⟩
theorem Qj0 {a b:En}:behind a b=true↔(b.r<=1099511627776/\b.b<=b.r/\a.b<=b.b/\((b.k=255/\a.r<=b.r)\/(¬b.k=255/\b.r=a.r/\a.k<b.k/\b.b=a.b)\/(¬b.k=255/\ ¬b.r=a.r/\a.r<b.r))):=by
 unfold behind most
 split
 ·simp only [Qw6,false_iff];omega
 ·split
  ·simp only [decide_eq_true_eq];omega
  ·split
   ·simp only [decide_eq_true_eq];omega
   ·simp only [decide_eq_true_eq];omega
theorem Qkq {a b:En}:Qb2 a b=true↔(0<=b.k/\b.k<=2/\b.r<=1099511627776/\b.b<=b.r/\a.b<=b.b/\((b.r=a.r/\a.k<b.k/\b.b=a.b)\/a.r<b.r)):=by
 unfold Qb2
 rw [Bool.and_eq_true,Qj0,decide_eq_true_eq]
 omega
theorem Qg5 {l:Lg}:right l=true↔(Qd3 noE l.es l.fin=true/\0<=l.cyc/\l.cyc<=1073741824/\0<=l.out/\l.out<=6):=by
 unfold right
 rw [Bool.and_eq_true,decide_eq_true_eq]
def Ql (d:En) (C:ByteArray):Nat->En
 |0=>d
 |i+1=>rowE C i
theorem Qbg4 {C:ByteArray} {N i:Nat} {e:En} (d:En) (h:i<N):Qd3 (Ql d C i) ((lstE C N).drop i) e=(Qb2 (Ql d C i) (rowE C i)&&Qd3 (Ql d C (i+1)) ((lstE C N).drop (i+1)) e):=by
 rw [Qbef h]
 rfl
theorem Q9n {C:ByteArray} {N:Nat} {d e:En}:Qd3 (Ql d C N) ((lstE C N).drop N) e=behind (Ql d C N) e:=by
 rw [List.drop_of_length_le (by rw [Q28];exact Nat.le_refl _)]
 rfl
theorem Qgl (a b:List Int):(a++b).length=a.length+b.length:=List.length_append
theorem Q0x: ∀(d:En) (l:List En) (x:En),Qe d (l++[x])=x
 |_,[],_=>rfl
 |_,y::l,x=>Q0x y l x
theorem Qti (C:ByteArray): ∀n,(draL C n).length=n
 |0=>rfl
 |n+1=>by simp [draL,Qti C n]
structure DrOk (a:En) (n:Nat):Prop where
 b0:0<=a.b
 br:a.b<=a.r
 r:a.r<=65536*(n:Int)
 k0: -1<=a.k
 k2:a.k<=2
 v0:0<=a.v
 v1:a.v<256
theorem Qre {a:En} {n:Nat} (h:DrOk a n) (C:ByteArray) (j:Nat):DrOk (Qcy a (rowD C j)) (n+1)/\(n<1000000->Qb2 a (Qcy a (rowD C j))=true):=by
 obtain ⟨⟨m0,m1⟩,⟨t0,t1⟩,⟨k0,k1⟩,v0,v1⟩:=Q1i C j
 obtain ⟨h1,h2,h3,h4,h5,_,_⟩:=h
 generalize rowD C j=d at m0 m1 t0 t1 k0 k1 v0 v1
 have q: ∃r b:Int,Qcy a d=⟨r,b,d.k%3,d.v⟩/\((r=a.r+d.m+1/\d.m=0/\d.k%3<=a.k)\/(r=a.r+d.m/\ ¬(d.m=0/\d.k%3<=a.k)))/\((a.r<r/\b<=r/\a.b<=b)\/(¬a.r<r/\b=a.b)):=by
  refine ⟨_,_,rfl,?_,?_⟩
  ·split
   ·rename_i c;exact .inl ⟨rfl,c⟩
   ·rename_i c;exact .inr ⟨rfl,c⟩
  ·generalize (if d.m=0/\d.k%3<=a.k then a.r+d.m+1 else a.r+d.m)=r at*
   split
   ·rename_i c
    refine .inl ⟨c,Int.min_le_left _ _,?_⟩
    omega
   ·rename_i c;exact .inr ⟨c,rfl⟩
 obtain ⟨r,b,e,q1,q2⟩:=q
 rw [e]
 refine ⟨⟨by show 0<=b;omega,by show b<=r;omega,?_,by show-1<=d.k%3;omega,by show d.k%3<=2;omega,v0,v1⟩,fun hn=> ?_⟩
 ·show r<=_
  push_cast
  omega
 ·rw [Qkq]
  show 0<=d.k%3/\d.k%3<=2/\r<=1099511627776/\b<=r/\a.b<=b/\((r=a.r/\a.k<d.k%3/\b=a.b)\/a.r<r)
  omega
theorem Q9t:DrOk noE 0:=⟨by decide,by decide,by decide,by decide,by decide,by decide,by decide⟩
theorem Qig (C:ByteArray): ∀n,DrOk (Qe noE (draL C n)) n
 |0=>Q9t
 |n+1=>by
  rw [draL,Q0x]
  exact (Qre (Qig C n) C n).1
theorem DrOk.val {a:En} {n:Nat} (h:DrOk a n) (hn:n<1000000):okV a:=by
 obtain ⟨h1,h2,h3,h4,h5,h6,h7⟩:=h
 refine ⟨?_,?_,?_,?_⟩
 ·rw [Qj];omega
 ·rw [Qj];omega
 ·rw [Qh];omega
 ·rw [wr_u8];omega
theorem Q3k (C:ByteArray): ∀n,n<1000000-> ∀x,x∈draL C n->okV x
 |0,_,x,hx=>by simp [draL] at hx
 |n+1,hn,x,hx=>by
  rw [draL,List.mem_append] at hx
  rcases hx with hx|hx
  ·exact Q3k C n (by omega) x hx
  ·simp only [List.mem_singleton] at hx
   subst hx
   exact (Qre (Qig C n) C n).1.val hn
def Qbk:En->List En->Bool
 |_,[]=>true
 |d,x::l=>Qb2 d x&&Qbk x l
theorem Qi9: ∀(d:En) (l:List En) (e:En),Qd3 d l e=(Qbk d l&&behind (Qe d l) e)
 |_,[],_=>rfl
 |d,x::l,e=>by
  show (Qb2 d x&&Qd3 x l e)=(Qb2 d x&&Qbk x l&&behind (Qe x l) e)
  rw [Qi9 x l e,Bool.and_assoc]
theorem Qp8: ∀(d:En) (l:List En) (x:En),Qbk d (l++[x])=(Qbk d l&&Qb2 (Qe d l) x)
 |d,[],x=>by show (Qb2 d x&&true)=(true&&Qb2 d x);simp
 |d,y::l,x=>by
  show (Qb2 d y&&Qbk y (l++[x]))=(Qb2 d y&&Qbk y l&&Qb2 (Qe y l) x)
  rw [Qp8 y l x,Bool.and_assoc]
theorem Q4u (C:ByteArray): ∀n,n<1000000->Qbk noE (draL C n)=true
 |0,_=>rfl
 |n+1,hn=>by
  rw [draL,Qp8,Q4u C n (by omega),(Qre (Qig C n) C n).2 (by omega)]
  rfl
theorem Q7x {img:Int} {C:ByteArray} {n:Nat} {m t k:Int} (hm:0<=m/\m<65536) (ht:0<=t/\t<65536) (hk:0<=k/\k<256):right (draG img C n m t k)=true:=by
 have h:=Qig C (min n 60)
 obtain ⟨h1,h2,h3,h4,h5,h6,h7⟩:=h
 have hn:min n 60<=60:=by omega
 rw [Qg5,Qi9]
 show (Qbk noE (draL C (min n 60))&&behind (Qe noE (draL C (min n 60))) ⟨(Qe noE (draL C (min n 60))).r+m,min ((Qe noE (draL C (min n 60))).r+m) ((Qe noE (draL C (min n 60))).b+t),255,0⟩)=true/\0<=m*100/\m*100<=1073741824/\0<=k%7/\k%7<=6
 rw [Q4u C _ (by omega),Bool.true_and,Qj0]
 generalize Qe noE (draL C (min n 60))=a at*
 show (a.r+m<=1099511627776/\min (a.r+m) (a.b+t)<=a.r+m/\a.b<=min (a.r+m) (a.b+t)/\((255:Int)=255/\a.r<=a.r+m\/_))/\_
 omega
theorem Quo: ∀(P:List Int) (d:En) (l:List En) (x:En),encS P d (l++[x])=encS P d l++entB (Qe d l) x++[sumL (encS P d l++entB (Qe d l) x)]
 |_,_,[],_=>rfl
 |P,d,y::l,x=>by
  show encS (P++entB d y++[sumL (P++entB d y)]) y (l++[x])=_
  rw [Quo]
  rfl
theorem Qgc: ∀(d:En) (l:List En) (x:En),Qe d (l++[x])=x
 |_,[],_=>rfl
 |_,y::l,x=>Qgc y l x
theorem Qtk (d:En) (C:ByteArray): ∀i,Qe d (lstE C i)=Ql d C i
 |0=>rfl
 |i+1=>by rw [Q0i,Qgc];rfl
def encI (img:Int) (C:ByteArray) (i:Nat):List Int:=encS (head img) zeE (lstE C i)
theorem Qst (img:Int) (C:ByteArray) (i:Nat):encI img C (i+1)=encI img C i++entB (Ql zeE C i) (rowE C i)++[sumL (encI img C i++entB (Ql zeE C i) (rowE C i))]:=by
 unfold encI
 rw [Q0i,Quo,Qtk]
theorem Quc (d x:En):4<=(entB d x).length/\(entB d x).length<=18:=by
 have h1:=Qdy (x.r-d.r)
 have h2:=Qdy (x.b-d.b)
 simp only [entB,List.length_append,List.length_cons,List.length_nil]
 omega
theorem Qpy (img:Int) (C:ByteArray): ∀i,(encI img C i).length<=7+19*i
 |0=>by show (head img).length<=_;simp [head]
 |i+1=>by
  have h:=Qpy img C i
  have h2:=Quc (Ql zeE C i) (rowE C i)
  rw [Qst]
  simp only [List.length_append,List.length_cons,List.length_nil]
  omega
theorem Qxe (d:En) (l:Lg):5<=(finB d l).length/\(finB d l).length<=26:=by
 have h1:=Qdy l.cyc
 have h2:=Qdy (l.ret-d.r)
 have h3:=Qdy (l.br-d.b)
 simp only [finB,List.length_append,List.length_cons,List.length_nil]
 omega
def By (l:List Int):Prop:= ∀x∈l,0<=x/\x<256
theorem By.app {l m:List Int} (h:By l) (g:By m):By (l++m):=fun x hx=>by
 rcases List.mem_append.1 hx with h1|h1
 ·exact h x h1
 ·exact g x h1
theorem By.one {x:Int} (h:0<=x/\x<256):By [x]:=fun y hy=>by
 simp only [List.mem_cons,List.not_mem_nil,or_false] at hy
 subst hy;exact h
theorem Qyh (d x:En):By (entB d x):=
 (((By.one (by omega)).app (Qip _)).app (Qip _)).app (By.one (by omega))
theorem Q4y (d:En) (l:Lg):By (finB d l):=
 ((((By.one (by omega)).app (Qip _)).app (Qip _)).app (Qip _)).app (By.one (by omega))
theorem Qtb (img:Int):By (head img):=fun x hx=>by
 simp only [head,List.mem_cons,List.not_mem_nil,or_false] at hx
 rcases hx with rfl|rfl|rfl|rfl|rfl|rfl|rfl<;>omega
theorem Qtn: ∀{P:List Int} {d:En} {l:List En},By P->By (encS P d l)
 |_,_,[],h=>h
 |P,d,x::l,h=>Qtn (l:=l) ((h.app (Qyh d x)).app (By.one (Qgi _)))
theorem Qxa (img:Int) (C:ByteArray) (i:Nat):By (encI img C i):=Qtn (Qtb img)
theorem Qbcz {l:List Int} (h:By l):ints (bs l)=l:=by
 apply List.ext_getElem
 ·rw [Qs2,Qc9]
 ·intro j h1 h2
  have e:=Qsf h h2
  have e2:=Qzf (bs l) j (by rw [Qc9];exact h2)
  rw [e,List.getD_eq_getElem?_getD,List.getD_eq_getElem?_getD,List.getElem?_eq_getElem h1,List.getElem?_eq_getElem h2] at e2
  simpa using e2
theorem Qql {l:List Int} (h:By l):sumS (bs l)=sumL l:=by
 unfold sumS
 rw [Qbcz h]
theorem Q2g (n:Int):pbL (n%18446744073709551616)=pbL n:=by
 unfold pbL
 rw [Int.emod_emod_of_dvd n (by decide)]
theorem Q9z (img:Int) (C:ByteArray) (n:Nat) (c r b o:Int):encG ⟨img,lstE C n,c,r,b,o⟩=encI img C n++finB (Ql zeE C n) ⟨img,lstE C n,c,r,b,o⟩++[sumL (encI img C n++finB (Ql zeE C n) ⟨img,lstE C n,c,r,b,o⟩)]:=by
 unfold encG encP
 rw [Qtk]
 rfl
end Go.Lgp
