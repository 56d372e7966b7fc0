/-
 What operations say of logs' entries; truths as propositions.
 No conditions.
-/
import Derived.Test.YtelimhjceiamcaaDoorBLgp
namespace Go.Lgp
open Go.Ev Go.RowKit Go.Wbp
set_option linter.unusedVariables false
set_option linter.unusedSimpArgs false
theorem Qb0 {σ:Sig} {i a j:Nat} {b:AVal} {k kk:IntKind} {n:Int} {cl:List (Option IntKind)} (h:Qb σ (.sop (.cell cl j) [.syms a,b])=some (den σ (.symi k i))) (hb:den σ b=.int kk n):σ.ival i=iOf (Qo cl (σ.sval a) n.toNat j):=by
 simp only [Qb,List.map,hb] at h
 have h:some (Qo cl (σ.sval a) n.toNat j)=some (.int k (σ.ival i)):=h
 rw [Option.some.injEq] at h
 rw [h]
 rfl
theorem Q8k {c x y:Bool}:((bif c then x else y)=true)↔((c=true/\x=true)\/(¬c=true/\y=true)):=by cases c<;>simp
theorem Qbf3 {b:Bool}:((!b)=true)↔ ¬(b=true):=by cases b<;>simp
theorem Q9v {b:Bool}:(b=false)↔ ¬(b=true):=by cases b<;>simp
theorem Q6m:(false=true)↔False:=by simp
theorem Qbjo:(true=true)↔True:=by simp
theorem sb:(∀{c x y:Bool},((bif c then x else y)=true)↔((c=true/\x=true)\/(¬c=true/\y=true)))/\(∀{b:Bool},((!b)=true)↔ ¬(b=true))/\(∀{b:Bool},(b=false)↔ ¬(b=true))/\((false=true)↔False)/\((true=true)↔True)/\
  (∀(p:Prop) [Decidable p],(decide p=true)=p)/\(∀p:Prop,(p/\True)=p)/\(∀p:Prop,(True/\p)=p)/\(∀p:Prop,(p/\False)=False)/\(∀p:Prop,(False/\p)=False)/\(∀p:Prop,(p\/False)=p)/\(∀p:Prop,(False\/p)=p)/\((¬True)=False)/\((¬False)=True)/\(∀{p:Prop},¬¬p↔p):=
 ⟨Q8k,Qbf3,Q9v,Q6m,Qbjo,fun p _=>decide_eq_true_eq,and_true,true_and,and_false,false_and,or_false,false_or,not_true_eq_false,not_false_eq_true,Classical.not_not⟩
theorem Qkp {a b:En}:behind a b=true↔(b.r<=1099511627776/\b.b<=b.r/\a.b<=b.b/\((b.k=255/\a.r<=b.r)\/(¬b.k=255/\b.r=a.r/\a.k<b.k/\b.b=a.b)\/(¬b.k=255/\ ¬b.r=a.r/\a.r<b.r))):=by
 unfold behind most
 split
 ·simp only [Q6m,false_iff];omega
 ·split
  ·simp only [decide_eq_true_eq];omega
  ·split
   ·simp only [decide_eq_true_eq];omega
   ·simp only [decide_eq_true_eq];omega
theorem Qre {a b:En}:Qcg a b=true↔(0<=b.k/\b.k<=2/\b.r<=1099511627776/\b.b<=b.r/\a.b<=b.b/\((b.r=a.r/\a.k<b.k/\b.b=a.b)\/a.r<b.r)):=by
 unfold Qcg
 rw [Bool.and_eq_true,Qkp,decide_eq_true_eq]
 omega
theorem Qh6 {l:Lg}:right l=true↔(Qd7 noE l.es l.fin=true/\0<=l.cyc/\l.cyc<=1073741824/\0<=l.out/\l.out<=6):=by
 unfold right
 rw [Bool.and_eq_true,decide_eq_true_eq]
def Qm (d:En) (C:ByteArray):Nat->En
 |0=>d
 |i+1=>rowE C i
theorem Qbg7 {C:ByteArray} {N i:Nat} {e:En} (d:En) (h:i<N):Qd7 (Qm d C i) ((lstE C N).drop i) e=(Qcg (Qm d C i) (rowE C i)&&Qd7 (Qm d C (i+1)) ((lstE C N).drop (i+1)) e):=by
 rw [Qbe7 h]
 rfl
theorem Qbg6 {C:ByteArray} {N:Nat} {d e:En}:Qd7 (Qm d C N) ((lstE C N).drop N) e=behind (Qm d C N) e:=by
 rw [List.drop_of_length_le (by rw [Q3d];exact Nat.le_refl _)]
 rfl
theorem Qgy (a b:List Int):(a++b).length=a.length+b.length:=List.length_append
theorem Q01: ∀(d:En) (l:List En) (x:En),Qg d (l++[x])=x
 |_,[],_=>rfl
 |_,y::l,x=>Q01 y l x
theorem Qss (C:ByteArray): ∀n,(draL C n).length=n
 |0=>rfl
 |n+1=>by simp [draL,Qss C n]
structure DrOk (a:En) (n:Nat):Prop where
 b0:0<=a.b
 br:a.b<=a.r
 r:a.r<=65536*(n:Int)
 k0: -1<=a.k
 k2:a.k<=2
 v0:0<=a.v
 v1:a.v<256
theorem Qsr {a:En} {n:Nat} (h:DrOk a n) (C:ByteArray) (j:Nat):DrOk (Qct a (rowD C j)) (n+1)/\(n<1000000->Qcg a (Qct a (rowD C j))=true):=by
 obtain ⟨⟨m0,m1⟩,⟨t0,t1⟩,⟨k0,k1⟩,v0,v1⟩:=Q5h C j
 obtain ⟨h1,h2,h3,h4,h5,_,_⟩:=h
 generalize rowD C j=d at m0 m1 t0 t1 k0 k1 v0 v1
 have q: ∃r b:Int,Qct a d=⟨r,b,d.k%3,d.v⟩/\((r=a.r+d.m+1/\d.m=0/\d.k%3<=a.k)\/(r=a.r+d.m/\ ¬(d.m=0/\d.k%3<=a.k)))/\((a.r<r/\b<=r/\a.b<=b)\/(¬a.r<r/\b=a.b)):=by
  refine ⟨_,_,rfl,?_,?_⟩
  ·split
   ·rename_i c;exact .inl ⟨rfl,c⟩
   ·rename_i c;exact .inr ⟨rfl,c⟩
  ·generalize (if d.m=0/\d.k%3<=a.k then a.r+d.m+1 else a.r+d.m)=r at*
   split
   ·rename_i c
    refine .inl ⟨c,Int.min_le_left _ _,?_⟩
    omega
   ·rename_i c;exact .inr ⟨c,rfl⟩
 obtain ⟨r,b,e,q1,q2⟩:=q
 rw [e]
 refine ⟨⟨by show 0<=b;omega,by show b<=r;omega,?_,by show-1<=d.k%3;omega,by show d.k%3<=2;omega,v0,v1⟩,fun hn=> ?_⟩
 ·show r<=_
  push_cast
  omega
 ·rw [Qre]
  show 0<=d.k%3/\d.k%3<=2/\r<=1099511627776/\b<=r/\a.b<=b/\((r=a.r/\a.k<d.k%3/\b=a.b)\/a.r<r)
  omega
theorem Qbfv:DrOk noE 0:=⟨by decide,by decide,by decide,by decide,by decide,by decide,by decide⟩
theorem Qhi (C:ByteArray): ∀n,DrOk (Qg noE (draL C n)) n
 |0=>Qbfv
 |n+1=>by
  rw [draL,Q01]
  exact (Qsr (Qhi C n) C n).1
theorem DrOk.val {a:En} {n:Nat} (h:DrOk a n) (hn:n<1000000):okV a:=by
 obtain ⟨h1,h2,h3,h4,h5,h6,h7⟩:=h
 refine ⟨?_,?_,?_,?_⟩
 ·rw [Qj];omega
 ·rw [Qj];omega
 ·rw [Qh];omega
 ·rw [wr_u8];omega
theorem Qyt (C:ByteArray): ∀n,n<1000000-> ∀x,x∈draL C n->okV x
 |0,_,x,hx=>by simp [draL] at hx
 |n+1,hn,x,hx=>by
  rw [draL,List.mem_append] at hx
  rcases hx with hx|hx
  ·exact Qyt C n (by omega) x hx
  ·simp only [List.mem_singleton] at hx
   subst hx
   exact (Qsr (Qhi C n) C n).1.val hn
def Qdc:En->List En->Bool
 |_,[]=>true
 |d,x::l=>Qcg d x&&Qdc x l
theorem Qq2: ∀(d:En) (l:List En) (e:En),Qd7 d l e=(Qdc d l&&behind (Qg d l) e)
 |_,[],_=>rfl
 |d,x::l,e=>by
  show (Qcg d x&&Qd7 x l e)=(Qcg d x&&Qdc x l&&behind (Qg x l) e)
  rw [Qq2 x l e,Bool.and_assoc]
theorem Qr1: ∀(d:En) (l:List En) (x:En),Qdc d (l++[x])=(Qdc d l&&Qcg (Qg d l) x)
 |d,[],x=>by show (Qcg d x&&true)=(true&&Qcg d x);simp
 |d,y::l,x=>by
  show (Qcg d y&&Qdc y (l++[x]))=(Qcg d y&&Qdc y l&&Qcg (Qg y l) x)
  rw [Qr1 y l x,Bool.and_assoc]
theorem Qys (C:ByteArray): ∀n,n<1000000->Qdc noE (draL C n)=true
 |0,_=>rfl
 |n+1,hn=>by
  rw [draL,Qr1,Qys C n (by omega),(Qsr (Qhi C n) C n).2 (by omega)]
  rfl
theorem Q8y {img:Int} {C:ByteArray} {n:Nat} {m t k:Int} (hm:0<=m/\m<65536) (ht:0<=t/\t<65536) (hk:0<=k/\k<256):right (draG img C n m t k)=true:=by
 have h:=Qhi C (min n 60)
 obtain ⟨h1,h2,h3,h4,h5,h6,h7⟩:=h
 have hn:min n 60<=60:=by omega
 rw [Qh6,Qq2]
 show (Qdc noE (draL C (min n 60))&&behind (Qg noE (draL C (min n 60))) ⟨(Qg noE (draL C (min n 60))).r+m,min ((Qg noE (draL C (min n 60))).r+m) ((Qg noE (draL C (min n 60))).b+t),255,0⟩)=true/\0<=m*100/\m*100<=1073741824/\0<=k%7/\k%7<=6
 rw [Qys C _ (by omega),Bool.true_and,Qkp]
 generalize Qg noE (draL C (min n 60))=a at*
 show (a.r+m<=1099511627776/\min (a.r+m) (a.b+t)<=a.r+m/\a.b<=min (a.r+m) (a.b+t)/\((255:Int)=255/\a.r<=a.r+m\/_))/\_
 omega
theorem Qs6: ∀(P:List Int) (d:En) (l:List En) (x:En),encS P d (l++[x])=encS P d l++entB (Qg d l) x++[sumL (encS P d l++entB (Qg d l) x)]
 |_,_,[],_=>rfl
 |P,d,y::l,x=>by
  show encS (P++entB d y++[sumL (P++entB d y)]) y (l++[x])=_
  rw [Qs6]
  rfl
theorem Qja: ∀(d:En) (l:List En) (x:En),Qg d (l++[x])=x
 |_,[],_=>rfl
 |_,y::l,x=>Qja y l x
theorem Q00 (d:En) (C:ByteArray): ∀i,Qg d (lstE C i)=Qm d C i
 |0=>rfl
 |i+1=>by rw [Qvg,Qja];rfl
def encI (img:Int) (C:ByteArray) (i:Nat):List Int:=encS (head img) zeE (lstE C i)
theorem Qs2 (img:Int) (C:ByteArray) (i:Nat):encI img C (i+1)=encI img C i++entB (Qm zeE C i) (rowE C i)++[sumL (encI img C i++entB (Qm zeE C i) (rowE C i))]:=by
 unfold encI
 rw [Qvg,Qs6,Q00]
theorem Qs7 (d x:En):4<=(entB d x).length/\(entB d x).length<=18:=by
 have h1:=Qd6 (x.r-d.r)
 have h2:=Qd6 (x.b-d.b)
 simp only [entB,List.length_append,List.length_cons,List.length_nil]
 omega
theorem Qn7 (img:Int) (C:ByteArray): ∀i,(encI img C i).length<=7+19*i
 |0=>by show (head img).length<=_;simp [head]
 |i+1=>by
  have h:=Qn7 img C i
  have h2:=Qs7 (Qm zeE C i) (rowE C i)
  rw [Qs2]
  simp only [List.length_append,List.length_cons,List.length_nil]
  omega
theorem Qzp (d:En) (l:Lg):5<=(finB d l).length/\(finB d l).length<=26:=by
 have h1:=Qd6 l.cyc
 have h2:=Qd6 (l.ret-d.r)
 have h3:=Qd6 (l.br-d.b)
 simp only [finB,List.length_append,List.length_cons,List.length_nil]
 omega
def By (l:List Int):Prop:= ∀x∈l,0<=x/\x<256
theorem By.app {l m:List Int} (h:By l) (g:By m):By (l++m):=fun x hx=>by
 rcases List.mem_append.1 hx with h1|h1
 ·exact h x h1
 ·exact g x h1
theorem By.one {x:Int} (h:0<=x/\x<256):By [x]:=fun y hy=>by
 simp only [List.mem_cons,List.not_mem_nil,or_false] at hy
 subst hy;exact h
theorem Qza (d x:En):By (entB d x):=
 (((By.one (by omega)).app (Qju _)).app (Qju _)).app (By.one (by omega))
theorem Qzo (d:En) (l:Lg):By (finB d l):=
 ((((By.one (by omega)).app (Qju _)).app (Qju _)).app (Qju _)).app (By.one (by omega))
theorem Qtk (img:Int):By (head img):=fun x hx=>by
 simp only [head,List.mem_cons,List.not_mem_nil,or_false] at hx
 rcases hx with rfl|rfl|rfl|rfl|rfl|rfl|rfl<;>omega
theorem Qs4: ∀{P:List Int} {d:En} {l:List En},By P->By (encS P d l)
 |_,_,[],h=>h
 |P,d,x::l,h=>Qs4 (l:=l) ((h.app (Qza d x)).app (By.one (Qhb _)))
theorem Qy2 (img:Int) (C:ByteArray) (i:Nat):By (encI img C i):=Qs4 (Qtk img)
theorem Qbal {l:List Int} (h:By l):ints (bs l)=l:=by
 apply List.ext_getElem
 ·rw [Qtr,Qc1]
 ·intro j h1 h2
  have e:=Qsa h h2
  have e2:=Q0o (bs l) j (by rw [Qc1];exact h2)
  rw [e,List.getD_eq_getElem?_getD,List.getD_eq_getElem?_getD,List.getElem?_eq_getElem h1,List.getElem?_eq_getElem h2] at e2
  simpa using e2
theorem Qrh {l:List Int} (h:By l):sumS (bs l)=sumL l:=by
 unfold sumS
 rw [Qbal h]
theorem Q4v (n:Int):pbL (n%18446744073709551616)=pbL n:=by
 unfold pbL
 rw [Int.emod_emod_of_dvd n (by decide)]
theorem Q9d (img:Int) (C:ByteArray) (n:Nat) (c r b o:Int):encG ⟨img,lstE C n,c,r,b,o⟩=encI img C n++finB (Qm zeE C n) ⟨img,lstE C n,c,r,b,o⟩++[sumL (encI img C n++finB (Qm zeE C n) ⟨img,lstE C n,c,r,b,o⟩)]:=by
 unfold encG encP
 rw [Q00]
 rfl
end Go.Lgp
