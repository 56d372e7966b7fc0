/-
 What bytes are read as, step by step.
 No conditions.
-/
import Derived.Test.YtelimhjceiamcaaDoorTWbp
import Derived.Test.YtelimhjceiamcaaDoorTLg15
set_option linter.unusedVariables false
set_option linter.unusedSimpArgs false
namespace Go.Lgp
open Go.Ev Go.RowKit Go.Wbp
theorem Qgu {S:ByteArray} {a:Int} {p:Int->Bool} (h:(S.size:Int)<=a):Qbh S a p=.bad a:=by unfold Qbh;rw [if_pos h]
theorem Qhx {S:ByteArray} {a:Int} {p:Int->Bool} (h:p (bAt S a)=false):Qbh S a p=.bad a:=by unfold Qbh;rw [h];split<;>rfl
theorem Qdv {S:ByteArray} {a:Int} {p:Int->Bool} (h:a<(S.size:Int)) (hp:p (bAt S a)=true):Qbh S a p=.ok (bAt S a):=by unfold Qbh;rw [if_neg (by omega),hp];rfl
theorem Qws {S:ByteArray} {a:Int} {p:Int->Bool} (h: ¬((numL S a).getD 2 0=0/\p ((numL S a).getD 0 0)=true)):numP S a p=.bad a:=by unfold numP;rw [if_neg h]
theorem Qil {S:ByteArray} {a:Int} {p:Int->Bool} (h:(numL S a).getD 2 0=0) (hp:p ((numL S a).getD 0 0)=true):numP S a p=.ok ((numL S a).getD 0 0,a+(numL S a).getD 1 0):=by unfold numP;rw [if_pos ⟨h,hp⟩]
def P1 (last:En) (k n:Int):Prop:=last.r+min n (2*most)<=most/\(0<n\/last.k<k)
def P2 (last:En) (k n m:Int):Prop:=last.b+min m (2*most)<=last.r+min n (2*most)/\(0<n\/m=0\/k=255)
def cE (last:En) (k n m:Int):En:=⟨last.r+min n (2*most),last.b+min m (2*most),k,0⟩
theorem Qer {S:ByteArray} {a k:Int} {last:En} (h: ¬((numL S a).getD 2 0=0/\P1 last k ((numL S a).getD 0 0))):cntP S a last k=.bad a:=by
 unfold cntP;rw [Qws (by rw [decide_eq_true_eq];exact h)];rfl
theorem Qes {S:ByteArray} {a k:Int} {last:En} (h:(numL S a).getD 2 0=0) (hp:P1 last k ((numL S a).getD 0 0)) (h2: ¬((numL S (a+(numL S a).getD 1 0)).getD 2 0=0/\P2 last k ((numL S a).getD 0 0) ((numL S (a+(numL S a).getD 1 0)).getD 0 0))):cntP S a last k=.bad (a+(numL S a).getD 1 0):=by
 unfold cntP;rw [Qil h (by rw [decide_eq_true_eq];exact hp)];show (numP S (a+(numL S a).getD 1 0) _).bind _=_;rw [Qws (by rw [decide_eq_true_eq];exact h2)];rfl
theorem Qb0 {S:ByteArray} {a k:Int} {last:En} (h:(numL S a).getD 2 0=0) (hp:P1 last k ((numL S a).getD 0 0)) (h2:(numL S (a+(numL S a).getD 1 0)).getD 2 0=0) (hp2:P2 last k ((numL S a).getD 0 0) ((numL S (a+(numL S a).getD 1 0)).getD 0 0)):
  cntP S a last k=.ok (cE last k ((numL S a).getD 0 0) ((numL S (a+(numL S a).getD 1 0)).getD 0 0),a+(numL S a).getD 1 0+(numL S (a+(numL S a).getD 1 0)).getD 1 0):=by
 unfold cntP;rw [Qil h (by rw [decide_eq_true_eq];exact hp)];show (numP S (a+(numL S a).getD 1 0) _).bind _=_;rw [Qil h2 (by rw [decide_eq_true_eq];exact hp2)];rfl
theorem Qdy {S:ByteArray} {a k p:Int} {last:En} (h:cntP S a last k=.bad p):entP S a last k=.bad p:=by unfold entP;rw [h];rfl
theorem Q0k {S:ByteArray} {a k b:Int} {last x:En} (h:cntP S a last k=.ok (x,b)) (he:(S.size:Int)<=b):entP S a last k=.bad b:=by
 unfold entP;rw [h];show (Qbh S b _).bind _=_;rw [Qgu he];rfl
theorem Qpq {S:ByteArray} {a k b:Int} {last x:En} (h:cntP S a last k=.ok (x,b)) (he:b<(S.size:Int)) (hs:(S.size:Int)<=b+1\/ ¬bAt S (b+1)=sumS (S.extract 0 (b+1).toNat)):entP S a last k=.bad (b+1):=by
 unfold entP;rw [h];show (Qbh S b _).bind _=_;rw [Qdv he rfl];show (Qex S (b+1)).bind _=_;unfold Qex;rcases hs with hs|hs
 rw [Qgu hs];rfl;rw [Qhx (by simpa using hs)];rfl
theorem Qpp {S:ByteArray} {a k b:Int} {last x:En} (h:cntP S a last k=.ok (x,b)) (he:b+1<(S.size:Int)) (hs:bAt S (b+1)=sumS (S.extract 0 (b+1).toNat)):entP S a last k=.ok ({x with v:=bAt S b},b+2):=by
 unfold entP;rw [h];show (Qbh S b _).bind _=_;rw [Qdv (by omega) rfl];show (Qex S (b+1)).bind _=_;unfold Qex;rw [Qdv he (by simpa using hs)];rfl
theorem Qjt {S:ByteArray} {a:Int} (h:(S.size:Int)<=a\/ ¬(bAt S a<=2\/bAt S a=255)):Qeg S a=.bad a:=by
 unfold Qeg;rcases h with h|h
 exact Qgu h;refine Qhx ?_;simp only [Bool.or_eq_false_iff,decide_eq_false_iff_not,beq_eq_false_iff_ne,ne_eq];omega
theorem Qdg {S:ByteArray} {a:Int} (h:a<(S.size:Int)) (hk:bAt S a<=2\/bAt S a=255):Qeg S a=.ok (bAt S a):=by
 unfold Qeg;refine Qdv h ?_;simp only [Bool.or_eq_true,decide_eq_true_eq,beq_iff_eq];omega
def parK (S:ByteArray) (img:Int) (f:Nat) (a:Int) (last:En) (es:List En) (k:Int):Rd Lg:=
 if k=255 then finP S img a last es else (entP S a last k).bind fun x=>parF S img f x.2 x.1 (es++[x.1])
theorem Qkm {S:ByteArray} {img a:Int} {f:Nat} {last:En} {es:List En} {p:Int} (h:Qeg S a=.bad p):parF S img (f+1) a last es=.bad p:=by
 show (Qeg S a).bind _=_;rw [h];rfl
theorem Qdi {S:ByteArray} {img a k:Int} {f:Nat} {last:En} {es:List En} (h:Qeg S a=.ok k):parF S img (f+1) a last es=parK S img f (a+1) last es k:=by
 show (Qeg S a).bind _=_;rw [h];rfl
theorem Qcj {S:ByteArray} {img a k p:Int} {f:Nat} {last:En} {es:List En} (hk: ¬k=255) (h:entP S a last k=.bad p):parK S img f a last es k=.bad p:=by
 unfold parK;rw [if_neg hk,h];rfl
theorem Qr2 {S:ByteArray} {img a k b:Int} {f:Nat} {last x:En} {es:List En} (hk: ¬k=255) (h:entP S a last k=.ok (x,b)):parK S img f a last es k=parF S img f b x (es++[x]):=by
 unfold parK;rw [if_neg hk,h];rfl
theorem Qc7 {S:ByteArray} {img a:Int} {f:Nat} {last:En} {es:List En}:parK S img f a last es 255=finP S img a last es:=by
 unfold parK;rw [if_pos rfl]
theorem Qjm {S:ByteArray} {img a:Int} {last:En} {es:List En} (h: ¬((numL S a).getD 2 0=0/\(numL S a).getD 0 0<=1073741824)):finP S img a last es=.bad a:=by
 unfold finP;rw [Qws (by rw [decide_eq_true_eq];exact h)];rfl
theorem Qf0 {S:ByteArray} {img a p:Int} {last:En} {es:List En} (h:(numL S a).getD 2 0=0) (h0:(numL S a).getD 0 0<=1073741824) (hc:cntP S (a+(numL S a).getD 1 0) last 255=.bad p):finP S img a last es=.bad p:=by
 unfold finP;rw [Qil h (by rw [decide_eq_true_eq];exact h0)];show (cntP S (a+(numL S a).getD 1 0) last 255).bind _=_;rw [hc];rfl
theorem Qp3 {S:ByteArray} {img a b:Int} {last x:En} {es:List En} (h:(numL S a).getD 2 0=0) (h0:(numL S a).getD 0 0<=1073741824) (hc:cntP S (a+(numL S a).getD 1 0) last 255=.ok (x,b)) (ho:(S.size:Int)<=b\/ ¬bAt S b<=6):finP S img a last es=.bad b:=by
 unfold finP;rw [Qil h (by rw [decide_eq_true_eq];exact h0)];show (cntP S (a+(numL S a).getD 1 0) last 255).bind _=_;rw [hc];show (Qbh S b _).bind _=_;rcases ho with ho|ho
 rw [Qgu ho];rfl;rw [Qhx (by rw [decide_eq_false_iff_not];exact ho)];rfl
theorem Qp4 {S:ByteArray} {img a b:Int} {last x:En} {es:List En} (h:(numL S a).getD 2 0=0) (h0:(numL S a).getD 0 0<=1073741824) (hc:cntP S (a+(numL S a).getD 1 0) last 255=.ok (x,b)) (hb:b<(S.size:Int)) (ho:bAt S b<=6) (hs:(S.size:Int)<=b+1\/ ¬bAt S (b+1)=sumS (S.extract 0 (b+1).toNat)):finP S img a last es=.bad (b+1):=by
 unfold finP;rw [Qil h (by rw [decide_eq_true_eq];exact h0)];show (cntP S (a+(numL S a).getD 1 0) last 255).bind _=_;rw [hc];show (Qbh S b _).bind _=_;rw [Qdv hb (by rw [decide_eq_true_eq];exact ho)];show (Qex S (b+1)).bind _=_;unfold Qex;rcases hs with hs|hs
 rw [Qgu hs];rfl;rw [Qhx (by simpa using hs)];rfl
theorem Qp2 {S:ByteArray} {img a b:Int} {last x:En} {es:List En} (h:(numL S a).getD 2 0=0) (h0:(numL S a).getD 0 0<=1073741824) (hc:cntP S (a+(numL S a).getD 1 0) last 255=.ok (x,b)) (hb:b+1<(S.size:Int)) (ho:bAt S b<=6) (hs:bAt S (b+1)=sumS (S.extract 0 (b+1).toNat)):
  finP S img a last es=if b+2<(S.size:Int) then .bad (b+2) else .ok ⟨img,es,(numL S a).getD 0 0,x.r,x.b,bAt S b⟩:=by
 unfold finP;rw [Qil h (by rw [decide_eq_true_eq];exact h0)];show (cntP S (a+(numL S a).getD 1 0) last 255).bind _=_;rw [hc];show (Qbh S b _).bind _=_;rw [Qdv (by omega) (by rw [decide_eq_true_eq];exact ho)];show (Qex S (b+1)).bind _=_;unfold Qex;rw [Qdv hb (by simpa using hs)];rfl
theorem Qdo {S:ByteArray} {p:Int} (h:Qef S=.bad p):par S=.bad p:=by unfold par;rw [h];rfl
theorem Qr3 {S:ByteArray} {img:Int} (h:Qef S=.ok img):par S=parF S img (S.size+1) 7 noE []:=by unfold par;rw [h];rfl
theorem Qqb {S:ByteArray} (h:(S.size:Int)<=0\/ ¬bAt S 0=80):Qef S=.bad 0:=by
 unfold Qef;rcases h with h|h
 rw [Qgu h];rfl;rw [Qhx (by simpa using h)];rfl
theorem Qqc {S:ByteArray} (h0:bAt S 0=80) (z:1<=(S.size:Int)) (h:(S.size:Int)<=1\/ ¬bAt S 1=76):Qef S=.bad 1:=by
 unfold Qef;rw [Qdv (by omega) (by simpa using h0)];show (Qbh S 1 _).bind _=_;rcases h with h|h
 rw [Qgu h];rfl;rw [Qhx (by simpa using h)];rfl
theorem Qqd {S:ByteArray} (h0:bAt S 0=80) (h1:bAt S 1=76) (z:2<=(S.size:Int)) (h:(S.size:Int)<=2\/ ¬bAt S 2=1):Qef S=.bad 2:=by
 unfold Qef;rw [Qdv (by omega) (by simpa using h0)];show (Qbh S 1 _).bind _=_;rw [Qdv (by omega) (by simpa using h1)];show (Qbh S 2 _).bind _=_;rcases h with h|h
 rw [Qgu h];rfl;rw [Qhx (by simpa using h)];rfl
theorem Qjp {S:ByteArray} (h0:bAt S 0=80) (h1:bAt S 1=76) (h2:bAt S 2=1) (z:3<=(S.size:Int)):Qef S=if (S.size:Int)<7 then .bad 3 else .ok (((bAt S 3*256+bAt S 4)*256+bAt S 5)*256+bAt S 6):=by
 unfold Qef;rw [Qdv (by omega) (by simpa using h0)];show (Qbh S 1 _).bind _=_;rw [Qdv (by omega) (by simpa using h1)];show (Qbh S 2 _).bind _=_;rw [Qdv (by omega) (by simpa using h2)];rfl
theorem Qbcp {S:ByteArray} {a:Int} {P l:List Int} (hP:S.extract 0 a.toNat=bs P) (ha:a=(P.length:Int)) (hl:By l) (h:Has S a l):S.extract 0 (a+(l.length:Int)).toNat=bs (P++l):=by
 have e:=Qbdc hl h;obtain ⟨h0,h1,_⟩:=h;rw [<-Qdu,<-hP,<-e];apply Qpy;rw [ByteArray.size_append];simp only [ByteArray.size_extract];omega;intro j hj;simp only [ByteArray.size_extract] at hj;have k1:=Qb7 (s:=S) (a:=0) (b:=a+(l.length:Int)) (i:=(j:Int)) (by omega) (by omega) (by omega) (by omega) (by omega);rw [show (0:Int).toNat=0 by rfl] at k1;rw [k1,Int.zero_add];by_cases c:j<a.toNat;have:bAt (S.extract 0 a.toNat++S.extract a.toNat (a+(l.length:Int)).toNat) j=bAt (S.extract 0 a.toNat) j:=by
  unfold bAt;have hlen:j<(S.extract 0 a.toNat).data.toList.length:=by simp;omega
  simp only [ByteArray.data_append,Array.toList_append,List.getD_eq_getElem?_getD,Int.toNat_natCast];rw [List.getElem?_append_left hlen]
 have k2:=Qb7 (s:=S) (a:=0) (b:=a) (i:=(j:Int)) (by omega) (by omega) (by omega) (by omega) (by omega);rw [show (0:Int).toNat=0 by rfl] at k2;rw [this,k2,Int.zero_add];have hsz:(S.extract 0 a.toNat).data.toList.length=a.toNat:=by simp;omega
 have:bAt (S.extract 0 a.toNat++S.extract a.toNat (a+(l.length:Int)).toNat) j=bAt (S.extract a.toNat (a+(l.length:Int)).toNat) ((j-a.toNat:Nat):Int):=by
  unfold bAt;simp only [ByteArray.data_append,Array.toList_append,List.getD_eq_getElem?_getD,Int.toNat_natCast];rw [List.getElem?_append_right (by omega),hsz]
 have k2:=Qb7 (s:=S) (a:=a) (b:=a+(l.length:Int)) (i:=((j-a.toNat:Nat):Int)) (by omega) (by omega) (by omega) (by omega) (by omega);rw [this,k2]
 congr 1
 omega
theorem Qbdd {S:ByteArray} {a x:Int} (h0:0<=a) (h1:a<(S.size:Int)) (hx:bAt S a=x):Has S a [x]:=by
 refine ⟨h0,by simp only [List.length_cons,List.length_nil];omega,fun j hj=> ?_⟩;simp only [List.length_cons,List.length_nil] at hj;obtain rfl:j=0:=by omega
 simpa using hx
def Up (S:ByteArray) (a:Int) (P:List Int):Prop:=S.extract 0 a.toNat=bs P/\a=(P.length:Int)/\a<=(S.size:Int)/\By P
theorem Up.app {S:ByteArray} {a:Int} {P l:List Int} (h:Up S a P) (hl:By l) (g:Has S a l):Up S (a+(l.length:Int)) (P++l):=
 ⟨Qbcp h.1 h.2.1 hl g,by rw [List.length_append,h.2.1];push_cast;rfl,g.2.1,h.2.2.2.app hl⟩
theorem Up.one {S:ByteArray} {a:Int} {P:List Int} (h:Up S a P) (h1:a<(S.size:Int)):Up S (a+1) (P++[bAt S a]):=by
 have:=h.app (By.one (Qd S a)) (Qbdd (by rw [h.2.1];omega) h1 rfl);simpa using this
theorem Up.num {S:ByteArray} {a:Int} {P:List Int} (h:Up S a P) (hn:(numL S a).getD 2 0=0):Up S (a+(numL S a).getD 1 0) (P++pbL ((numL S a).getD 0 0)):=by
 obtain ⟨h1,h2⟩:=Qbkf (by rw [h.2.1];omega) hn;rw [h2];exact h.app (Qkn _) h1
theorem Up.sum {S:ByteArray} {a:Int} {P:List Int} (h:Up S a P):sumS (S.extract 0 a.toNat)=sumL P:=by rw [h.1,Qoj h.2.2.2]
theorem Rd.bind_ok {α β:Type} {x:Rd α} {f:α->Rd β} {b:β} (h:x.bind f=.ok b): ∃a,x=.ok a/\f a=.ok b:=by
 cases x with
 |bad p=>cases h
 |ok a=>exact ⟨a,rfl,h⟩
theorem Qgv {S:ByteArray} {a x:Int} {p:Int->Bool} (h:Qbh S a p=.ok x):a<(S.size:Int)/\p (bAt S a)=true/\x=bAt S a:=by
 unfold Qbh at h;split at h;cases h;split at h;rename_i h2;cases h;exact ⟨by omega,h2,rfl⟩;cases h
theorem Qrt {S:ByteArray} {a:Int} {x:Int×Int} {p:Int->Bool} (h:numP S a p=.ok x):(numL S a).getD 2 0=0/\p ((numL S a).getD 0 0)=true/\x=((numL S a).getD 0 0,a+(numL S a).getD 1 0):=by
 unfold numP at h;split at h;rename_i h2;cases h;exact ⟨h2.1,h2.2,rfl⟩;cases h
structure LOk (last:En):Prop where
 r0:0<=last.r
 r1:last.r<=1099511627776
 b0:0<=last.b
 b1:last.b<=last.r
theorem Qye:(2*most:Int)=2199023255552:=rfl
theorem Qzk {S:ByteArray} {a k:Int} {last:En} {x:En×Int} {P:List Int} (h:cntP S a last k=.ok x) (hu:Up S a P) (hl:LOk last):LOk x.1/\x.1.k=k/\x.1.v=0/\Up S x.2 (P++pbL (x.1.r-last.r)++pbL (x.1.b-last.b))/\last.r<=x.1.r/\last.b<=x.1.b/\(last.r<x.1.r\/(last.k<k/\(x.1.b=last.b\/k=255))):=by
 unfold cntP at h;obtain ⟨n,h1,h⟩:=Rd.bind_ok h;obtain ⟨n0,n1,rfl⟩:=Qrt h1;obtain ⟨m,h2,h⟩:=Rd.bind_ok h;obtain ⟨m0,m1,rfl⟩:=Qrt h2;cases h;have u1:=hu.num n0;have u2:=u1.num m0;have i1:=(Qik S a).1;have i2:=(Qik S (a+(numL S a).getD 1 0)).1;rw [decide_eq_true_eq,Qye,show most=1099511627776 from rfl] at n1;rw [decide_eq_true_eq,Qye] at m1;obtain ⟨l1,l2,l3,l4⟩:=hl;generalize (numL S a).getD 0 0=n at*;generalize (numL S (a+(numL S a).getD 1 0)).getD 0 0=m at*;show LOk ⟨last.r+min n (2*most),last.b+min m (2*most),k,0⟩/\k=k/\(0:Int)=0/\Up S _ (P++pbL (last.r+min n (2*most)-last.r)++pbL (last.b+min m (2*most)-last.b))/\last.r<=last.r+min n (2*most)/\last.b<=last.b+min m (2*most)/\(last.r<last.r+min n (2*most)\/(last.k<k/\(last.b+min m (2*most)=last.b\/k=255)));simp only [Qye];refine ⟨⟨?_,?_,?_,?_⟩,trivial,trivial,?_,by omega,by omega,by omega⟩;show 0<=last.r+min n 2199023255552;omega;show last.r+min n 2199023255552<=1099511627776;omega;show 0<=last.b+min m 2199023255552;omega;show last.b+min m 2199023255552<=last.r+min n 2199023255552;omega;rw [show last.r+min n 2199023255552-last.r=n by omega,show last.b+min m 2199023255552-last.b=m by omega];exact u2
theorem Qbdx {S:ByteArray} {a k:Int} (h:Qeg S a=.ok k):a<(S.size:Int)/\k=bAt S a/\((0<=k/\k<=2)\/k=255):=by
 obtain ⟨h1,h2,h3⟩:=Qgv h;have:=Qd S a;simp only [Bool.or_eq_true,decide_eq_true_eq,beq_iff_eq] at h2;refine ⟨h1,h3,by omega⟩
theorem Q81 {S:ByteArray} {a x:Int} {P:List Int} (h:Qex S a=.ok x) (hu:Up S a P):a<(S.size:Int)/\Up S (a+1) (P++[sumL P]):=by
 obtain ⟨h1,h2,h3⟩:=Qgv h;rw [beq_iff_eq,hu.sum] at h2;refine ⟨h1,?_⟩;have:=hu.one h1;rwa [h2] at this
theorem Qbce {S:ByteArray} {a k:Int} {last:En} {x:En×Int} {P:List Int} (h:entP S a last k=.ok x) (hk:0<=k/\k<=2) (hu:Up S a (P++[k])) (hl:LOk last):LOk x.1/\okV x.1/\x.1.k=k/\Qcx last x.1=true/\Up S x.2 (P++entB last x.1++[sumL (P++entB last x.1)]):=by
 unfold entP at h;obtain ⟨y,h1,h⟩:=Rd.bind_ok h;obtain ⟨v,h2,h⟩:=Rd.bind_ok h;obtain ⟨s,h3,h⟩:=Rd.bind_ok h;cases h;obtain ⟨c1,c2,c3,c4,c5,c6,c7⟩:=Qzk h1 hu hl;obtain ⟨v1,_,rfl⟩:=Qgv h2;have u1:=c4.one v1;have hv:=Qd S y.2;obtain ⟨l1,l2,l3,l4⟩:=c1;have e:P++[k]++pbL (y.1.r-last.r)++pbL (y.1.b-last.b)++[bAt S y.2]=P++entB last {y.1 with v:=bAt S y.2}:=by
  unfold entB;show _=P++([y.1.k%256]++pbL (y.1.r-last.r)++pbL (y.1.b-last.b)++[bAt S y.2%256]);rw [c2,show k%256=k by omega,show bAt S y.2%256=bAt S y.2 by omega];simp only [List.append_assoc]
 rw [e] at u1;obtain ⟨s1,u2⟩:=Q81 h3 u1;refine ⟨⟨l1,l2,l3,l4⟩,⟨?_,?_,?_,?_⟩,c2,?_,?_⟩;show IntKind.u64.wrap y.1.r=y.1.r;rw [Qg];omega;show IntKind.u64.wrap y.1.b=y.1.b;rw [Qg];omega;show IntKind.i64.wrap y.1.k=y.1.k;rw [Qh];omega;show IntKind.u8.wrap (bAt S y.2)=bAt S y.2;rw [wr_u8];omega;rw [Qso];show 0<=y.1.k/\y.1.k<=2/\y.1.r<=1099511627776/\y.1.b<=y.1.r/\last.b<=y.1.b/\((y.1.r=last.r/\last.k<y.1.k/\y.1.b=last.b)\/last.r<y.1.r);omega;have:y.2+1+1=y.2+2:=by omega
 rw [this] at u2;exact u2
def Good (S:ByteArray) (l:Lg):Prop:=right l=true/\S=bs (encG l)/\(∀x,x∈l.es->okV x)/\l.ret<=1099511627776/\0<=l.ret/\0<=l.br/\l.br<=l.ret
theorem Qbcv {S:ByteArray} {img a:Int} {last:En} {es:List En} {l:Lg} {P:List Int} (h:finP S img a last es=.ok l) (hu:Up S a (P++[255])) (hP:P=encS (head img) zeE es) (hl:LOk last) (h0:last=Qk noE es) (hr:last.r=(Qk zeE es).r) (hb:last.b=(Qk zeE es).b) (ha:Qd9 noE es=true) (hv: ∀x,x∈es->okV x):Good S l/\l.img=img:=by
 unfold finP at h;obtain ⟨c,h1,h⟩:=Rd.bind_ok h;obtain ⟨n0,n1,rfl⟩:=Qrt h1;obtain ⟨x,h2,h⟩:=Rd.bind_ok h;obtain ⟨o,h3,h⟩:=Rd.bind_ok h;obtain ⟨s,h4,h⟩:=Rd.bind_ok h;have u0:=hu.num n0;obtain ⟨c1,c2,c3,c4,c5,c6,c7⟩:=Qzk h2 u0 hl;obtain ⟨v1,v2,rfl⟩:=Qgv h3;have u1:=c4.one v1;obtain ⟨s1,u2⟩:=Q81 h4 u1;split at h;cases h;rename_i hsz;cases h;have i1:=(Qik S a).1;have bo:=Qd S x.2;rw [decide_eq_true_eq] at n1 v2;have hE:P++[255]++pbL ((numL S a).getD 0 0)++pbL (x.1.r-last.r)++pbL (x.1.b-last.b)++[bAt S x.2]=encP ⟨img,es,(numL S a).getD 0 0,x.1.r,x.1.b,bAt S x.2⟩:=by
  unfold encP finB;show _=encS (head img) zeE es++([255]++pbL ((numL S a).getD 0 0)++pbL (x.1.r-(Qk zeE es).r)++pbL (x.1.b-(Qk zeE es).b)++[bAt S x.2%256]);rw [<-hP,<-hr,<-hb,show bAt S x.2%256=bAt S x.2 by omega];simp only [List.append_assoc]
 rw [hE] at u2;obtain ⟨l1,l2,l3,l4⟩:=c1;refine ⟨⟨?_,?_,hv,l2,l1,l3,l4⟩,rfl⟩;rw [Qhl,Qxa];show (Qd9 noE es&&behind (Qk noE es) ⟨x.1.r,x.1.b,255,0⟩)=true/\0<=(numL S a).getD 0 0/\(numL S a).getD 0 0<=1073741824/\0<=bAt S x.2/\bAt S x.2<=6;rw [ha,Bool.true_and,Qll,<-h0];refine ⟨⟨l2,l4,c6,.inl ⟨rfl,c5⟩⟩,i1,n1,bo.1,v2⟩;obtain ⟨w1,w2,w3,w4⟩:=u2;have:S.extract 0 (x.2+1+1).toNat=S:=by
  apply Qpy;simp only [ByteArray.size_extract];omega;intro j hj;simp only [ByteArray.size_extract] at hj;have k1:=Qb7 (s:=S) (a:=0) (b:=(S.size:Int)) (i:=(j:Int)) (by omega) (by omega) (by omega) (by omega) (by omega);rw [show (x.2+1+1).toNat=(S.size:Int).toNat by omega];rw [show (0:Int).toNat=0 by rfl] at k1;rw [k1,Int.zero_add]
 rw [this] at w1;exact w1
theorem Q7o {S:ByteArray} {img:Int} {l:Lg}: ∀(f:Nat) (a:Int) (last:En) (es:List En),Up S a (encS (head img) zeE es)->LOk last->last=Qk noE es->last.r=(Qk zeE es).r->last.b=(Qk zeE es).b->Qd9 noE es=true->(∀x,x∈es->okV x)->parF S img f a last es=.ok l->Good S l/\l.img=img
 |0,_,_,_,_,_,_,_,_,_,_,h=>by cases h
 |f+1,a,last,es,hu,hl,h0,hr,hb,ha,hv,h=>by
  have h:(Qeg S a).bind _=_:=h;obtain ⟨k,h1,h⟩:=Rd.bind_ok h;obtain ⟨k1,k2,k3⟩:=Qbdx h1;have u1:=hu.one k1;rw [<-k2] at u1;split at h;rename_i hk;subst hk;exact Qbcv h u1 rfl hl h0 hr hb ha hv;rename_i hk;obtain ⟨x,h2,h⟩:=Rd.bind_ok h;obtain ⟨e1,e2,e3,e4,e5⟩:=Qbce h2 (by omega) u1 hl;have eB:entB last x.1=entB (Qk zeE es) x.1:=by unfold entB;rw [hr,hb]
  rw [eB,<-Qt6] at e5;refine Q7o f x.2 x.1 (es++[x.1]) e5 e1 (Qju _ _ _).symm (by rw [Qju]) (by rw [Qju]) ?_ ?_ h;rw [Qs7,ha,<-h0,e4];rfl;intro y hy;rcases List.mem_append.1 hy with hy|hy
  exact hv y hy;simp only [List.mem_singleton] at hy;subst hy;exact e2
theorem Q7q {S:ByteArray} {l:Lg} (h:par S=.ok l):Good S l/\0<=l.img/\l.img<4294967296:=by
 unfold par at h;obtain ⟨img,h1,h⟩:=Rd.bind_ok h;unfold Qef at h1;obtain ⟨x0,g0,h1⟩:=Rd.bind_ok h1;obtain ⟨x1,g1,h1⟩:=Rd.bind_ok h1;obtain ⟨x2,g2,h1⟩:=Rd.bind_ok h1;obtain ⟨_,p0,_⟩:=Qgv g0;obtain ⟨_,p1,_⟩:=Qgv g1;obtain ⟨_,p2,_⟩:=Qgv g2;rw [beq_iff_eq] at p0 p1 p2;split at h1;cases h1;rename_i hz;cases h1;have b3:=Qd S 3;have b4:=Qd S 4;have b5:=Qd S 5;have b6:=Qd S 6;have hh:Has S 0 (head (((bAt S 3*256+bAt S 4)*256+bAt S 5)*256+bAt S 6)):=by
  refine ⟨by omega,by simp [head];omega,fun j hj=> ?_⟩;have hj:j<7:=by simpa [head] using hj
  unfold head;obtain rfl|rfl|rfl|rfl|rfl|rfl|rfl:j=0\/j=1\/j=2\/j=3\/j=4\/j=5\/j=6:=by omega
  exact p0;exact p1;exact p2;show bAt S 3=_;simp only [List.getD_cons_zero,List.getD_cons_succ];omega;show bAt S 4=_;simp only [List.getD_cons_zero,List.getD_cons_succ];omega;show bAt S 5=_;simp only [List.getD_cons_zero,List.getD_cons_succ];omega;show bAt S 6=_;simp only [List.getD_cons_zero,List.getD_cons_succ];omega
 have u0:Up S 0 []:=⟨by
  apply Qpy;simp only [ByteArray.size_extract,Qbk];simp;intro j hj;simp only [ByteArray.size_extract] at hj;simp at hj,rfl,by omega,fun x hx=>by cases hx⟩
 have u7:=u0.app (Q1n _) hh;have u7:Up S 7 (head (((bAt S 3*256+bAt S 4)*256+bAt S 5)*256+bAt S 6)):=u7;obtain ⟨r1,r2⟩:=Q7o (S.size+1) 7 noE [] u7 ⟨by decide,by decide,by decide,by decide⟩ rfl rfl rfl rfl (fun x hx=>by cases hx) h;exact ⟨r1,by omega,by omega⟩
theorem Q0i: ∀(P:List Int) (d:En) (l:List En),∃t,encS P d l=P++t
 |P,_,[]=>⟨[],by simp [encS]⟩
 |P,d,x::l=>by
  obtain ⟨t,ht⟩:=Q0i (P++entB d x++[sumL (P++entB d x)]) x l;exact ⟨entB d x++[sumL (P++entB d x)]++t,by show encS _ x l=_;rw [ht];simp only [List.append_assoc]⟩
theorem Qt5: ∀(P:List Int) (d:En) (l:List En),P.length+l.length<=(encS P d l).length
 |_,_,[]=>by simp [encS]
 |P,d,x::l=>by
  have:=Qt5 (P++entB d x++[sumL (P++entB d x)]) x l;have h2:=Qt8 d x;rw [List.length_append,List.length_append,List.length_singleton] at this;simp only [List.length_cons];show _<=(encS _ x l).length;omega
theorem Rd.bind_bad {α β:Type} {x:Rd α} {f:α->Rd β} {p:Int} (h:x.bind f=.bad p):x=.bad p\/ ∃a,x=.ok a/\f a=.bad p:=by
 cases x with
 |bad q=>left;cases h;rfl
 |ok a=>exact .inr ⟨a,rfl,h⟩
def In (S:ByteArray) (p:Int):Prop:=0<=p/\p<=(S.size:Int)
theorem Qgt {S:ByteArray} {a q:Int} {p:Int->Bool} (h:Qbh S a p=.bad q):q=a:=by
 unfold Qbh at h;split at h;cases h;rfl;split at h<;>cases h;rfl
theorem Qwr {S:ByteArray} {a q:Int} {p:Int->Bool} (h:numP S a p=.bad q):q=a:=by
 unfold numP at h;split at h<;>cases h;rfl
theorem Qrs {S:ByteArray} {a:Int} {x:Int×Int} {p:Int->Bool} (ha:In S a) (h:numP S a p=.ok x):In S x.2:=by
 obtain ⟨h1,h2,rfl⟩:=Qrt h;have:=Qik S a;obtain ⟨a1,a2⟩:=ha;show 0<=a+(numL S a).getD 1 0/\a+(numL S a).getD 1 0<=(S.size:Int);omega
theorem Qzj {S:ByteArray} {a k:Int} {last:En} (ha:In S a):(∀q,cntP S a last k=.bad q->In S q)/\ ∀x,cntP S a last k=.ok x->In S x.2:=by
 refine ⟨fun q h=> ?_,fun x h=> ?_⟩;rcases Rd.bind_bad h with h|⟨n,h1,h⟩
 rw [Qwr h];exact ha;have h2:=Qrs ha h1;rcases Rd.bind_bad h with h|⟨m,h3,h⟩
 rw [Qwr h];exact h2;cases h;obtain ⟨n,h1,h⟩:=Rd.bind_ok h;obtain ⟨m,h2,h⟩:=Rd.bind_ok h;cases h;exact Qrs (Qrs ha h1) h2
theorem Qfw {S:ByteArray} {a x:Int} {p:Int->Bool} (ha:In S a) (h:Qbh S a p=.ok x):In S (a+1):=by
 obtain ⟨h1,_,_⟩:=Qgv h;obtain ⟨a1,a2⟩:=ha;exact ⟨by omega,by omega⟩
theorem Qbcd {S:ByteArray} {a k:Int} {last:En} (ha:In S a):(∀q,entP S a last k=.bad q->In S q)/\ ∀x,entP S a last k=.ok x->In S x.2:=by
 obtain ⟨c1,c2⟩:=Qzj (k:=k) (last:=last) ha;refine ⟨fun q h=> ?_,fun x h=> ?_⟩;rcases Rd.bind_bad h with h|⟨y,h1,h⟩;exact c1 q h;have i1:=c2 y h1;rcases Rd.bind_bad h with h|⟨v,h2,h⟩;rw [Qgt h];exact i1;have i2:=Qfw i1 h2;rcases Rd.bind_bad h with h|⟨s,h3,h⟩;rw [Qgt h];exact i2;cases h;obtain ⟨y,h1,h⟩:=Rd.bind_ok h;obtain ⟨v,h2,h⟩:=Rd.bind_ok h;obtain ⟨s,h3,h⟩:=Rd.bind_ok h;cases h;have:=Qfw (Qfw (c2 y h1) h2) h3;show In S (y.2+2);rwa [show y.2+1+1=y.2+2 by omega] at this
theorem Qbcu {S:ByteArray} {img a q:Int} {last:En} {es:List En} (ha:In S a) (h:finP S img a last es=.bad q):In S q:=by
 rcases Rd.bind_bad h with h|⟨c,h1,h⟩;rw [Qwr h];exact ha;have i1:=Qrs ha h1;obtain ⟨c1,c2⟩:=Qzj (k:=255) (last:=last) i1;rcases Rd.bind_bad h with h|⟨y,h2,h⟩;exact c1 q h;have i2:=c2 y h2;rcases Rd.bind_bad h with h|⟨o,h3,h⟩;rw [Qgt h];exact i2;have i3:=Qfw i2 h3;rcases Rd.bind_bad h with h|⟨s,h4,h⟩;rw [Qgt h];exact i3;have i4:=Qfw i3 h4;split at h;cases h;rwa [show y.2+1+1=y.2+2 by omega] at i4;cases h
theorem Q7n {S:ByteArray} {img q:Int}: ∀(f:Nat) (a:Int) (last:En) (es:List En),In S a->parF S img f a last es=.bad q->In S q
 |0,a,_,_,ha,h=>by cases h;exact ha
 |f+1,a,last,es,ha,h=>by
  have h:(Qeg S a).bind _=_:=h;rcases Rd.bind_bad h with h|⟨k,h1,h⟩
  rw [Qgt h];exact ha;have i1:=Qfw ha h1;split at h;exact Qbcu i1 h;obtain ⟨c1,c2⟩:=Qbcd (k:=k) (last:=last) i1;rcases Rd.bind_bad h with h|⟨x,h2,h⟩
  exact c1 q h;exact Q7n f x.2 x.1 _ (c2 x h2) h
theorem Q7p {S:ByteArray} {q:Int} (h:par S=.bad q):In S q:=by
 rcases Rd.bind_bad h with h|⟨img,h1,h⟩;rcases Rd.bind_bad h with h|⟨x0,g0,h⟩;rw [Qgt h];exact ⟨by omega,by omega⟩;have i0:=Qfw (a:=0) ⟨by omega,by omega⟩ g0;rcases Rd.bind_bad h with h|⟨x1,g1,h⟩;rw [Qgt h];exact i0;have i1:=Qfw (a:=1) i0 g1;rcases Rd.bind_bad h with h|⟨x2,g2,h⟩;rw [Qgt h];exact i1;have i2:=Qfw (a:=2) i1 g2;split at h;cases h;exact i2;cases h;obtain ⟨x0,g0,h1⟩:=Rd.bind_ok h1;obtain ⟨x1,g1,h1⟩:=Rd.bind_ok h1;obtain ⟨x2,g2,h1⟩:=Rd.bind_ok h1;split at h1;cases h1;exact Q7n _ 7 _ _ ⟨by omega,by omega⟩ h
theorem Q0g: ∀(P:List Int) (d:En) (l m:List En),encS P d (l++m)=encS (encS P d l) (Qk d l) m
 |_,_,[],_=>rfl
 |P,d,x::l,m=>Q0g (P++entB d x++[sumL (P++entB d x)]) x l m
def pre (L:Lg) (k:Nat):List Int:=encS (head L.img) zeE (L.es.take k)
theorem Qbk5 (L:Lg) (k:Nat): ∃t,encG L=pre L k++t:=by
 obtain ⟨t,ht⟩:=Q0i (pre L k) (Qk zeE (L.es.take k)) (L.es.drop k);refine ⟨t++finB (Qk zeE L.es) L++[sumL (encP L)],?_⟩;have h:encS (head L.img) zeE L.es=pre L k++t:=by
  conv=>lhs;rw [<-List.take_append_drop k L.es]
  rw [Q0g];exact ht
 unfold encG encP;rw [h];simp only [List.append_assoc]
theorem Qbk6 (L:Lg) (k:Nat):7<=(pre L k).length:=by
 have:=Qt5 (head L.img) zeE (L.es.take k);have h7:(head L.img).length=7:=rfl;unfold pre;omega
theorem Qbj1 (L:Lg) (k:Nat):(pre L k).length<=(bs (encG L)).size:=by
 obtain ⟨t,ht⟩:=Qbk5 L k;rw [Qbk,ht,List.length_append];omega
structure LgOk (L:Lg):Prop where
 rt:right L=true
 val: ∀x,x∈L.es->okV x
 len:L.es.length<=60
 im:0<=L.img/\L.img<4294967296
theorem LgOk.lst {L:Lg} (h:LgOk L):lstE (encL L.es) L.es.length=L.es:=Qnv h.val
theorem LgOk.take {L:Lg} (h:LgOk L) {k:Nat} (hk:k<=L.es.length):lstE (encL L.es) k=L.es.take k:=by rw [<-Qbjj _ hk,h.lst]
theorem LgOk.pre_le {L:Lg} (h:LgOk L) {k:Nat} (hk:k<=L.es.length):(pre L k).length<=1200:=by
 have h1:=Qje L.img (encL L.es) k;have h2:encI L.img (encL L.es) k=pre L k:=by unfold encI pre;rw [h.take hk]
 have:=h.len;rw [h2] at h1;omega
theorem LgOk.size {L:Lg} (h:LgOk L):(bs (encG L)).size<=1300:=by
 have h1:=h.pre_le (k:=L.es.length) (Nat.le_refl _);have h2:=Q0y (Qk zeE L.es) L;rw [Qbk];unfold encG encP;unfold pre at h1;rw [List.take_length] at h1;simp only [List.length_append,List.length_cons,List.length_nil];omega
structure RdOk (S:ByteArray) (l:Lg):Prop where
 eq:S=bs (encG l)
 rt:right l=true
 n:l.es.length+8<=S.size
 im:0<=l.img/\l.img<4294967296
 cy:0<=l.cyc/\l.cyc<=1073741824
 re:0<=l.ret/\l.ret<=1099511627776
 br:0<=l.br/\l.br<=1099511627776
 ou:0<=l.out/\l.out<=6
 lst:lstE (encL l.es) l.es.length=l.es
 val: ∀x,x∈l.es->okV x
theorem rd_ok {S:ByteArray} {l:Lg} (h:par S=.ok l):RdOk S l:=by
 obtain ⟨⟨h1,h2,h3,h4,h5,h6,h7⟩,h8,h9⟩:=Q7q h;have hr:=h1;rw [Qhl] at hr;refine ⟨h2,h1,?_,⟨h8,h9⟩,⟨hr.2.1,hr.2.2.1⟩,⟨h5,h4⟩,⟨h6,by omega⟩,⟨hr.2.2.2.1,hr.2.2.2.2⟩,Qnv h3,h3⟩;have h:=Qt5 (head l.img) zeE l.es;have h7:(head l.img).length=7:=rfl;rw [h2,Qbk];unfold encG encP;simp only [List.length_append,List.length_cons,List.length_nil];omega
theorem ok_of {S:ByteArray} (h:(par S).isOk=true): ∃l,par S=.ok l:=by
 cases hp:par S with
 |bad p=>rw [hp] at h;cases h
 |ok l=>exact ⟨l,rfl⟩
end Go.Lgp
set_option maxRecDepth 100000
namespace Go.Proofs.YtelimhjceiamcaaDoor.lg
open Go.Ev Go.RowKit Go.Wbp Go.Lgp
open Go.Proofs.YtelimhjceiamcaaDoor.lgn (mixed sf48 Qbu)
def rdB:Blk:=.cells [.ptr 1 0,.s 0] 83
def inB (a:AVal):Blk:=.cells [.syms 0,a,.niliface] 107
def Q5y:Shape:=⟨argT 0 [.ptr 0 0],[rdB,inB (.z 0)]⟩
def Qbip:List Blk:=[rdB,inB (.symi .i64 1),.cells [.symi .u32 2,.lsl 4 4 true (.int .i64 0) (.symi .i64 3),.int .i64 0,.int .u64 0,.int .u64 0,.int .i64 0] 26,.cells [.symi .u64 4,.symi .u64 5,.symi .i64 6,.symi .u8 7] 61,.lst (.syms 8) (.symi .i64 3) cl4 61]
def Qbi7:List (Nat×AVal):=[(0,.ptr 0 0),(2,.ptr 2 0),(3,.ptr 3 0)]
def Qei:Shape:=⟨Qbi7++[(4,.i 9)],Qbip⟩
def Qf9:List (Option IntKind):=[none,some .i64,some .u32,some .i64,some .u64,some .u64,some .i64,some .u8,none,some .i64]
def Q8:Shape:=⟨[(0,.ptr 0 0)],[rdB,.gone]⟩
def corA (i:Nat):AVal:=.iface 77 (.agg [.symi .i64 i])
def Qq9:List AVal:=[.w 4,.lsl 2 4 true (.z 0) (.i 3),.i 5,.u 6,.u 7,.i 8]
def Q5i:Shape:=⟨[(0,.ptr 0 0),(2,.ptr 3 0)],[rdB,.gone,.lst (.s 2) (.i 3) cl4 61,.cells Qq9 26]⟩
def sf32:SymF:=
 {f:=32,m:=1,ins:=[none],args:=[.ptr 0 0],pre:=[rdB,inB (.z 0)],pcs:=[.q .leq (.i 1) (.z 1000000),.fnb 576 [.s 0]],
  G:=[.sop .len [.s 0],.sop (.fs 578) [.s 0],.fn 579 .i64 [.s 0],.fn 580 .u32 [.s 0],.fn 581 .i64 [.s 0],.fn 582 .u64 [.s 0],.fn 583 .u64 [.s 0],.fn 584 .i64 [.s 0]],
  v:=.agg Qq9,post:=[rdB,.gone,.lst (.s 2) (.i 3) cl4 61,.cells Qq9 26]}
def Qhr:SymF:=
 {f:=32,m:=1,ins:=[none],args:=[.ptr 0 0],pre:=[rdB,inB (.z 0)],pcs:=[.q .leq (.i 1) (.z 1000000),.fnb 585 [.s 0]],
  G:=[.sop .len [.s 0],.fn 577 .i64 [.s 0]],v:=corA 2,post:=[rdB,.gone],pan:=true}
def Qm5:List SDef:=[.sop .len [.s 0],
 .q .leq (.i 1) (.z 1000000),
 .q .sub (.i 1) (.z 0),
 .q .eql (.i 3) (.z 0),
 .q .lss (.z 0) (.i 1),
 .sop .at [.s 0,.z 0],
 .q .eql (.c 6) (.int .u8 80),
 .un .not (.symb 7),
 .q .sub (.i 1) (.z 1),
 .q .eql (.i 9) (.z 0),
 .q .lss (.z 1) (.i 1),
 .sop .at [.s 0,.z 1],
 .q .eql (.c 12) (.int .u8 76),
 .un .not (.symb 13),
 .q .sub (.i 1) (.z 2),
 .q .eql (.i 15) (.z 0),
 .q .lss (.z 2) (.i 1),
 .sop .at [.s 0,.z 2],
 .q .eql (.c 18) (.int .u8 1),
 .un .not (.symb 19),
 .q .sub (.i 1) (.z 3),
 .q .lss (.i 21) (.z 4),
 .q .eql (.i 21) (.z 0),
 .q .lss (.z 3) (.i 1),
 .sop .at [.s 0,.z 3],
 .conv .u32 (.c 25),
 .q .or (.int .u32 0) (.w 26),
 .q .shl (.w 27) (.o 8),
 .q .sub (.i 1) (.z 4),
 .q .eql (.i 29) (.z 0),
 .q .lss (.z 4) (.i 1),
 .sop .at [.s 0,.z 4],
 .q .or (.w 28) (.int .u32 0),
 .conv .u32 (.c 32),
 .q .or (.w 28) (.w 34),
 .q .shl (.w 33) (.o 8),
 .q .or (.w 36) (.int .u32 0),
 .q .shl (.w 37) (.o 8),
 .q .or (.w 38) (.int .u32 0),
 .q .shl (.w 35) (.o 8),
 .q .sub (.i 1) (.z 5),
 .q .eql (.i 41) (.z 0),
 .q .lss (.z 5) (.i 1),
 .sop .at [.s 0,.z 5],
 .q .or (.w 40) (.int .u32 0),
 .conv .u32 (.c 44),
 .q .or (.w 40) (.w 46),
 .q .shl (.w 45) (.o 8),
 .q .or (.w 48) (.int .u32 0),
 .q .shl (.w 47) (.o 8),
 .q .sub (.i 1) (.z 6),
 .q .eql (.i 51) (.z 0),
 .q .lss (.z 6) (.i 1),
 .sop .at [.s 0,.z 6],
 .q .or (.w 50) (.int .u32 0),
 .conv .u32 (.c 54),
 .q .or (.w 50) (.w 56),
 .q .sub (.i 1) (.z 7),
 .q .eql (.i 58) (.z 0),
 .q .lss (.z 7) (.i 1),
 .sop .at [.s 0,.z 7],
 .conv .i64 (.c 61),
 .q .leq (.i 62) (.z 2),
 .q .eql (.c 61) (.int .u8 255),
 .ite (.symb 63) (.bool true) (.symb 64),
 .un .not (.symb 65)]
def Q33:LT:=Go.Wbp.fT 1 Qm5 (.n (.n (.n (.n (.n (.n (.n .e 7086 1 .e) 167574 6 .e) 193459 12 (.n .e 219344 18 .e)) 245229 25 (.n (.n .e 271114 32 .e) 296999 44 (.n .e 322884 54 .e))) 348769 61 (.n (.n (.n .e 74784739 34 .e) 101010627 3 (.n .e 101060662 9 .e)) 101110697 15 (.n (.n .e 101160732 21 .e) 101210767 29 (.n .e 101260802 41 .e)))) 101310837 51 (.n (.n (.n (.n (.n .e 101360872 58 .e) 112195171 36 .e) 122766409 66 (.n .e 142074863 13 .e)) 168000862 65 (.n (.n .e 193307883 56 .e) 237046620 46 (.n .e 239302228 14 .e))) 250456980 48 (.n (.n (.n .e 303011303 4 .e) 314195777 40 (.n .e 337288583 27 .e)) 343383798 5 (.n (.n .e 343384303 11 .e) 343384808 17 (.n .e 343385313 24 .e))))) 343385818 31 (.n (.n (.n (.n (.n (.n .e 343386323 43 .e) 343386828 53 .e) 343387333 60 (.n .e 414795786 37 .e)) 427524403 26 (.n (.n .e 441273112 16 .e) 452457586 50 (.n .e 489318833 59 .e))) 506954195 47 (.n (.n (.n .e 516196383 38 .e) 543416758 35 (.n .e 553057595 49 .e)) 579935180 28 (.n (.n .e 610015012 7 .e) 616796392 39 (.n .e 655525697 57 .e)))) 680535189 33 (.n (.n (.n (.n .e 707024057 8 .e) 743886676 2 (.n .e 744324056 19 .e)) 755058201 55 (.n (.n .e 781535527 30 .e) 805078667 64 (.n .e 818796998 45 .e))) 845322226 20 (.n (.n (.n .e 856058539 52 .e) 893420136 63 (.n .e 909013121 10 .e)) 914310046 62 (.n (.n .e 919797336 42 .e) 1047274930 23 (.n .e 1047475084 22 .e))))))
def Q34:Sw:=.x 2 (.run (.node 4 (.leaf (.pan (.iface 77 (.agg [.i 2]))) Q8 [(0,0),(1,0)] [(0,.s 0)] [(2,.z 0)]) (.node 5 (.node 8 (.leaf (.pan (.iface 77 (.agg [.i 2]))) Q8 [(0,0),(1,0)] [(0,.s 0)] [(2,.z 0)]) (.node 10 (.leaf (.pan (.iface 77 (.agg [.i 2]))) Q8 [(0,0),(1,0)] [(0,.s 0)] [(2,.z 1)]) (.node 11 (.node 14 (.leaf (.pan (.iface 77 (.agg [.i 2]))) Q8 [(0,0),(1,0)] [(0,.s 0)] [(2,.z 1)]) (.node 16 (.leaf (.pan (.iface 77 (.agg [.i 2]))) Q8 [(0,0),(1,0)] [(0,.s 0)] [(2,.z 2)]) (.node 17 (.node 20 (.leaf (.pan (.iface 77 (.agg [.i 2]))) Q8 [(0,0),(1,0)] [(0,.s 0)] [(2,.z 2)]) (.node 22 (.leaf (.pan (.iface 77 (.agg [.i 2]))) Q8 [(0,0),(1,0)] [(0,.s 0)] [(2,.z 3)]) (.node 23 (.dead) (.node 24 (.node 30 (.dead) (.node 31 (.node 42 (.dead) (.node 43 (.node 52 (.dead) (.node 53 (.node 59 (.leaf (.pan (.iface 77 (.agg [.i 2]))) Q8 [(0,0),(1,0)] [(0,.s 0)] [(2,.z 7)]) (.node 60 (.node 66 (.leaf (.pan (.iface 77 (.agg [.i 2]))) Q8 [(0,0),(1,0)] [(0,.s 0)] [(2,.z 7)]) (.leaf .normal Qei [(0,0),(1,0),(2,0),(7,0),(1000004,0)] [(9,.i 62),(0,.s 0),(0,.s 0),(1,.z 8),(2,.w 57),(3,.z 0),(4,.o 0),(5,.o 0),(6,.z (-1)),(7,.int .u8 0),(8,.str ⟨#[]⟩),(3,.z 0)] [])) (.dead))) (.dead))) (.dead))) (.dead))) (.dead))))) (.dead)))) (.dead)))) (.dead))))
def Qbg3:KdT:=kdN 0x130014443001444444300144444444300144430001003001003001003001000 7 1 0
noncomputable def Q35:Ing:={m:=1,ins:=[none],G:=Qm5,T:=Q33,tab:=Qa,lsts:=Qs,kb:=67,kt:=Qbg3}
noncomputable def Qvd:Ing:={Q35 with mh:=Qbr (kdX Q35) [sf48,sf20]}
theorem Q36:okLT 1 Qm5 Q33=true:=by kernel_rfl
theorem Qbg4 (F:List Fact):Hooks Tryd.prog (cxOf Qvd F):=
  Qcy (l:=[sf48,sf20]) rfl rfl rfl rfl rfl Q36 rfl rfl rfl ⟨lgn.wn48_contract,c20,trivial⟩ F
theorem Qbg5:SegOk Tryd.prog Qa 84 ((Qe (Qc Tryd.f32)).take 4) Q5y Qvd Q34:=
  ⟨Q36,by kernel_rfl,Qbg4,rfl,by kernel_rfl,by kernel_rfl,rfl,rfl,fun _=>trivial,by kernel_rfl⟩
def Qm6:List SDef:=[.sop .len [.s 0],
 .q .leq (.z 0) (.i 1),
 .q .leq (.i 1) (.i 10),
 .q .leq (.i 10) (.z 1000000),
 .q .neq (.i 9) (.z 255),
 .fn 128 .u64 [.s 0,.i 1],
 .fn 129 .i64 [.s 0,.i 1],
 .fn 130 .i64 [.s 0,.i 1],
 .q .eql (.i 17) (.z 0),
 .q .add (.i 1) (.i 16),
 .q .leq (.z 0) (.i 19),
 .q .leq (.i 19) (.i 10),
 .fn 128 .u64 [.s 0,.i 19],
 .fn 129 .i64 [.s 0,.i 19],
 .fn 130 .i64 [.s 0,.i 19],
 .q .eql (.i 24) (.z 0),
 .q .add (.i 19) (.i 23),
 .q .leq (.z 0) (.i 26),
 .q .leq (.i 26) (.i 10),
 .q .add (.i 26) (.z 1),
 .sop .sub [.s 0,.z 0,.i 29],
 .sop .len [.s 30],
 .q .leq (.i 31) (.z 1000000),
 .q .neq (.i 17) (.z 0),
 .ite (.symb 33) (.i 1) (.z 0),
 .low [.u 15,.o 2199023255552],
 .q .add (.u 4) (.u 35),
 .q .leq (.u 36) (.o 1099511627776),
 .q .gtr (.u 15) (.o 0),
 .q .gtr (.i 9) (.i 6),
 .ite (.symb 38) (.bool true) (.symb 39),
 .ite (.symb 37) (.symb 40) (.bool false),
 .un .not (.symb 41),
 .q .neq (.i 24) (.z 0),
 .ite (.symb 43) (.i 19) (.z 0),
 .low [.u 22,.o 2199023255552],
 .q .add (.u 5) (.u 45),
 .q .leq (.u 46) (.u 36),
 .q .eql (.u 22) (.o 0),
 .q .eql (.i 9) (.z 255),
 .ite (.symb 38) (.bool true) (.symb 48),
 .ite (.symb 47) (.symb 50) (.bool false),
 .un .not (.symb 51),
 .q .sub (.i 10) (.i 26),
 .q .eql (.i 53) (.z 0),
 .q .lss (.i 26) (.i 10),
 .sop .at [.s 0,.i 26],
 .q .leq (.z 0) (.i 29),
 .q .leq (.i 29) (.i 10),
 .fn 384 .u8 [.s 30],
 .q .sub (.i 10) (.i 29),
 .q .eql (.i 60) (.z 0),
 .q .lss (.i 29) (.i 10),
 .sop .at [.s 0,.i 29],
 .q .add (.i 29) (.z 1),
 .q .eql (.c 63) (.c 59),
 .un .not (.symb 65),
 .sop (.row [.some .u64,.some .u64,.some .i64,.some .u8]) [.u 36,.u 46,.i 9,.c 56],
 .sop .cat [.s 8,.s 67],
 .q .add (.i 3) (.z 1),
 .q .leq (.z 0) (.i 69),
 .q .leq (.i 69) (.z 4398046511104),
 .q .sub (.i 10) (.i 64),
 .q .eql (.i 72) (.z 0),
 .q .leq (.z 0) (.i 64),
 .q .lss (.i 64) (.i 10),
 .sop .at [.s 0,.i 64],
 .q .add (.i 64) (.z 1),
 .conv .i64 (.c 76),
 .q .leq (.i 78) (.z 2),
 .q .eql (.c 76) (.int .u8 255),
 .ite (.symb 79) (.bool true) (.symb 80),
 .un .not (.symb 81)]
def Q37:LT:=Go.Wbp.fT 10 Qm6 (.n (.n (.n (.n (.n (.n (.n .e 7086 10 .e) 21628782 77 .e) 24822332 51 (.n .e 44303559 67 .e)) 69106915 70 (.n (.n (.n .e 74533406 48 .e) 81297247 20 .e) 104731662 45 (.n .e 122766409 66 .e))) 152491939 26 (.n (.n (.n (.n .e 172599558 80 .e) 218272750 44 .e) 225978747 19 (.n .e 229868860 60 .e)) 233909151 75 (.n (.n .e 261088322 37 .e) 273549953 53 (.n .e 276534012 25 .e)))) 276534019 43 (.n (.n (.n (.n (.n .e 293607546 57 .e) 303061261 69 .e) 311831027 78 (.n .e 313341031 12 .e)) 315750613 68 (.n (.n .e 337288639 27 .e) 343383805 11 (.n .e 361941330 79 .e))) 365952773 41 (.n (.n (.n (.n .e 384853359 56 .e) 429471242 35 .e) 433954401 40 (.n .e 436083993 72 .e)) 441186142 34 (.n (.n .e 441273140 38 .e) 478584576 29 (.n .e 499822679 74 .e))))) 513186674 81 (.n (.n (.n (.n (.n (.n .e 545347797 30 .e) 552670285 32 .e) 579147576 13 (.n .e 610246676 36 .e)) 616689196 76 (.n (.n (.n .e 643273718 18 .e) 643273725 33 .e) 665077910 82 (.n .e 690864945 55 .e))) 690864952 28 (.n (.n (.n (.n .e 691319439 61 .e) 708941990 59 .e) 715225148 31 (.n .e 719257421 50 .e)) 781585485 64 (.n (.n .e 821670977 39 .e) 829581248 73 (.n .e 839931768 15 .e)))) 839931811 16 (.n (.n (.n (.n (.n .e 839931854 17 .e) 851106751 65 .e) 856203401 52 (.n .e 883514374 63 .e)) 900645770 47 (.n (.n .e 919911898 42 .e) 921772046 49 (.n .e 921772053 14 .e))) 923557278 46 (.n (.n (.n (.n .e 923706826 22 .e) 923706869 23 .e) 923706912 24 (.n .e 985492107 71 .e)) 993865854 62 (.n (.n .e 993865861 58 .e) 1057604658 21 (.n .e 1058059145 54 .e))))))
def Qve:Sw:=.x 11 (.x 12 (.x 13 (.n 14 (.n 18 (.x 20 (.x 21 (.n 25 (.x 27 (.x 28 (.x 32 (.y 33 (.y 43 (.y 49 (.x 57 (.x 70 (.x 71 (.x 74 (.run (.node 42 (.leaf (.pan (.iface 77 (.agg [.i 2]))) Q8 [(0,0),(1,0)] [(0,.s 0)] [(2,.i 1)]) (.node 52 (.leaf (.pan (.iface 77 (.agg [.i 2]))) Q8 [(0,0),(1,0)] [(0,.s 0)] [(2,.i 19)]) (.node 54 (.leaf (.pan (.iface 77 (.agg [.i 2]))) Q8 [(0,0),(1,0)] [(0,.s 0)] [(2,.i 26)]) (.node 55 (.node 58 (.node 61 (.leaf (.pan (.iface 77 (.agg [.i 2]))) Q8 [(0,0),(1,0)] [(0,.s 0)] [(2,.i 29)]) (.node 62 (.node 66 (.leaf (.pan (.iface 77 (.agg [.i 2]))) Q8 [(0,0),(1,0)] [(0,.s 0)] [(2,.i 29)]) (.node 73 (.leaf (.pan (.iface 77 (.agg [.i 2]))) Q8 [(0,0),(1,0)] [(0,.s 0)] [(2,.i 64)]) (.node 75 (.node 82 (.leaf (.pan (.iface 77 (.agg [.i 2]))) Q8 [(0,0),(1,0)] [(0,.s 0)] [(2,.i 64)]) (.leaf .normal Qei [(0,0),(1,0),(2,0),(3,0),(12,0)] [(9,.i 78),(0,.s 0),(0,.s 0),(1,.i 77),(2,.w 2),(3,.i 69),(4,.u 36),(5,.u 46),(6,.i 9),(7,.c 56),(8,.s 68),(3,.i 69)] [])) (.dead)))) (.dead))) (.dead)) (.dead)))))))))))))))) (.y 33 (.x 43 (.run (.node 42 (.leaf (.pan (.iface 77 (.agg [.i 2]))) Q8 [(0,0),(1,0)] [(0,.s 0)] [(2,.i 1)]) (.leaf (.pan (.iface 77 (.agg [.i 2]))) Q8 [(0,0),(1,0)] [(0,.s 0)] [(2,.i 19)])))))))) (.x 33 (.run (.leaf (.pan (.iface 77 (.agg [.i 2]))) Q8 [(0,0),(1,0)] [(0,.s 0)] [(2,.i 1)])))) (.run (.leaf (.exit 0) Qei [(0,0),(1,0),(2,0),(3,0),(4,0)] [(9,.i 9),(0,.s 0),(0,.s 0),(1,.i 1),(2,.w 2),(3,.i 3),(4,.u 4),(5,.u 5),(6,.i 6),(7,.c 7),(8,.s 8),(3,.i 3)] [])))))
def Qbg6:KdT:=kdN 0x1130001001000013001300300100000022100000002210000100101120010112000001031221410 7 1 0
noncomputable def Q38:Ing:={m:=10,ins:=Qf9,G:=Qm6,T:=Q37,tab:=Qa,lsts:=Qs,kb:=83,kt:=Qbg6}
noncomputable def Qqy:Ing:={Q38 with mh:=Qbr (kdX Q38) [sf48,sf20]}
theorem Q39:okLT 10 Qm6 Q37=true:=by kernel_rfl
theorem Qbg7 (F:List Fact):Hooks Tryd.prog (cxOf Qqy F):=
  Qcy (l:=[sf48,sf20]) rfl rfl rfl rfl rfl Q39 rfl rfl rfl ⟨lgn.wn48_contract,c20,trivial⟩ F
theorem Qbg8:SegOk Tryd.prog Qa 84 (Qe (Qbn (Qc Tryd.f32))) Qei Qqy Qve:=
  ⟨Q39,by kernel_rfl,Qbg7,rfl,by kernel_rfl,by kernel_rfl,rfl,rfl,fun _=>trivial,by kernel_rfl⟩
def Qm7:List SDef:=[.sop .len [.s 0],
 .q .leq (.z 0) (.i 1),
 .q .leq (.i 1) (.i 10),
 .q .leq (.i 10) (.z 1000000),
 .fn 128 .u64 [.s 0,.i 1],
 .fn 129 .i64 [.s 0,.i 1],
 .fn 130 .i64 [.s 0,.i 1],
 .q .eql (.i 16) (.z 0),
 .q .add (.i 1) (.i 15),
 .q .leq (.z 0) (.i 18),
 .q .leq (.i 18) (.i 10),
 .fn 128 .u64 [.s 0,.i 18],
 .fn 129 .i64 [.s 0,.i 18],
 .fn 130 .i64 [.s 0,.i 18],
 .q .eql (.i 23) (.z 0),
 .q .add (.i 18) (.i 22),
 .q .leq (.z 0) (.i 25),
 .q .leq (.i 25) (.i 10),
 .fn 128 .u64 [.s 0,.i 25],
 .fn 129 .i64 [.s 0,.i 25],
 .fn 130 .i64 [.s 0,.i 25],
 .q .eql (.i 30) (.z 0),
 .q .add (.i 25) (.i 29),
 .q .leq (.z 0) (.i 32),
 .q .leq (.i 32) (.i 10),
 .q .add (.i 32) (.z 1),
 .sop .sub [.s 0,.z 0,.i 35],
 .sop .len [.s 36],
 .q .leq (.i 37) (.z 1000000),
 .q .neq (.i 16) (.z 0),
 .ite (.symb 39) (.i 1) (.z 0),
 .q .leq (.u 14) (.o 1073741824),
 .un .not (.symb 41),
 .conv .i64 (.u 14),
 .q .neq (.i 23) (.z 0),
 .ite (.symb 44) (.i 18) (.z 0),
 .low [.u 21,.o 2199023255552],
 .q .add (.u 4) (.u 46),
 .q .leq (.u 47) (.o 1099511627776),
 .q .gtr (.u 21) (.o 0),
 .q .gtr (.z 255) (.i 6),
 .un .not (.symb 48),
 .q .neq (.i 30) (.z 0),
 .ite (.symb 52) (.i 25) (.z 0),
 .low [.u 28,.o 2199023255552],
 .q .add (.u 5) (.u 54),
 .q .leq (.u 55) (.u 47),
 .q .eql (.u 28) (.o 0),
 .un .not (.symb 56),
 .q .sub (.i 10) (.i 32),
 .q .eql (.i 59) (.z 0),
 .q .lss (.i 32) (.i 10),
 .sop .at [.s 0,.i 32],
 .q .leq (.c 62) (.int .u8 6),
 .un .not (.symb 63),
 .conv .i64 (.c 62),
 .q .leq (.z 0) (.i 35),
 .q .leq (.i 35) (.i 10),
 .fn 384 .u8 [.s 36],
 .q .sub (.i 10) (.i 35),
 .q .eql (.i 69) (.z 0),
 .q .lss (.i 35) (.i 10),
 .sop .at [.s 0,.i 35],
 .q .add (.i 35) (.z 1),
 .q .eql (.c 72) (.c 68),
 .un .not (.symb 74),
 .q .sub (.i 10) (.i 73),
 .q .gtr (.i 76) (.z 0),
 .q .leq (.z 0) (.i 3),
 .q .leq (.i 3) (.i 3)]
def Q4a:LT:=Go.Wbp.fT 10 Qm7 (.n (.n (.n (.n (.n (.n (.n .e 7086 10 .e) 10844567 35 .e) 83920124 21 (.n .e 83920167 22 .e)) 83920210 23 (.n (.n .e 84930276 38 .e) 92168726 47 (.n .e 142506674 69 .e))) 159840661 77 (.n (.n (.n (.n .e 175533709 24 .e) 175533716 44 .e) 186187767 59 (.n .e 201471837 40 .e)) 206245360 66 (.n (.n .e 208276890 45 .e) 215833061 53 (.n .e 217828720 56 .e)))) 223124936 61 (.n (.n (.n (.n (.n .e 223124943 34 .e) 249926453 33 .e) 259350245 79 (.n .e 287478239 58 .e)) 298349828 48 (.n (.n .e 305040714 76 .e) 308433562 62 (.n .e 313341031 12 .e))) 313845476 73 (.n (.n (.n (.n .e 323817744 36 .e) 340122725 41 .e) 343383805 11 (.n .e 368262831 43 .e)) 421229245 68 (.n (.n .e 526125845 71 .e) 526125852 67 (.n .e 526580339 70 .e))))) 542273415 17 (.n (.n (.n (.n (.n (.n .e 542273422 39 .e) 553193402 51 .e) 555324372 74 (.n .e 579147576 13 .e)) 589864649 27 (.n (.n .e 590319136 60 .e) 593717903 28 (.n .e 593717946 29 .e))) 593717989 30 (.n (.n (.n (.n .e 643520395 37 .e) 671131571 32 .e) 680535224 57 (.n .e 746733588 54 .e)) 781879885 25 (.n (.n .e 792513999 55 .e) 807094577 72 (.n .e 811685496 19 .e)))) 839931768 14 (.n (.n (.n (.n (.n .e 839931811 15 .e) 839931854 16 .e) 882535830 31 (.n .e 882535837 52 .e)) 893620276 63 (.n (.n .e 919911898 42 .e) 956366996 18 (.n .e 956604355 20 .e))) 986538650 50 (.n (.n (.n .e 994501570 64 .e) 1017310355 65 (.n .e 1030090961 78 .e)) 1031796406 75 (.n (.n .e 1047274958 49 .e) 1067676888 26 (.n .e 1071473168 46 .e))))))
def Qvf:Sw:=.pick 9 255 (.node 11 (.node 12 (.node 13 (.node 17 (.node 19 (.node 20 (.node 24 (.node 26 (.node 27 (.node 31 (.node 33 (.node 34 (.node 38 (.node 39 (.dead) (.node 44 (.dead) (.node 50 (.node 52 (.dead) (.node 66 (.node 78 (.node 79 (.run (.node 42 (.leaf (.pan (.iface 77 (.agg [.i 2]))) Q8 [(0,0),(1,0)] [(0,.s 0)] [(2,.i 1)]) (.node 51 (.leaf (.pan (.iface 77 (.agg [.i 2]))) Q8 [(0,0),(1,0)] [(0,.s 0)] [(2,.i 18)]) (.node 58 (.leaf (.pan (.iface 77 (.agg [.i 2]))) Q8 [(0,0),(1,0)] [(0,.s 0)] [(2,.i 25)]) (.node 60 (.leaf (.pan (.iface 77 (.agg [.i 2]))) Q8 [(0,0),(1,0)] [(0,.s 0)] [(2,.i 32)]) (.node 61 (.node 64 (.leaf (.pan (.iface 77 (.agg [.i 2]))) Q8 [(0,0),(1,0)] [(0,.s 0)] [(2,.i 32)]) (.node 67 (.node 70 (.leaf (.pan (.iface 77 (.agg [.i 2]))) Q8 [(0,0),(1,0)] [(0,.s 0)] [(2,.i 35)]) (.node 71 (.node 75 (.leaf (.pan (.iface 77 (.agg [.i 2]))) Q8 [(0,0),(1,0)] [(0,.s 0)] [(2,.i 35)]) (.node 77 (.leaf (.pan (.iface 77 (.agg [.i 2]))) Q8 [(0,0),(1,0)] [(0,.s 0)] [(2,.i 73)]) (.leaf .ret Q5i [(0,0),(1,0),(4,0),(2,0)] [(0,.s 0),(2,.s 8),(3,.i 3),(4,.w 2),(3,.i 3),(5,.i 43),(6,.u 47),(7,.u 55),(8,.i 65)] []))) (.dead))) (.dead))) (.dead))))))) (.dead)) (.dead)) (.dead))) (.dead)))) (.dead)) (.dead)) (.dead)) (.node 39 (.dead) (.node 44 (.dead) (.node 50 (.node 52 (.run (.node 42 (.leaf (.pan (.iface 77 (.agg [.i 2]))) Q8 [(0,0),(1,0)] [(0,.s 0)] [(2,.i 1)]) (.node 51 (.leaf (.pan (.iface 77 (.agg [.i 2]))) Q8 [(0,0),(1,0)] [(0,.s 0)] [(2,.i 18)]) (.leaf (.pan (.iface 77 (.agg [.i 2]))) Q8 [(0,0),(1,0)] [(0,.s 0)] [(2,.i 25)])))) (.dead)) (.dead))))) (.dead)) (.dead)) (.node 39 (.dead) (.node 44 (.run (.node 42 (.leaf (.pan (.iface 77 (.agg [.i 2]))) Q8 [(0,0),(1,0)] [(0,.s 0)] [(2,.i 1)]) (.leaf (.pan (.iface 77 (.agg [.i 2]))) Q8 [(0,0),(1,0)] [(0,.s 0)] [(2,.i 18)]))) (.dead)))) (.dead)) (.dead)) (.node 39 (.run (.leaf (.pan (.iface 77 (.agg [.i 2]))) Q8 [(0,0),(1,0)] [(0,.s 0)] [(2,.i 1)])) (.dead))) (.dead)) (.dead)) (.dead)) (.dead)
def Qbg9:KdT:=kdN 0x10013001300100300100022100000221010010000100101120010112001011200001031221410 7 1 0
noncomputable def Q4c:Ing:={m:=10,ins:=Qf9,G:=Qm7,T:=Q4a,tab:=Qa,lsts:=Qs,kb:=80,kt:=Qbg9}
noncomputable def Q4b:Ing:={Q4c with mh:=Qbr (kdX Q4c) [sf48,sf20]}
theorem Q4d:okLT 10 Qm7 Q4a=true:=by kernel_rfl
theorem Qbha (F:List Fact):Hooks Tryd.prog (cxOf Q4b F):=
  Qcy (l:=[sf48,sf20]) rfl rfl rfl rfl rfl Q4d rfl rfl rfl ⟨lgn.wn48_contract,c20,trivial⟩ F
theorem Qbhb:SegOk Tryd.prog Qa 84 ((Qe (Qc Tryd.f32)).drop 5) Qei Q4b Qvf:=
  ⟨Q4d,by kernel_rfl,Qbha,rfl,by kernel_rfl,by kernel_rfl,rfl,rfl,fun _=>trivial,by kernel_rfl⟩
theorem EndZ.pan {P:Program} {tab:TabF} {n:Nat} {W0:Fra} {Z:Exit->Act->World->Prop} {id:Nat} {c2:List Code} {s:Shape} {V:Sig} {v:AVal}
  (h:EndZ tab n W0 Z (.pan v) s V):EndZ tab n W0 (BlkZ P id c2 Z) (.pan v) s V:=by
 intro e a w hxe hA;have:=h e a w hxe hA;cases e<;>simp only [Qb6] at hxe;exact this
theorem Qfj {U:Sig} (ht:U.tab=Qa) {S:ByteArray} {a:Int} {x v l c:Nat} (hS:U.s 0=S) (ha:U.i x=a) (h1:U.i v=IntKind.u64.wrap (U.tab 128 [encB (U.s 0),U.i x])) (h2:U.i l=IntKind.i64.wrap (U.tab 129 [encB (U.s 0),U.i x])) (h3:U.i c=IntKind.i64.wrap (U.tab 130 [encB (U.s 0),U.i x])):
  U.i v=(numL S a).getD 0 0/\U.i l=(numL S a).getD 1 0/\U.i c=(numL S a).getD 2 0/\0<=(numL S a).getD 0 0/\(numL S a).getD 0 0<4611686018427387904/\0<=(numL S a).getD 1 0/\(numL S a).getD 1 0<=8/\(((numL S a).getD 2 0=0/\1<=(numL S a).getD 1 0/\a+(numL S a).getD 1 0<=S.size)\/(((numL S a).getD 2 0=3\/(numL S a).getD 2 0=5)/\(numL S a).getD 0 0=0/\(numL S a).getD 1 0=0)):=by
 obtain ⟨k1,k2,k3,k4,k5⟩:=Qik S a;rw [hS,ha,ht,show (128:Nat)=128+0 by rfl,lgn.tab_num _ _ 0 (by decide),Qg] at h1;rw [hS,ha,ht,show (129:Nat)=128+1 by rfl,lgn.tab_num _ _ 1 (by decide),Qh] at h2;rw [hS,ha,ht,show (130:Nat)=128+2 by rfl,lgn.tab_num _ _ 2 (by decide),Qh] at h3;refine ⟨by omega,by omega,by omega,k1,k2,k3,k4,k5⟩
theorem Qt {d:En} {k n:Int}:P1 d k n↔(d.r+min n 2199023255552<=1099511627776/\(0<n\/d.k<k)):=Iff.rfl
theorem Q9 {d:En} {k n m:Int}:P2 d k n m↔(d.b+min m 2199023255552<=d.r+min n 2199023255552/\(0<n\/m=0\/k=255)):=Iff.rfl
end Go.Proofs.YtelimhjceiamcaaDoor.lg
