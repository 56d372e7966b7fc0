/-
 What bytes are read as, step by step.
 No conditions.
-/
import Derived.Test.YtelimhjceiamcaaDoorBLgq
namespace Go.Lgp
open Go.Ev Go.RowKit Go.Wbp
set_option linter.unusedVariables false
set_option linter.unusedSimpArgs false
theorem Qgh {S:ByteArray} {a:Int} {p:Int->Bool} (h:(S.size:Int)<=a):Qba S a p=.bad a:=by unfold Qba;rw [if_pos h]
theorem Qhf {S:ByteArray} {a:Int} {p:Int->Bool} (h:p (bAt S a)=false):Qba S a p=.bad a:=by unfold Qba;rw [h];split<;>rfl
theorem Qdk {S:ByteArray} {a:Int} {p:Int->Bool} (h:a<(S.size:Int)) (hp:p (bAt S a)=true):Qba S a p=.ok (bAt S a):=by unfold Qba;rw [if_neg (by omega),hp];rfl
theorem Qvu {S:ByteArray} {a:Int} {p:Int->Bool} (h: ¬((numL S a).getD 2 0=0/\p ((numL S a).getD 0 0)=true)):numP S a p=.bad a:=by unfold numP;rw [if_neg h]
theorem Qh2 {S:ByteArray} {a:Int} {p:Int->Bool} (h:(numL S a).getD 2 0=0) (hp:p ((numL S a).getD 0 0)=true):numP S a p=.ok ((numL S a).getD 0 0,a+(numL S a).getD 1 0):=by unfold numP;rw [if_pos ⟨h,hp⟩]
def P1 (last:En) (k n:Int):Prop:=last.r+min n (2*most)<=most/\(0<n\/last.k<k)
def P2 (last:En) (k n m:Int):Prop:=last.b+min m (2*most)<=last.r+min n (2*most)/\(0<n\/m=0\/k=255)
def cE (last:En) (k n m:Int):En:=⟨last.r+min n (2*most),last.b+min m (2*most),k,0⟩
theorem Qit {S:ByteArray} {a k:Int} {last:En} (h: ¬((numL S a).getD 2 0=0/\P1 last k ((numL S a).getD 0 0))):cntP S a last k=.bad a:=by
 unfold cntP
 rw [Qvu (by rw [decide_eq_true_eq];exact h)]
 rfl
theorem Qny {S:ByteArray} {a k:Int} {last:En} (h:(numL S a).getD 2 0=0) (hp:P1 last k ((numL S a).getD 0 0)) (h2: ¬((numL S (a+(numL S a).getD 1 0)).getD 2 0=0/\P2 last k ((numL S a).getD 0 0) ((numL S (a+(numL S a).getD 1 0)).getD 0 0))):cntP S a last k=.bad (a+(numL S a).getD 1 0):=by
 unfold cntP
 rw [Qh2 h (by rw [decide_eq_true_eq];exact hp)]
 show (numP S (a+(numL S a).getD 1 0) _).bind _=_
 rw [Qvu (by rw [decide_eq_true_eq];exact h2)]
 rfl
theorem Qdm {S:ByteArray} {a k:Int} {last:En} (h:(numL S a).getD 2 0=0) (hp:P1 last k ((numL S a).getD 0 0)) (h2:(numL S (a+(numL S a).getD 1 0)).getD 2 0=0) (hp2:P2 last k ((numL S a).getD 0 0) ((numL S (a+(numL S a).getD 1 0)).getD 0 0)):
  cntP S a last k=.ok (cE last k ((numL S a).getD 0 0) ((numL S (a+(numL S a).getD 1 0)).getD 0 0),a+(numL S a).getD 1 0+(numL S (a+(numL S a).getD 1 0)).getD 1 0):=by
 unfold cntP
 rw [Qh2 h (by rw [decide_eq_true_eq];exact hp)]
 show (numP S (a+(numL S a).getD 1 0) _).bind _=_
 rw [Qh2 h2 (by rw [decide_eq_true_eq];exact hp2)]
 rfl
theorem Qk4 {S:ByteArray} {a k p:Int} {last:En} (h:cntP S a last k=.bad p):entP S a last k=.bad p:=by unfold entP;rw [h];rfl
theorem Q9j {S:ByteArray} {a k b:Int} {last x:En} (h:cntP S a last k=.ok (x,b)) (he:(S.size:Int)<=b):entP S a last k=.bad b:=by
 unfold entP
 rw [h]
 show (Qba S b _).bind _=_
 rw [Qgh he]
 rfl
theorem Qzb {S:ByteArray} {a k b:Int} {last x:En} (h:cntP S a last k=.ok (x,b)) (he:b<(S.size:Int)) (hs:(S.size:Int)<=b+1\/ ¬bAt S (b+1)=sumS (S.extract 0 (b+1).toNat)):entP S a last k=.bad (b+1):=by
 unfold entP
 rw [h]
 show (Qba S b _).bind _=_
 rw [Qdk he rfl]
 show (Qeh S (b+1)).bind _=_
 unfold Qeh
 rcases hs with hs|hs
 ·rw [Qgh hs];rfl
 ·rw [Qhf (by simpa using hs)];rfl
theorem Qob {S:ByteArray} {a k b:Int} {last x:En} (h:cntP S a last k=.ok (x,b)) (he:b+1<(S.size:Int)) (hs:bAt S (b+1)=sumS (S.extract 0 (b+1).toNat)):entP S a last k=.ok ({x with v:=bAt S b},b+2):=by
 unfold entP
 rw [h]
 show (Qba S b _).bind _=_
 rw [Qdk (by omega) rfl]
 show (Qeh S (b+1)).bind _=_
 unfold Qeh
 rw [Qdk he (by simpa using hs)]
 rfl
theorem Qo8 {S:ByteArray} {a:Int} (h:(S.size:Int)<=a\/ ¬(bAt S a<=2\/bAt S a=255)):Qd2 S a=.bad a:=by
 unfold Qd2
 rcases h with h|h
 ·exact Qgh h
 ·refine Qhf ?_
  simp only [Bool.or_eq_false_iff,decide_eq_false_iff_not,beq_eq_false_iff_ne,ne_eq]
  omega
theorem Qo9 {S:ByteArray} {a:Int} (h:a<(S.size:Int)) (hk:bAt S a<=2\/bAt S a=255):Qd2 S a=.ok (bAt S a):=by
 unfold Qd2
 refine Qdk h ?_
 simp only [Bool.or_eq_true,decide_eq_true_eq,beq_iff_eq]
 omega
def parK (S:ByteArray) (img:Int) (f:Nat) (a:Int) (last:En) (es:List En) (k:Int):Rd Lg:=
 if k=255 then finP S img a last es else (entP S a last k).bind fun x=>parF S img f x.2 x.1 (es++[x.1])
theorem Qqr {S:ByteArray} {img a:Int} {f:Nat} {last:En} {es:List En} {p:Int} (h:Qd2 S a=.bad p):parF S img (f+1) a last es=.bad p:=by
 show (Qd2 S a).bind _=_
 rw [h];rfl
theorem Qqs {S:ByteArray} {img a k:Int} {f:Nat} {last:En} {es:List En} (h:Qd2 S a=.ok k):parF S img (f+1) a last es=parK S img f (a+1) last es k:=by
 show (Qd2 S a).bind _=_
 rw [h];rfl
theorem Qg7 {S:ByteArray} {img a k p:Int} {f:Nat} {last:En} {es:List En} (hk: ¬k=255) (h:entP S a last k=.bad p):parK S img f a last es k=.bad p:=by
 unfold parK
 rw [if_neg hk,h];rfl
theorem Qqt {S:ByteArray} {img a k b:Int} {f:Nat} {last x:En} {es:List En} (hk: ¬k=255) (h:entP S a last k=.ok (x,b)):parK S img f a last es k=parF S img f b x (es++[x]):=by
 unfold parK
 rw [if_neg hk,h];rfl
theorem Qcx {S:ByteArray} {img a:Int} {f:Nat} {last:En} {es:List En}:parK S img f a last es 255=finP S img a last es:=by
 unfold parK
 rw [if_pos rfl]
theorem Qom {S:ByteArray} {img a:Int} {last:En} {es:List En} (h: ¬((numL S a).getD 2 0=0/\(numL S a).getD 0 0<=1073741824)):finP S img a last es=.bad a:=by
 unfold finP
 rw [Qvu (by rw [decide_eq_true_eq];exact h)]
 rfl
theorem Qk6 {S:ByteArray} {img a p:Int} {last:En} {es:List En} (h:(numL S a).getD 2 0=0) (h0:(numL S a).getD 0 0<=1073741824) (hc:cntP S (a+(numL S a).getD 1 0) last 255=.bad p):finP S img a last es=.bad p:=by
 unfold finP
 rw [Qh2 h (by rw [decide_eq_true_eq];exact h0)]
 show (cntP S (a+(numL S a).getD 1 0) last 255).bind _=_
 rw [hc];rfl
theorem Qzq {S:ByteArray} {img a b:Int} {last x:En} {es:List En} (h:(numL S a).getD 2 0=0) (h0:(numL S a).getD 0 0<=1073741824) (hc:cntP S (a+(numL S a).getD 1 0) last 255=.ok (x,b)) (ho:(S.size:Int)<=b\/ ¬bAt S b<=6):finP S img a last es=.bad b:=by
 unfold finP
 rw [Qh2 h (by rw [decide_eq_true_eq];exact h0)]
 show (cntP S (a+(numL S a).getD 1 0) last 255).bind _=_
 rw [hc]
 show (Qba S b _).bind _=_
 rcases ho with ho|ho
 ·rw [Qgh ho];rfl
 ·rw [Qhf (by rw [decide_eq_false_iff_not];exact ho)];rfl
theorem Qzr {S:ByteArray} {img a b:Int} {last x:En} {es:List En} (h:(numL S a).getD 2 0=0) (h0:(numL S a).getD 0 0<=1073741824) (hc:cntP S (a+(numL S a).getD 1 0) last 255=.ok (x,b)) (hb:b<(S.size:Int)) (ho:bAt S b<=6) (hs:(S.size:Int)<=b+1\/ ¬bAt S (b+1)=sumS (S.extract 0 (b+1).toNat)):finP S img a last es=.bad (b+1):=by
 unfold finP
 rw [Qh2 h (by rw [decide_eq_true_eq];exact h0)]
 show (cntP S (a+(numL S a).getD 1 0) last 255).bind _=_
 rw [hc]
 show (Qba S b _).bind _=_
 rw [Qdk hb (by rw [decide_eq_true_eq];exact ho)]
 show (Qeh S (b+1)).bind _=_
 unfold Qeh
 rcases hs with hs|hs
 ·rw [Qgh hs];rfl
 ·rw [Qhf (by simpa using hs)];rfl
theorem Qtc {S:ByteArray} {img a b:Int} {last x:En} {es:List En} (h:(numL S a).getD 2 0=0) (h0:(numL S a).getD 0 0<=1073741824) (hc:cntP S (a+(numL S a).getD 1 0) last 255=.ok (x,b)) (hb:b+1<(S.size:Int)) (ho:bAt S b<=6) (hs:bAt S (b+1)=sumS (S.extract 0 (b+1).toNat)):
  finP S img a last es=if b+2<(S.size:Int) then .bad (b+2) else .ok ⟨img,es,(numL S a).getD 0 0,x.r,x.b,bAt S b⟩:=by
 unfold finP
 rw [Qh2 h (by rw [decide_eq_true_eq];exact h0)]
 show (cntP S (a+(numL S a).getD 1 0) last 255).bind _=_
 rw [hc]
 show (Qba S b _).bind _=_
 rw [Qdk (by omega) (by rw [decide_eq_true_eq];exact ho)]
 show (Qeh S (b+1)).bind _=_
 unfold Qeh
 rw [Qdk hb (by simpa using hs)]
 rfl
theorem Qh4 {S:ByteArray} {p:Int} (h:Qd1 S=.bad p):par S=.bad p:=by unfold par;rw [h];rfl
theorem Qqu {S:ByteArray} {img:Int} (h:Qd1 S=.ok img):par S=parF S img (S.size+1) 7 noE []:=by unfold par;rw [h];rfl
theorem Q0e {S:ByteArray} (h:(S.size:Int)<=0\/ ¬bAt S 0=80):Qd1 S=.bad 0:=by
 unfold Qd1
 rcases h with h|h
 ·rw [Qgh h];rfl
 ·rw [Qhf (by simpa using h)];rfl
theorem Q0f {S:ByteArray} (h0:bAt S 0=80) (z:1<=(S.size:Int)) (h:(S.size:Int)<=1\/ ¬bAt S 1=76):Qd1 S=.bad 1:=by
 unfold Qd1
 rw [Qdk (by omega) (by simpa using h0)]
 show (Qba S 1 _).bind _=_
 rcases h with h|h
 ·rw [Qgh h];rfl
 ·rw [Qhf (by simpa using h)];rfl
theorem Q0g {S:ByteArray} (h0:bAt S 0=80) (h1:bAt S 1=76) (z:2<=(S.size:Int)) (h:(S.size:Int)<=2\/ ¬bAt S 2=1):Qd1 S=.bad 2:=by
 unfold Qd1
 rw [Qdk (by omega) (by simpa using h0)]
 show (Qba S 1 _).bind _=_
 rw [Qdk (by omega) (by simpa using h1)]
 show (Qba S 2 _).bind _=_
 rcases h with h|h
 ·rw [Qgh h];rfl
 ·rw [Qhf (by simpa using h)];rfl
theorem Qlg {S:ByteArray} (h0:bAt S 0=80) (h1:bAt S 1=76) (h2:bAt S 2=1) (z:3<=(S.size:Int)):Qd1 S=if (S.size:Int)<7 then .bad 3 else .ok (((bAt S 3*256+bAt S 4)*256+bAt S 5)*256+bAt S 6):=by
 unfold Qd1
 rw [Qdk (by omega) (by simpa using h0)]
 show (Qba S 1 _).bind _=_
 rw [Qdk (by omega) (by simpa using h1)]
 show (Qba S 2 _).bind _=_
 rw [Qdk (by omega) (by simpa using h2)]
 rfl
end Go.Lgp
