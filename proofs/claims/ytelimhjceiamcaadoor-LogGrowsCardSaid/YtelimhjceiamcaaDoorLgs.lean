/-
 What bytes are read as, step by step.
 No conditions.
-/
import Derived.Test.YtelimhjceiamcaaDoorLgq
namespace Go.Lgp
open Go.Ev Go.RowKit Go.Wbp
set_option linter.unusedVariables false
set_option linter.unusedSimpArgs false
theorem Qf7 {S:ByteArray} {a:Int} {p:Int->Bool} (h:(S.size:Int)<=a):Qbh S a p=.bad a:=by unfold Qbh;rw [if_pos h]
theorem Qih {S:ByteArray} {a:Int} {p:Int->Bool} (h:p (bAt S a)=false):Qbh S a p=.bad a:=by unfold Qbh;rw [h];split<;>rfl
theorem Qdh {S:ByteArray} {a:Int} {p:Int->Bool} (h:a<(S.size:Int)) (hp:p (bAt S a)=true):Qbh S a p=.ok (bAt S a):=by unfold Qbh;rw [if_neg (by omega),hp];rfl
theorem Qu4 {S:ByteArray} {a:Int} {p:Int->Bool} (h: ¬((numL S a).getD 2 0=0/\p ((numL S a).getD 0 0)=true)):numP S a p=.bad a:=by unfold numP;rw [if_neg h]
theorem Qhm {S:ByteArray} {a:Int} {p:Int->Bool} (h:(numL S a).getD 2 0=0) (hp:p ((numL S a).getD 0 0)=true):numP S a p=.ok ((numL S a).getD 0 0,a+(numL S a).getD 1 0):=by unfold numP;rw [if_pos ⟨h,hp⟩]
def P1 (last:En) (k n:Int):Prop:=last.r+min n (2*most)<=most/\(0<n\/last.k<k)
def P2 (last:En) (k n m:Int):Prop:=last.b+min m (2*most)<=last.r+min n (2*most)/\(0<n\/m=0\/k=255)
def cE (last:En) (k n m:Int):En:=⟨last.r+min n (2*most),last.b+min m (2*most),k,0⟩
theorem Qik {S:ByteArray} {a k:Int} {last:En} (h: ¬((numL S a).getD 2 0=0/\P1 last k ((numL S a).getD 0 0))):cntP S a last k=.bad a:=by
 unfold cntP
 rw [Qu4 (by rw [decide_eq_true_eq];exact h)]
 rfl
theorem Qn1 {S:ByteArray} {a k:Int} {last:En} (h:(numL S a).getD 2 0=0) (hp:P1 last k ((numL S a).getD 0 0)) (h2: ¬((numL S (a+(numL S a).getD 1 0)).getD 2 0=0/\P2 last k ((numL S a).getD 0 0) ((numL S (a+(numL S a).getD 1 0)).getD 0 0))):cntP S a last k=.bad (a+(numL S a).getD 1 0):=by
 unfold cntP
 rw [Qhm h (by rw [decide_eq_true_eq];exact hp)]
 show (numP S (a+(numL S a).getD 1 0) _).bind _=_
 rw [Qu4 (by rw [decide_eq_true_eq];exact h2)]
 rfl
theorem Qdr {S:ByteArray} {a k:Int} {last:En} (h:(numL S a).getD 2 0=0) (hp:P1 last k ((numL S a).getD 0 0)) (h2:(numL S (a+(numL S a).getD 1 0)).getD 2 0=0) (hp2:P2 last k ((numL S a).getD 0 0) ((numL S (a+(numL S a).getD 1 0)).getD 0 0)):
  cntP S a last k=.ok (cE last k ((numL S a).getD 0 0) ((numL S (a+(numL S a).getD 1 0)).getD 0 0),a+(numL S a).getD 1 0+(numL S (a+(numL S a).getD 1 0)).getD 1 0):=by
 unfold cntP
 rw [Qhm h (by rw [decide_eq_true_eq];exact hp)]
 show (numP S (a+(numL S a).getD 1 0) _).bind _=_
 rw [Qhm h2 (by rw [decide_eq_true_eq];exact hp2)]
 rfl
theorem Qk2 {S:ByteArray} {a k p:Int} {last:En} (h:cntP S a last k=.bad p):entP S a last k=.bad p:=by unfold entP;rw [h];rfl
theorem Q7n {S:ByteArray} {a k b:Int} {last x:En} (h:cntP S a last k=.ok (x,b)) (he:(S.size:Int)<=b):entP S a last k=.bad b:=by
 unfold entP
 rw [h]
 show (Qbh S b _).bind _=_
 rw [Qf7 he]
 rfl
theorem Q5d {S:ByteArray} {a k b:Int} {last x:En} (h:cntP S a last k=.ok (x,b)) (he:b<(S.size:Int)) (hs:(S.size:Int)<=b+1\/ ¬bAt S (b+1)=sumS (S.extract 0 (b+1).toNat)):entP S a last k=.bad (b+1):=by
 unfold entP
 rw [h]
 show (Qbh S b _).bind _=_
 rw [Qdh he rfl]
 show (Qd9 S (b+1)).bind _=_
 unfold Qd9
 rcases hs with hs|hs
 ·rw [Qf7 hs];rfl
 ·rw [Qih (by simpa using hs)];rfl
theorem Qnh {S:ByteArray} {a k b:Int} {last x:En} (h:cntP S a last k=.ok (x,b)) (he:b+1<(S.size:Int)) (hs:bAt S (b+1)=sumS (S.extract 0 (b+1).toNat)):entP S a last k=.ok ({x with v:=bAt S b},b+2):=by
 unfold entP
 rw [h]
 show (Qbh S b _).bind _=_
 rw [Qdh (by omega) rfl]
 show (Qd9 S (b+1)).bind _=_
 unfold Qd9
 rw [Qdh he (by simpa using hs)]
 rfl
theorem Qqz {S:ByteArray} {a:Int} (h:(S.size:Int)<=a\/ ¬(bAt S a<=2\/bAt S a=255)):Qd8 S a=.bad a:=by
 unfold Qd8
 rcases h with h|h
 ·exact Qf7 h
 ·refine Qih ?_
  simp only [Bool.or_eq_false_iff,decide_eq_false_iff_not,beq_eq_false_iff_ne,ne_eq]
  omega
theorem Qpl {S:ByteArray} {a:Int} (h:a<(S.size:Int)) (hk:bAt S a<=2\/bAt S a=255):Qd8 S a=.ok (bAt S a):=by
 unfold Qd8
 refine Qdh h ?_
 simp only [Bool.or_eq_true,decide_eq_true_eq,beq_iff_eq]
 omega
def parK (S:ByteArray) (img:Int) (f:Nat) (a:Int) (last:En) (es:List En) (k:Int):Rd Lg:=
 if k=255 then finP S img a last es else (entP S a last k).bind fun x=>parF S img f x.2 x.1 (es++[x.1])
theorem Qnj {S:ByteArray} {img a:Int} {f:Nat} {last:En} {es:List En} {p:Int} (h:Qd8 S a=.bad p):parF S img (f+1) a last es=.bad p:=by
 show (Qd8 S a).bind _=_
 rw [h];rfl
theorem Qpc {S:ByteArray} {img a k:Int} {f:Nat} {last:En} {es:List En} (h:Qd8 S a=.ok k):parF S img (f+1) a last es=parK S img f (a+1) last es k:=by
 show (Qd8 S a).bind _=_
 rw [h];rfl
theorem Qgj {S:ByteArray} {img a k p:Int} {f:Nat} {last:En} {es:List En} (hk: ¬k=255) (h:entP S a last k=.bad p):parK S img f a last es k=.bad p:=by
 unfold parK
 rw [if_neg hk,h];rfl
theorem Qn5 {S:ByteArray} {img a k b:Int} {f:Nat} {last x:En} {es:List En} (hk: ¬k=255) (h:entP S a last k=.ok (x,b)):parK S img f a last es k=parF S img f b x (es++[x]):=by
 unfold parK
 rw [if_neg hk,h];rfl
theorem Qcv {S:ByteArray} {img a:Int} {f:Nat} {last:En} {es:List En}:parK S img f a last es 255=finP S img a last es:=by
 unfold parK
 rw [if_pos rfl]
theorem Qon {S:ByteArray} {img a:Int} {last:En} {es:List En} (h: ¬((numL S a).getD 2 0=0/\(numL S a).getD 0 0<=1073741824)):finP S img a last es=.bad a:=by
 unfold finP
 rw [Qu4 (by rw [decide_eq_true_eq];exact h)]
 rfl
theorem Ql7 {S:ByteArray} {img a p:Int} {last:En} {es:List En} (h:(numL S a).getD 2 0=0) (h0:(numL S a).getD 0 0<=1073741824) (hc:cntP S (a+(numL S a).getD 1 0) last 255=.bad p):finP S img a last es=.bad p:=by
 unfold finP
 rw [Qhm h (by rw [decide_eq_true_eq];exact h0)]
 show (cntP S (a+(numL S a).getD 1 0) last 255).bind _=_
 rw [hc];rfl
theorem Q2z {S:ByteArray} {img a b:Int} {last x:En} {es:List En} (h:(numL S a).getD 2 0=0) (h0:(numL S a).getD 0 0<=1073741824) (hc:cntP S (a+(numL S a).getD 1 0) last 255=.ok (x,b)) (ho:(S.size:Int)<=b\/ ¬bAt S b<=6):finP S img a last es=.bad b:=by
 unfold finP
 rw [Qhm h (by rw [decide_eq_true_eq];exact h0)]
 show (cntP S (a+(numL S a).getD 1 0) last 255).bind _=_
 rw [hc]
 show (Qbh S b _).bind _=_
 rcases ho with ho|ho
 ·rw [Qf7 ho];rfl
 ·rw [Qih (by rw [decide_eq_false_iff_not];exact ho)];rfl
theorem Q0l {S:ByteArray} {img a b:Int} {last x:En} {es:List En} (h:(numL S a).getD 2 0=0) (h0:(numL S a).getD 0 0<=1073741824) (hc:cntP S (a+(numL S a).getD 1 0) last 255=.ok (x,b)) (hb:b<(S.size:Int)) (ho:bAt S b<=6) (hs:(S.size:Int)<=b+1\/ ¬bAt S (b+1)=sumS (S.extract 0 (b+1).toNat)):finP S img a last es=.bad (b+1):=by
 unfold finP
 rw [Qhm h (by rw [decide_eq_true_eq];exact h0)]
 show (cntP S (a+(numL S a).getD 1 0) last 255).bind _=_
 rw [hc]
 show (Qbh S b _).bind _=_
 rw [Qdh hb (by rw [decide_eq_true_eq];exact ho)]
 show (Qd9 S (b+1)).bind _=_
 unfold Qd9
 rcases hs with hs|hs
 ·rw [Qf7 hs];rfl
 ·rw [Qih (by simpa using hs)];rfl
theorem Qwg {S:ByteArray} {img a b:Int} {last x:En} {es:List En} (h:(numL S a).getD 2 0=0) (h0:(numL S a).getD 0 0<=1073741824) (hc:cntP S (a+(numL S a).getD 1 0) last 255=.ok (x,b)) (hb:b+1<(S.size:Int)) (ho:bAt S b<=6) (hs:bAt S (b+1)=sumS (S.extract 0 (b+1).toNat)):
  finP S img a last es=if b+2<(S.size:Int) then .bad (b+2) else .ok ⟨img,es,(numL S a).getD 0 0,x.r,x.b,bAt S b⟩:=by
 unfold finP
 rw [Qhm h (by rw [decide_eq_true_eq];exact h0)]
 show (cntP S (a+(numL S a).getD 1 0) last 255).bind _=_
 rw [hc]
 show (Qbh S b _).bind _=_
 rw [Qdh (by omega) (by rw [decide_eq_true_eq];exact ho)]
 show (Qd9 S (b+1)).bind _=_
 unfold Qd9
 rw [Qdh hb (by simpa using hs)]
 rfl
theorem Qhn {S:ByteArray} {p:Int} (h:Qd4 S=.bad p):par S=.bad p:=by unfold par;rw [h];rfl
theorem Qn9 {S:ByteArray} {img:Int} (h:Qd4 S=.ok img):par S=parF S img (S.size+1) 7 noE []:=by unfold par;rw [h];rfl
theorem Qy0 {S:ByteArray} (h:(S.size:Int)<=0\/ ¬bAt S 0=80):Qd4 S=.bad 0:=by
 unfold Qd4
 rcases h with h|h
 ·rw [Qf7 h];rfl
 ·rw [Qih (by simpa using h)];rfl
theorem Q45 {S:ByteArray} (h0:bAt S 0=80) (z:1<=(S.size:Int)) (h:(S.size:Int)<=1\/ ¬bAt S 1=76):Qd4 S=.bad 1:=by
 unfold Qd4
 rw [Qdh (by omega) (by simpa using h0)]
 show (Qbh S 1 _).bind _=_
 rcases h with h|h
 ·rw [Qf7 h];rfl
 ·rw [Qih (by simpa using h)];rfl
theorem Q0q {S:ByteArray} (h0:bAt S 0=80) (h1:bAt S 1=76) (z:2<=(S.size:Int)) (h:(S.size:Int)<=2\/ ¬bAt S 2=1):Qd4 S=.bad 2:=by
 unfold Qd4
 rw [Qdh (by omega) (by simpa using h0)]
 show (Qbh S 1 _).bind _=_
 rw [Qdh (by omega) (by simpa using h1)]
 show (Qbh S 2 _).bind _=_
 rcases h with h|h
 ·rw [Qf7 h];rfl
 ·rw [Qih (by simpa using h)];rfl
theorem Qmp {S:ByteArray} (h0:bAt S 0=80) (h1:bAt S 1=76) (h2:bAt S 2=1) (z:3<=(S.size:Int)):Qd4 S=if (S.size:Int)<7 then .bad 3 else .ok (((bAt S 3*256+bAt S 4)*256+bAt S 5)*256+bAt S 6):=by
 unfold Qd4
 rw [Qdh (by omega) (by simpa using h0)]
 show (Qbh S 1 _).bind _=_
 rw [Qdh (by omega) (by simpa using h1)]
 show (Qbh S 2 _).bind _=_
 rw [Qdh (by omega) (by simpa using h2)]
 rfl
end Go.Lgp
