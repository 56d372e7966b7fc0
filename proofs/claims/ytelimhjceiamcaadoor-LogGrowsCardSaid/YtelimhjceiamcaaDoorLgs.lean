/-
 What bytes are read as, step by step.
 No conditions.
-/
import Derived.Test.YtelimhjceiamcaaDoorLgq
namespace Go.Lgp
open Go.Ev Go.RowKit Go.Wbp
set_option linter.unusedVariables false
set_option linter.unusedSimpArgs false
theorem Qgj {S:ByteArray} {a:Int} {p:Int->Bool} (h:(S.size:Int)<=a):Qbg S a p=.bad a:=by unfold Qbg;rw [if_pos h]
theorem Qhn {S:ByteArray} {a:Int} {p:Int->Bool} (h:p (bAt S a)=false):Qbg S a p=.bad a:=by unfold Qbg;rw [h];split<;>rfl
theorem Qdj {S:ByteArray} {a:Int} {p:Int->Bool} (h:a<(S.size:Int)) (hp:p (bAt S a)=true):Qbg S a p=.ok (bAt S a):=by unfold Qbg;rw [if_neg (by omega),hp];rfl
theorem Quz {S:ByteArray} {a:Int} {p:Int->Bool} (h: ¬((numL S a).getD 2 0=0/\p ((numL S a).getD 0 0)=true)):numP S a p=.bad a:=by unfold numP;rw [if_neg h]
theorem Qhm {S:ByteArray} {a:Int} {p:Int->Bool} (h:(numL S a).getD 2 0=0) (hp:p ((numL S a).getD 0 0)=true):numP S a p=.ok ((numL S a).getD 0 0,a+(numL S a).getD 1 0):=by unfold numP;rw [if_pos ⟨h,hp⟩]
def P1 (last:En) (k n:Int):Prop:=last.r+min n (2*most)<=most/\(0<n\/last.k<k)
def P2 (last:En) (k n m:Int):Prop:=last.b+min m (2*most)<=last.r+min n (2*most)/\(0<n\/m=0\/k=255)
def cE (last:En) (k n m:Int):En:=⟨last.r+min n (2*most),last.b+min m (2*most),k,0⟩
theorem Qj8 {S:ByteArray} {a k:Int} {last:En} (h: ¬((numL S a).getD 2 0=0/\P1 last k ((numL S a).getD 0 0))):cntP S a last k=.bad a:=by
 unfold cntP
 rw [Quz (by rw [decide_eq_true_eq];exact h)]
 rfl
theorem Qm0 {S:ByteArray} {a k:Int} {last:En} (h:(numL S a).getD 2 0=0) (hp:P1 last k ((numL S a).getD 0 0)) (h2: ¬((numL S (a+(numL S a).getD 1 0)).getD 2 0=0/\P2 last k ((numL S a).getD 0 0) ((numL S (a+(numL S a).getD 1 0)).getD 0 0))):cntP S a last k=.bad (a+(numL S a).getD 1 0):=by
 unfold cntP
 rw [Qhm h (by rw [decide_eq_true_eq];exact hp)]
 show (numP S (a+(numL S a).getD 1 0) _).bind _=_
 rw [Quz (by rw [decide_eq_true_eq];exact h2)]
 rfl
theorem Qds {S:ByteArray} {a k:Int} {last:En} (h:(numL S a).getD 2 0=0) (hp:P1 last k ((numL S a).getD 0 0)) (h2:(numL S (a+(numL S a).getD 1 0)).getD 2 0=0) (hp2:P2 last k ((numL S a).getD 0 0) ((numL S (a+(numL S a).getD 1 0)).getD 0 0)):
  cntP S a last k=.ok (cE last k ((numL S a).getD 0 0) ((numL S (a+(numL S a).getD 1 0)).getD 0 0),a+(numL S a).getD 1 0+(numL S (a+(numL S a).getD 1 0)).getD 1 0):=by
 unfold cntP
 rw [Qhm h (by rw [decide_eq_true_eq];exact hp)]
 show (numP S (a+(numL S a).getD 1 0) _).bind _=_
 rw [Qhm h2 (by rw [decide_eq_true_eq];exact hp2)]
 rfl
theorem Qlx {S:ByteArray} {a k p:Int} {last:En} (h:cntP S a last k=.bad p):entP S a last k=.bad p:=by unfold entP;rw [h];rfl
theorem Qbee {S:ByteArray} {a k b:Int} {last x:En} (h:cntP S a last k=.ok (x,b)) (he:(S.size:Int)<=b):entP S a last k=.bad b:=by
 unfold entP
 rw [h]
 show (Qbg S b _).bind _=_
 rw [Qgj he]
 rfl
theorem Qx0 {S:ByteArray} {a k b:Int} {last x:En} (h:cntP S a last k=.ok (x,b)) (he:b<(S.size:Int)) (hs:(S.size:Int)<=b+1\/ ¬bAt S (b+1)=sumS (S.extract 0 (b+1).toNat)):entP S a last k=.bad (b+1):=by
 unfold entP
 rw [h]
 show (Qbg S b _).bind _=_
 rw [Qdj he rfl]
 show (Qd9 S (b+1)).bind _=_
 unfold Qd9
 rcases hs with hs|hs
 ·rw [Qgj hs];rfl
 ·rw [Qhn (by simpa using hs)];rfl
theorem Qpj {S:ByteArray} {a k b:Int} {last x:En} (h:cntP S a last k=.ok (x,b)) (he:b+1<(S.size:Int)) (hs:bAt S (b+1)=sumS (S.extract 0 (b+1).toNat)):entP S a last k=.ok ({x with v:=bAt S b},b+2):=by
 unfold entP
 rw [h]
 show (Qbg S b _).bind _=_
 rw [Qdj (by omega) rfl]
 show (Qd9 S (b+1)).bind _=_
 unfold Qd9
 rw [Qdj he (by simpa using hs)]
 rfl
theorem Qq2 {S:ByteArray} {a:Int} (h:(S.size:Int)<=a\/ ¬(bAt S a<=2\/bAt S a=255)):Qed S a=.bad a:=by
 unfold Qed
 rcases h with h|h
 ·exact Qgj h
 ·refine Qhn ?_
  simp only [Bool.or_eq_false_iff,decide_eq_false_iff_not,beq_eq_false_iff_ne,ne_eq]
  omega
theorem Qo7 {S:ByteArray} {a:Int} (h:a<(S.size:Int)) (hk:bAt S a<=2\/bAt S a=255):Qed S a=.ok (bAt S a):=by
 unfold Qed
 refine Qdj h ?_
 simp only [Bool.or_eq_true,decide_eq_true_eq,beq_iff_eq]
 omega
def parK (S:ByteArray) (img:Int) (f:Nat) (a:Int) (last:En) (es:List En) (k:Int):Rd Lg:=
 if k=255 then finP S img a last es else (entP S a last k).bind fun x=>parF S img f x.2 x.1 (es++[x.1])
theorem Qnh {S:ByteArray} {img a:Int} {f:Nat} {last:En} {es:List En} {p:Int} (h:Qed S a=.bad p):parF S img (f+1) a last es=.bad p:=by
 show (Qed S a).bind _=_
 rw [h];rfl
theorem Qm3 {S:ByteArray} {img a k:Int} {f:Nat} {last:En} {es:List En} (h:Qed S a=.ok k):parF S img (f+1) a last es=parK S img f (a+1) last es k:=by
 show (Qed S a).bind _=_
 rw [h];rfl
theorem Qgy {S:ByteArray} {img a k p:Int} {f:Nat} {last:En} {es:List En} (hk: ¬k=255) (h:entP S a last k=.bad p):parK S img f a last es k=.bad p:=by
 unfold parK
 rw [if_neg hk,h];rfl
theorem Qpf {S:ByteArray} {img a k b:Int} {f:Nat} {last x:En} {es:List En} (hk: ¬k=255) (h:entP S a last k=.ok (x,b)):parK S img f a last es k=parF S img f b x (es++[x]):=by
 unfold parK
 rw [if_neg hk,h];rfl
theorem Qcw {S:ByteArray} {img a:Int} {f:Nat} {last:En} {es:List En}:parK S img f a last es 255=finP S img a last es:=by
 unfold parK
 rw [if_pos rfl]
theorem Qn9 {S:ByteArray} {img a:Int} {last:En} {es:List En} (h: ¬((numL S a).getD 2 0=0/\(numL S a).getD 0 0<=1073741824)):finP S img a last es=.bad a:=by
 unfold finP
 rw [Quz (by rw [decide_eq_true_eq];exact h)]
 rfl
theorem Qk4 {S:ByteArray} {img a p:Int} {last:En} {es:List En} (h:(numL S a).getD 2 0=0) (h0:(numL S a).getD 0 0<=1073741824) (hc:cntP S (a+(numL S a).getD 1 0) last 255=.bad p):finP S img a last es=.bad p:=by
 unfold finP
 rw [Qhm h (by rw [decide_eq_true_eq];exact h0)]
 show (cntP S (a+(numL S a).getD 1 0) last 255).bind _=_
 rw [hc];rfl
theorem Q3q {S:ByteArray} {img a b:Int} {last x:En} {es:List En} (h:(numL S a).getD 2 0=0) (h0:(numL S a).getD 0 0<=1073741824) (hc:cntP S (a+(numL S a).getD 1 0) last 255=.ok (x,b)) (ho:(S.size:Int)<=b\/ ¬bAt S b<=6):finP S img a last es=.bad b:=by
 unfold finP
 rw [Qhm h (by rw [decide_eq_true_eq];exact h0)]
 show (cntP S (a+(numL S a).getD 1 0) last 255).bind _=_
 rw [hc]
 show (Qbg S b _).bind _=_
 rcases ho with ho|ho
 ·rw [Qgj ho];rfl
 ·rw [Qhn (by rw [decide_eq_false_iff_not];exact ho)];rfl
theorem Q1o {S:ByteArray} {img a b:Int} {last x:En} {es:List En} (h:(numL S a).getD 2 0=0) (h0:(numL S a).getD 0 0<=1073741824) (hc:cntP S (a+(numL S a).getD 1 0) last 255=.ok (x,b)) (hb:b<(S.size:Int)) (ho:bAt S b<=6) (hs:(S.size:Int)<=b+1\/ ¬bAt S (b+1)=sumS (S.extract 0 (b+1).toNat)):finP S img a last es=.bad (b+1):=by
 unfold finP
 rw [Qhm h (by rw [decide_eq_true_eq];exact h0)]
 show (cntP S (a+(numL S a).getD 1 0) last 255).bind _=_
 rw [hc]
 show (Qbg S b _).bind _=_
 rw [Qdj hb (by rw [decide_eq_true_eq];exact ho)]
 show (Qd9 S (b+1)).bind _=_
 unfold Qd9
 rcases hs with hs|hs
 ·rw [Qgj hs];rfl
 ·rw [Qhn (by simpa using hs)];rfl
theorem Qtz {S:ByteArray} {img a b:Int} {last x:En} {es:List En} (h:(numL S a).getD 2 0=0) (h0:(numL S a).getD 0 0<=1073741824) (hc:cntP S (a+(numL S a).getD 1 0) last 255=.ok (x,b)) (hb:b+1<(S.size:Int)) (ho:bAt S b<=6) (hs:bAt S (b+1)=sumS (S.extract 0 (b+1).toNat)):
  finP S img a last es=if b+2<(S.size:Int) then .bad (b+2) else .ok ⟨img,es,(numL S a).getD 0 0,x.r,x.b,bAt S b⟩:=by
 unfold finP
 rw [Qhm h (by rw [decide_eq_true_eq];exact h0)]
 show (cntP S (a+(numL S a).getD 1 0) last 255).bind _=_
 rw [hc]
 show (Qbg S b _).bind _=_
 rw [Qdj (by omega) (by rw [decide_eq_true_eq];exact ho)]
 show (Qd9 S (b+1)).bind _=_
 unfold Qd9
 rw [Qdj hb (by simpa using hs)]
 rfl
theorem Qhh {S:ByteArray} {p:Int} (h:Qdw S=.bad p):par S=.bad p:=by unfold par;rw [h];rfl
theorem Qps {S:ByteArray} {img:Int} (h:Qdw S=.ok img):par S=parF S img (S.size+1) 7 noE []:=by unfold par;rw [h];rfl
theorem Q3y {S:ByteArray} (h:(S.size:Int)<=0\/ ¬bAt S 0=80):Qdw S=.bad 0:=by
 unfold Qdw
 rcases h with h|h
 ·rw [Qgj h];rfl
 ·rw [Qhn (by simpa using h)];rfl
theorem Q5o {S:ByteArray} (h0:bAt S 0=80) (z:1<=(S.size:Int)) (h:(S.size:Int)<=1\/ ¬bAt S 1=76):Qdw S=.bad 1:=by
 unfold Qdw
 rw [Qdj (by omega) (by simpa using h0)]
 show (Qbg S 1 _).bind _=_
 rcases h with h|h
 ·rw [Qgj h];rfl
 ·rw [Qhn (by simpa using h)];rfl
theorem Q3x {S:ByteArray} (h0:bAt S 0=80) (h1:bAt S 1=76) (z:2<=(S.size:Int)) (h:(S.size:Int)<=2\/ ¬bAt S 2=1):Qdw S=.bad 2:=by
 unfold Qdw
 rw [Qdj (by omega) (by simpa using h0)]
 show (Qbg S 1 _).bind _=_
 rw [Qdj (by omega) (by simpa using h1)]
 show (Qbg S 2 _).bind _=_
 rcases h with h|h
 ·rw [Qgj h];rfl
 ·rw [Qhn (by simpa using h)];rfl
theorem Qkm {S:ByteArray} (h0:bAt S 0=80) (h1:bAt S 1=76) (h2:bAt S 2=1) (z:3<=(S.size:Int)):Qdw S=if (S.size:Int)<7 then .bad 3 else .ok (((bAt S 3*256+bAt S 4)*256+bAt S 5)*256+bAt S 6):=by
 unfold Qdw
 rw [Qdj (by omega) (by simpa using h0)]
 show (Qbg S 1 _).bind _=_
 rw [Qdj (by omega) (by simpa using h1)]
 show (Qbg S 2 _).bind _=_
 rw [Qdj (by omega) (by simpa using h2)]
 rfl
end Go.Lgp
