/-
 Logs that are laid are read back; what is read may be, and is laid again just so.
 No conditions.
-/
import Derived.Test.YtelimhjceiamcaaDoorBLgs
namespace Go.Lgp
open Go.Ev Go.RowKit Go.Wbp
set_option linter.unusedVariables false
set_option linter.unusedSimpArgs false
theorem Q9t {S:ByteArray} {a:Int} {P l:List Int} (hP:S.extract 0 a.toNat=bs P) (ha:a=(P.length:Int)) (hl:By l) (h:Has S a l):S.extract 0 (a+(l.length:Int)).toNat=bs (P++l):=by
 have e:=Qbae hl h
 obtain ⟨h0,h1,_⟩:=h
 rw [<-Qc0,<-hP,<-e]
 apply Qoi
 ·rw [ByteArray.size_append]
  simp only [ByteArray.size_extract]
  omega
 ·intro j hj
  simp only [ByteArray.size_extract] at hj
  have k1:=Qbz (s:=S) (a:=0) (b:=a+(l.length:Int)) (i:=(j:Int)) (by omega) (by omega) (by omega) (by omega) (by omega)
  rw [show (0:Int).toNat=0 by rfl] at k1
  rw [k1,Int.zero_add]
  by_cases c:j<a.toNat
  ·have:bAt (S.extract 0 a.toNat++S.extract a.toNat (a+(l.length:Int)).toNat) j=bAt (S.extract 0 a.toNat) j:=by
    unfold bAt
    have hlen:j<(S.extract 0 a.toNat).data.toList.length:=by simp;omega
    simp only [ByteArray.data_append,Array.toList_append,List.getD_eq_getElem?_getD,Int.toNat_natCast]
    rw [List.getElem?_append_left hlen]
   have k2:=Qbz (s:=S) (a:=0) (b:=a) (i:=(j:Int)) (by omega) (by omega) (by omega) (by omega) (by omega)
   rw [show (0:Int).toNat=0 by rfl] at k2
   rw [this,k2,Int.zero_add]
  ·have hsz:(S.extract 0 a.toNat).data.toList.length=a.toNat:=by simp;omega
   have:bAt (S.extract 0 a.toNat++S.extract a.toNat (a+(l.length:Int)).toNat) j=bAt (S.extract a.toNat (a+(l.length:Int)).toNat) ((j-a.toNat:Nat):Int):=by
    unfold bAt
    simp only [ByteArray.data_append,Array.toList_append,List.getD_eq_getElem?_getD,Int.toNat_natCast]
    rw [List.getElem?_append_right (by omega),hsz]
   have k2:=Qbz (s:=S) (a:=a) (b:=a+(l.length:Int)) (i:=((j-a.toNat:Nat):Int)) (by omega) (by omega) (by omega) (by omega) (by omega)
   rw [this,k2]
   congr 1
   omega
theorem Qbaf {S:ByteArray} {a x:Int} (h0:0<=a) (h1:a<(S.size:Int)) (hx:bAt S a=x):Has S a [x]:=by
 refine ⟨h0,by simp only [List.length_cons,List.length_nil];omega,fun j hj=> ?_⟩
 simp only [List.length_cons,List.length_nil] at hj
 obtain rfl:j=0:=by omega
 simpa using hx
def Up (S:ByteArray) (a:Int) (P:List Int):Prop:=S.extract 0 a.toNat=bs P/\a=(P.length:Int)/\a<=(S.size:Int)/\By P
theorem Up.app {S:ByteArray} {a:Int} {P l:List Int} (h:Up S a P) (hl:By l) (g:Has S a l):Up S (a+(l.length:Int)) (P++l):=
 ⟨Q9t h.1 h.2.1 hl g,by rw [List.length_append,h.2.1];push_cast;rfl,g.2.1,h.2.2.2.app hl⟩
theorem Up.one {S:ByteArray} {a:Int} {P:List Int} (h:Up S a P) (h1:a<(S.size:Int)):Up S (a+1) (P++[bAt S a]):=by
 have:=h.app (By.one (Qd S a)) (Qbaf (by rw [h.2.1];omega) h1 rfl)
 simpa using this
theorem Up.num {S:ByteArray} {a:Int} {P:List Int} (h:Up S a P) (hn:(numL S a).getD 2 0=0):Up S (a+(numL S a).getD 1 0) (P++pbL ((numL S a).getD 0 0)):=by
 obtain ⟨h1,h2⟩:=Qbf5 (by rw [h.2.1];omega) hn
 rw [h2]
 exact h.app (Qju _) h1
theorem Up.sum {S:ByteArray} {a:Int} {P:List Int} (h:Up S a P):sumS (S.extract 0 a.toNat)=sumL P:=by rw [h.1,Qrh h.2.2.2]
theorem Rd.bind_ok {α β:Type} {x:Rd α} {f:α->Rd β} {b:β} (h:x.bind f=.ok b): ∃a,x=.ok a/\f a=.ok b:=by
 cases x with
 |bad p=>cases h
 |ok a=>exact ⟨a,rfl,h⟩
theorem Qfk {S:ByteArray} {a x:Int} {p:Int->Bool} (h:Qba S a p=.ok x):a<(S.size:Int)/\p (bAt S a)=true/\x=bAt S a:=by
 unfold Qba at h
 split at h
 ·cases h
 ·split at h
  ·rename_i h2;cases h;exact ⟨by omega,h2,rfl⟩
  ·cases h
theorem Qqf {S:ByteArray} {a:Int} {x:Int×Int} {p:Int->Bool} (h:numP S a p=.ok x):(numL S a).getD 2 0=0/\p ((numL S a).getD 0 0)=true/\x=((numL S a).getD 0 0,a+(numL S a).getD 1 0):=by
 unfold numP at h
 split at h
 ·rename_i h2;cases h;exact ⟨h2.1,h2.2,rfl⟩
 ·cases h
structure LOk (last:En):Prop where
 r0:0<=last.r
 r1:last.r<=1099511627776
 b0:0<=last.b
 b1:last.b<=last.r
theorem Qnc:(2*most:Int)=2199023255552:=rfl
theorem Qyg {S:ByteArray} {a k:Int} {last:En} {x:En×Int} {P:List Int} (h:cntP S a last k=.ok x) (hu:Up S a P) (hl:LOk last):LOk x.1/\x.1.k=k/\x.1.v=0/\Up S x.2 (P++pbL (x.1.r-last.r)++pbL (x.1.b-last.b))/\last.r<=x.1.r/\last.b<=x.1.b/\(last.r<x.1.r\/(last.k<k/\(x.1.b=last.b\/k=255))):=by
 unfold cntP at h
 obtain ⟨n,h1,h⟩:=Rd.bind_ok h
 obtain ⟨n0,n1,rfl⟩:=Qqf h1
 obtain ⟨m,h2,h⟩:=Rd.bind_ok h
 obtain ⟨m0,m1,rfl⟩:=Qqf h2
 cases h
 have u1:=hu.num n0
 have u2:=u1.num m0
 have i1:=(Qh1 S a).1
 have i2:=(Qh1 S (a+(numL S a).getD 1 0)).1
 rw [decide_eq_true_eq,Qnc,show most=1099511627776 from rfl] at n1
 rw [decide_eq_true_eq,Qnc] at m1
 obtain ⟨l1,l2,l3,l4⟩:=hl
 generalize (numL S a).getD 0 0=n at*
 generalize (numL S (a+(numL S a).getD 1 0)).getD 0 0=m at*
 show LOk ⟨last.r+min n (2*most),last.b+min m (2*most),k,0⟩/\k=k/\(0:Int)=0/\Up S _ (P++pbL (last.r+min n (2*most)-last.r)++pbL (last.b+min m (2*most)-last.b))/\last.r<=last.r+min n (2*most)/\last.b<=last.b+min m (2*most)/\(last.r<last.r+min n (2*most)\/(last.k<k/\(last.b+min m (2*most)=last.b\/k=255)))
 simp only [Qnc]
 refine ⟨⟨?_,?_,?_,?_⟩,trivial,trivial,?_,by omega,by omega,by omega⟩
 ·show 0<=last.r+min n 2199023255552;omega
 ·show last.r+min n 2199023255552<=1099511627776;omega
 ·show 0<=last.b+min m 2199023255552;omega
 ·show last.b+min m 2199023255552<=last.r+min n 2199023255552;omega
 ·rw [show last.r+min n 2199023255552-last.r=n by omega,show last.b+min m 2199023255552-last.b=m by omega]
  exact u2
theorem Q0x {S:ByteArray} {a k:Int} (h:Qd2 S a=.ok k):a<(S.size:Int)/\k=bAt S a/\((0<=k/\k<=2)\/k=255):=by
 obtain ⟨h1,h2,h3⟩:=Qfk h
 have:=Qd S a
 simp only [Bool.or_eq_true,decide_eq_true_eq,beq_iff_eq] at h2
 refine ⟨h1,h3,by omega⟩
theorem Q55 {S:ByteArray} {a x:Int} {P:List Int} (h:Qeh S a=.ok x) (hu:Up S a P):a<(S.size:Int)/\Up S (a+1) (P++[sumL P]):=by
 obtain ⟨h1,h2,h3⟩:=Qfk h
 rw [beq_iff_eq,hu.sum] at h2
 refine ⟨h1,?_⟩
 have:=hu.one h1
 rwa [h2] at this
theorem Q9k {S:ByteArray} {a k:Int} {last:En} {x:En×Int} {P:List Int} (h:entP S a last k=.ok x) (hk:0<=k/\k<=2) (hu:Up S a (P++[k])) (hl:LOk last):LOk x.1/\okV x.1/\x.1.k=k/\Qcg last x.1=true/\Up S x.2 (P++entB last x.1++[sumL (P++entB last x.1)]):=by
 unfold entP at h
 obtain ⟨y,h1,h⟩:=Rd.bind_ok h
 obtain ⟨v,h2,h⟩:=Rd.bind_ok h
 obtain ⟨s,h3,h⟩:=Rd.bind_ok h
 cases h
 obtain ⟨c1,c2,c3,c4,c5,c6,c7⟩:=Qyg h1 hu hl
 obtain ⟨v1,_,rfl⟩:=Qfk h2
 have u1:=c4.one v1
 have hv:=Qd S y.2
 obtain ⟨l1,l2,l3,l4⟩:=c1
 have e:P++[k]++pbL (y.1.r-last.r)++pbL (y.1.b-last.b)++[bAt S y.2]=P++entB last {y.1 with v:=bAt S y.2}:=by
  unfold entB
  show _=P++([y.1.k%256]++pbL (y.1.r-last.r)++pbL (y.1.b-last.b)++[bAt S y.2%256])
  rw [c2,show k%256=k by omega,show bAt S y.2%256=bAt S y.2 by omega]
  simp only [List.append_assoc]
 rw [e] at u1
 obtain ⟨s1,u2⟩:=Q55 h3 u1
 refine ⟨⟨l1,l2,l3,l4⟩,⟨?_,?_,?_,?_⟩,c2,?_,?_⟩
 ·show IntKind.u64.wrap y.1.r=y.1.r
  rw [Qj];omega
 ·show IntKind.u64.wrap y.1.b=y.1.b
  rw [Qj];omega
 ·show IntKind.i64.wrap y.1.k=y.1.k
  rw [Qh];omega
 ·show IntKind.u8.wrap (bAt S y.2)=bAt S y.2
  rw [wr_u8];omega
 ·rw [Qre]
  show 0<=y.1.k/\y.1.k<=2/\y.1.r<=1099511627776/\y.1.b<=y.1.r/\last.b<=y.1.b/\((y.1.r=last.r/\last.k<y.1.k/\y.1.b=last.b)\/last.r<y.1.r)
  omega
 ·have:y.2+1+1=y.2+2:=by omega
  rw [this] at u2
  exact u2
def Good (S:ByteArray) (l:Lg):Prop:=right l=true/\S=bs (encG l)/\(∀x,x∈l.es->okV x)/\l.ret<=1099511627776/\0<=l.ret/\0<=l.br/\l.br<=l.ret
theorem Q9x {S:ByteArray} {img a:Int} {last:En} {es:List En} {l:Lg} {P:List Int} (h:finP S img a last es=.ok l) (hu:Up S a (P++[255])) (hP:P=encS (head img) zeE es) (hl:LOk last) (h0:last=Qg noE es) (hr:last.r=(Qg zeE es).r) (hb:last.b=(Qg zeE es).b) (ha:Qdc noE es=true) (hv: ∀x,x∈es->okV x):Good S l/\l.img=img:=by
 unfold finP at h
 obtain ⟨c,h1,h⟩:=Rd.bind_ok h
 obtain ⟨n0,n1,rfl⟩:=Qqf h1
 obtain ⟨x,h2,h⟩:=Rd.bind_ok h
 obtain ⟨o,h3,h⟩:=Rd.bind_ok h
 obtain ⟨s,h4,h⟩:=Rd.bind_ok h
 have u0:=hu.num n0
 obtain ⟨c1,c2,c3,c4,c5,c6,c7⟩:=Qyg h2 u0 hl
 obtain ⟨v1,v2,rfl⟩:=Qfk h3
 have u1:=c4.one v1
 obtain ⟨s1,u2⟩:=Q55 h4 u1
 split at h
 ·cases h
 rename_i hsz
 cases h
 have i1:=(Qh1 S a).1
 have bo:=Qd S x.2
 rw [decide_eq_true_eq] at n1 v2
 have hE:P++[255]++pbL ((numL S a).getD 0 0)++pbL (x.1.r-last.r)++pbL (x.1.b-last.b)++[bAt S x.2]=encP ⟨img,es,(numL S a).getD 0 0,x.1.r,x.1.b,bAt S x.2⟩:=by
  unfold encP finB
  show _=encS (head img) zeE es++([255]++pbL ((numL S a).getD 0 0)++pbL (x.1.r-(Qg zeE es).r)++pbL (x.1.b-(Qg zeE es).b)++[bAt S x.2%256])
  rw [<-hP,<-hr,<-hb,show bAt S x.2%256=bAt S x.2 by omega]
  simp only [List.append_assoc]
 rw [hE] at u2
 obtain ⟨l1,l2,l3,l4⟩:=c1
 refine ⟨⟨?_,?_,hv,l2,l1,l3,l4⟩,rfl⟩
 ·rw [Qh6,Qq2]
  show (Qdc noE es&&behind (Qg noE es) ⟨x.1.r,x.1.b,255,0⟩)=true/\0<=(numL S a).getD 0 0/\(numL S a).getD 0 0<=1073741824/\0<=bAt S x.2/\bAt S x.2<=6
  rw [ha,Bool.true_and,Qkp,<-h0]
  refine ⟨⟨l2,l4,c6,.inl ⟨rfl,c5⟩⟩,i1,n1,bo.1,v2⟩
 ·obtain ⟨w1,w2,w3,w4⟩:=u2
  have:S.extract 0 (x.2+1+1).toNat=S:=by
   apply Qoi
   ·simp only [ByteArray.size_extract];omega
   ·intro j hj
    simp only [ByteArray.size_extract] at hj
    have k1:=Qbz (s:=S) (a:=0) (b:=(S.size:Int)) (i:=(j:Int)) (by omega) (by omega) (by omega) (by omega) (by omega)
    rw [show (x.2+1+1).toNat=(S.size:Int).toNat by omega]
    rw [show (0:Int).toNat=0 by rfl] at k1
    rw [k1,Int.zero_add]
  rw [this] at w1
  exact w1
theorem Q4s {S:ByteArray} {img:Int} {l:Lg}: ∀(f:Nat) (a:Int) (last:En) (es:List En),Up S a (encS (head img) zeE es)->LOk last->last=Qg noE es->last.r=(Qg zeE es).r->last.b=(Qg zeE es).b->Qdc noE es=true->(∀x,x∈es->okV x)->parF S img f a last es=.ok l->Good S l/\l.img=img
 |0,_,_,_,_,_,_,_,_,_,_,h=>by cases h
 |f+1,a,last,es,hu,hl,h0,hr,hb,ha,hv,h=>by
  have h:(Qd2 S a).bind _=_:=h
  obtain ⟨k,h1,h⟩:=Rd.bind_ok h
  obtain ⟨k1,k2,k3⟩:=Q0x h1
  have u1:=hu.one k1
  rw [<-k2] at u1
  split at h
  ·rename_i hk
   subst hk
   exact Q9x h u1 rfl hl h0 hr hb ha hv
  ·rename_i hk
   obtain ⟨x,h2,h⟩:=Rd.bind_ok h
   obtain ⟨e1,e2,e3,e4,e5⟩:=Q9k h2 (by omega) u1 hl
   have eB:entB last x.1=entB (Qg zeE es) x.1:=by unfold entB;rw [hr,hb]
   rw [eB,<-Qs6] at e5
   refine Q4s f x.2 x.1 (es++[x.1]) e5 e1 (Qja _ _ _).symm (by rw [Qja]) (by rw [Qja]) ?_ ?_ h
   ·rw [Qr1,ha,<-h0,e4];rfl
   ·intro y hy
    rcases List.mem_append.1 hy with hy|hy
    ·exact hv y hy
    ·simp only [List.mem_singleton] at hy
     subst hy;exact e2
theorem Q4t {S:ByteArray} {l:Lg} (h:par S=.ok l):Good S l/\0<=l.img/\l.img<4294967296:=by
 unfold par at h
 obtain ⟨img,h1,h⟩:=Rd.bind_ok h
 unfold Qd1 at h1
 obtain ⟨x0,g0,h1⟩:=Rd.bind_ok h1
 obtain ⟨x1,g1,h1⟩:=Rd.bind_ok h1
 obtain ⟨x2,g2,h1⟩:=Rd.bind_ok h1
 obtain ⟨_,p0,_⟩:=Qfk g0
 obtain ⟨_,p1,_⟩:=Qfk g1
 obtain ⟨_,p2,_⟩:=Qfk g2
 rw [beq_iff_eq] at p0 p1 p2
 split at h1
 ·cases h1
 rename_i hz
 cases h1
 have b3:=Qd S 3
 have b4:=Qd S 4
 have b5:=Qd S 5
 have b6:=Qd S 6
 have hh:Has S 0 (head (((bAt S 3*256+bAt S 4)*256+bAt S 5)*256+bAt S 6)):=by
  refine ⟨by omega,by simp [head];omega,fun j hj=> ?_⟩
  have hj:j<7:=by simpa [head] using hj
  unfold head
  obtain rfl|rfl|rfl|rfl|rfl|rfl|rfl:j=0\/j=1\/j=2\/j=3\/j=4\/j=5\/j=6:=by omega
  ·exact p0
  ·exact p1
  ·exact p2
  ·show bAt S 3=_;simp only [List.getD_cons_zero,List.getD_cons_succ];omega
  ·show bAt S 4=_;simp only [List.getD_cons_zero,List.getD_cons_succ];omega
  ·show bAt S 5=_;simp only [List.getD_cons_zero,List.getD_cons_succ];omega
  ·show bAt S 6=_;simp only [List.getD_cons_zero,List.getD_cons_succ];omega
 have u0:Up S 0 []:=⟨by
  apply Qoi
  ·simp only [ByteArray.size_extract,Qc1];simp
  ·intro j hj;simp only [ByteArray.size_extract] at hj;simp at hj,rfl,by omega,fun x hx=>by cases hx⟩
 have u7:=u0.app (Qtk _) hh
 have u7:Up S 7 (head (((bAt S 3*256+bAt S 4)*256+bAt S 5)*256+bAt S 6)):=u7
 obtain ⟨r1,r2⟩:=Q4s (S.size+1) 7 noE [] u7 ⟨by decide,by decide,by decide,by decide⟩ rfl rfl rfl rfl (fun x hx=>by cases hx) h
 exact ⟨r1,by omega,by omega⟩
end Go.Lgp
