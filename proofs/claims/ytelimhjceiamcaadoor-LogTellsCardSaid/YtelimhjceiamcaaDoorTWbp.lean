/-
 What the bytes of things are, and what is read of them.
 No conditions.
-/
import Derived.Test.YtelimhjceiamcaaDoorTEv8
import Derived.Test.YtelimhjceiamcaaDoorTEv4
import Derived.Test.YtelimhjceiamcaaDoorChecked
import Derived.WalkKit
set_option linter.unusedVariables false
set_option linter.unusedSimpArgs false
namespace Go.Wbp
open Go.Ev
inductive IT where
 |e
 |n (l:IT) (h i:Nat) (r:IT)
def dAt:List SDef->Nat->SDef
 |[],_=> .bin .leq (.bool true) (.bool true)
 |d::_,0=>d
 |_::l,n+1=>dAt l n
def fT (m:Nat) (G:List SDef):IT->LT
 |.e=> .e
 |.n l h i r=> .n (fT m G l) h i (dAt G (i-m)) (fT m G r)
def numL (s:ByteArray) (a:Int):List Int:=
 if (s.size:Int)<=a then [0,0,3]
 else if bAt s a<64 then [bAt s a,1,0]
 else if bAt s a<128 then (if (s.size:Int)-a<2 then [0,0,3] else if (bAt s a-64)*256+bAt s (a+1)<64 then [0,0,5] else [(bAt s a-64)*256+bAt s (a+1),2,0])
 else if bAt s a<192 then (if (s.size:Int)-a<4 then [0,0,3] else if (((bAt s a-128)*256+bAt s (a+1))*256+bAt s (a+2))*256+bAt s (a+3)<16384 then [0,0,5] else [(((bAt s a-128)*256+bAt s (a+1))*256+bAt s (a+2))*256+bAt s (a+3),4,0])
 else (if (s.size:Int)-a<8 then [0,0,3] else if (((((((bAt s a-192)*256+bAt s (a+1))*256+bAt s (a+2))*256+bAt s (a+3))*256+bAt s (a+4))*256+bAt s (a+5))*256+bAt s (a+6))*256+bAt s (a+7)<1073741824 then [0,0,5]
  else [(((((((bAt s a-192)*256+bAt s (a+1))*256+bAt s (a+2))*256+bAt s (a+3))*256+bAt s (a+4))*256+bAt s (a+5))*256+bAt s (a+6))*256+bAt s (a+7),8,0])
theorem Qik (s:ByteArray) (a:Int):0<=(numL s a).getD 0 0/\(numL s a).getD 0 0<4611686018427387904/\0<=(numL s a).getD 1 0/\(numL s a).getD 1 0<=8/\
  (((numL s a).getD 2 0=0/\1<=(numL s a).getD 1 0/\a+(numL s a).getD 1 0<=s.size)\/(((numL s a).getD 2 0=3\/(numL s a).getD 2 0=5)/\(numL s a).getD 0 0=0/\(numL s a).getD 1 0=0)):=by
 have h0:=Qd s a;have h1:=Qd s (a+1);have h2:=Qd s (a+2);have h3:=Qd s (a+3);have h4:=Qd s (a+4);have h5:=Qd s (a+5);have h6:=Qd s (a+6);have h7:=Qd s (a+7);have key: ∀L,numL s a=L->(0<=L.getD 0 0/\L.getD 0 0<4611686018427387904/\0<=L.getD 1 0/\L.getD 1 0<=8/\((L.getD 2 0=0/\1<=L.getD 1 0/\a+L.getD 1 0<=s.size)\/((L.getD 2 0=3\/L.getD 2 0=5)/\L.getD 0 0=0/\L.getD 1 0=0))):=by
  intro L hL;unfold numL at hL
  repeat' split at hL
  all_goals
   subst hL;simp only [List.getD_cons_zero,List.getD_cons_succ];refine ⟨by omega,by omega,by omega,by omega,?_⟩
   first|(left;refine ⟨?_,by omega,by omega⟩;first|rfl|trivial)|(right;simp)
 exact key _ rfl
def bs (l:List Int):ByteArray:=⟨(l.map fun n=>UInt8.ofNat n.toNat).toArray⟩
theorem Qdu (l m:List Int):bs l++bs m=bs (l++m):=by
 apply ByteArray.ext;simp [bs]
theorem Qbk (l:List Int):(bs l).size=l.length:=by
 show ((l.map fun n=>UInt8.ofNat n.toNat).toArray).size=l.length;simp
def pbM (m:Int):List Int:=
 if m<64 then [m] else if m<16384 then [m/256+64,m%256]
 else if m<1073741824 then [m/16777216+128,m/65536%256,m/256%256,m%256]
 else [m/72057594037927936+192,m/281474976710656%256,m/1099511627776%256,m/4294967296%256,m/16777216%256,m/65536%256,m/256%256,m%256]
def pbL (n:Int):List Int:=pbM (n%4611686018427387904)
theorem Qcc (n:Int):1<=(pbL n).length/\(pbL n).length<=8:=by
 unfold pbL pbM
 repeat' split
 all_goals simp
theorem Qkn (m:Int): ∀x∈pbL m,0<=x/\x<256:=by
 have h0:=Int.emod_nonneg m (b:=4611686018427387904) (by decide);have h1:=Int.emod_lt_of_pos m (b:=4611686018427387904) (by decide);unfold pbL;generalize m%4611686018427387904=n at h0 h1;unfold pbM
 repeat' split
 all_goals
  intro x hx;simp only [List.mem_cons,List.not_mem_nil,or_false] at hx;rcases hx with rfl|rfl|rfl|rfl|rfl|rfl|rfl|rfl<;>omega
def Has (S:ByteArray) (a:Int) (l:List Int):Prop:=0<=a/\a+l.length<=S.size/\ ∀j:Nat,j<l.length->bAt S (a+j)=l.getD j 0
def Cut (S:ByteArray) (a:Int) (l:List Int):Prop:=0<=a/\a<=S.size/\(S.size:Int)<a+l.length/\ ∀j:Nat,a+j<S.size->bAt S (a+j)=l.getD j 0
theorem Qbkf {S:ByteArray} {a:Int} (h0:0<=a) (h:(numL S a).getD 2 0=0):Has S a (pbL ((numL S a).getD 0 0))/\(numL S a).getD 1 0=((pbL ((numL S a).getD 0 0)).length:Int):=by
 have i0:=Qd S a;have i1:=Qd S (a+1);have i2:=Qd S (a+2);have i3:=Qd S (a+3);have i4:=Qd S (a+4);have i5:=Qd S (a+5);have i6:=Qd S (a+6);have i7:=Qd S (a+7);have key: ∀L,numL S a=L->L.getD 2 0=0->Has S a (pbL (L.getD 0 0))/\L.getD 1 0=((pbL (L.getD 0 0)).length:Int):=by
  intro L hL h3;unfold numL at hL
  repeat' split at hL
  all_goals subst hL
  all_goals simp only [List.getD_cons_zero,List.getD_cons_succ] at h3⊢
  all_goals try (exfalso;omega)
  rename_i c d;have e:pbL (bAt S a)=[bAt S a]:=by
   unfold pbL pbM;rw [if_pos (by omega)]
   congr 1
   omega
  rw [e];refine ⟨⟨h0,by simp;omega,fun j hj=> ?_⟩,rfl⟩;simp only [List.length_cons,List.length_nil] at hj;obtain rfl:j=0:=by omega
  simp;rename_i c d f g u;generalize hn:(bAt S a-64)*256+bAt S (a+1)=n;have e:pbL n=[n/256+64,n%256]:=by
   unfold pbL pbM;rw [show n%4611686018427387904=n by omega,if_neg (by omega),if_pos (by omega)]
  rw [e];refine ⟨⟨h0,by simp;omega,fun j hj=> ?_⟩,rfl⟩;simp only [List.length_cons,List.length_nil] at hj;obtain rfl|rfl:j=0\/j=1:=by omega
  simp only [List.getD_cons_zero,Int.natCast_zero,Int.add_zero];omega;simp only [List.getD_cons_zero,List.getD_cons_succ,Int.natCast_one];omega;rename_i c d f g u v;generalize hn:(((bAt S a-128)*256+bAt S (a+1))*256+bAt S (a+2))*256+bAt S (a+3)=n;have e:pbL n=[n/16777216+128,n/65536%256,n/256%256,n%256]:=by
   unfold pbL pbM;rw [show n%4611686018427387904=n by omega,if_neg (by omega),if_neg (by omega),if_pos (by omega)]
  rw [e];refine ⟨⟨h0,by simp;omega,fun j hj=> ?_⟩,rfl⟩;simp only [List.length_cons,List.length_nil] at hj;obtain rfl|rfl|rfl|rfl:j=0\/j=1\/j=2\/j=3:=by omega
  simp only [List.getD_cons_zero,Int.natCast_zero,Int.add_zero];omega;simp only [List.getD_cons_zero,List.getD_cons_succ,Int.natCast_one];omega;simp only [List.getD_cons_zero,List.getD_cons_succ,show ((2:Nat):Int)=2 by rfl];omega;simp only [List.getD_cons_zero,List.getD_cons_succ,show ((3:Nat):Int)=3 by rfl];omega;rename_i c d f g u v;generalize hn:(((((((bAt S a-192)*256+bAt S (a+1))*256+bAt S (a+2))*256+bAt S (a+3))*256+bAt S (a+4))*256+bAt S (a+5))*256+bAt S (a+6))*256+bAt S (a+7)=n;have e:pbL n=[n/72057594037927936+192,n/281474976710656%256,n/1099511627776%256,n/4294967296%256,n/16777216%256,n/65536%256,n/256%256,n%256]:=by
   unfold pbL pbM;rw [show n%4611686018427387904=n by omega,if_neg (by omega),if_neg (by omega),if_neg (by omega)]
  rw [e];refine ⟨⟨h0,by simp;omega,fun j hj=> ?_⟩,rfl⟩;simp only [List.length_cons,List.length_nil] at hj;obtain rfl|rfl|rfl|rfl|rfl|rfl|rfl|rfl:j=0\/j=1\/j=2\/j=3\/j=4\/j=5\/j=6\/j=7:=by omega
  simp only [List.getD_cons_zero,Int.natCast_zero,Int.add_zero];omega;simp only [List.getD_cons_zero,List.getD_cons_succ,Int.natCast_one];omega;simp only [List.getD_cons_zero,List.getD_cons_succ,show ((2:Nat):Int)=2 by rfl];omega;simp only [List.getD_cons_zero,List.getD_cons_succ,show ((3:Nat):Int)=3 by rfl];omega;simp only [List.getD_cons_zero,List.getD_cons_succ,show ((4:Nat):Int)=4 by rfl];omega;simp only [List.getD_cons_zero,List.getD_cons_succ,show ((5:Nat):Int)=5 by rfl];omega;simp only [List.getD_cons_zero,List.getD_cons_succ,show ((6:Nat):Int)=6 by rfl];omega;simp only [List.getD_cons_zero,List.getD_cons_succ,show ((7:Nat):Int)=7 by rfl];omega
 exact key _ rfl h
theorem Qy2 {l:List Int} (hl: ∀x∈l,0<=x/\x<256) {j:Nat} (hj:j<l.length):bAt (bs l) j=l.getD j 0:=by
 unfold bAt bs;rw [Int.toNat_natCast];have h1:=hl _ (List.getElem_mem hj);simp only [List.getD_eq_getElem?_getD,List.getElem?_map,List.getElem?_eq_getElem hj,Option.map_some,Option.getD_some];have:(UInt8.ofNat l[j].toNat).toNat=l[j].toNat:=by
  rw [UInt8.toNat_ofNat'];exact Nat.mod_eq_of_lt (by omega)
 rw [this];omega
theorem Qpy {s t:ByteArray} (hs:s.size=t.size) (h: ∀j:Nat,j<s.size->bAt s j=bAt t j):s=t:=by
 apply ByteArray.ext;apply Array.ext;exact hs;intro j h1 h2;have:=h j h1;unfold bAt at this;rw [Int.toNat_natCast] at this;have e1:s.data.toList.getD j 0=s.data[j]:=by rw [List.getD_eq_getElem?_getD,List.getElem?_eq_getElem (by simpa using h1)];simp
 have e2:t.data.toList.getD j 0=t.data[j]:=by rw [List.getD_eq_getElem?_getD,List.getElem?_eq_getElem (by simpa using h2)];simp
 rw [e1,e2] at this;exact UInt8.toNat_inj.1 (by omega)
def Qyf (n:Int):Int:=IntKind.i64.wrap n/4
def zz (n:Int):Int:=if 0<=Qyf n then 2*Qyf n else-2*Qyf n-1
def txt (s:ByteArray):ByteArray:=s.extract 0 (min s.size 99)
def ints (s:ByteArray):List Int:=s.data.toList.map fun b=>((b.toNat:Nat):Int)
theorem Qqh (s:ByteArray):(ints s).length=s.size:=by simp [ints]
theorem Q1w (s:ByteArray) (j:Nat) (h:j<s.size):(ints s).getD j 0=bAt s j:=by
 unfold ints bAt;have h':j<s.data.toList.length:=by simpa using h
 rw [Int.toNat_natCast,List.getD_eq_getElem?_getD,List.getD_eq_getElem?_getD,List.getElem?_map,List.getElem?_eq_getElem h'];rfl
def thL (k n:Int) (s:ByteArray):List Int:=
 if k%6=0 then pbL n else if k%6=1 then pbL (zz n) else if k%6=2 then [n%256] else if k%6=3 then [n%2]
 else if k%6=4 then pbL (txt s).size++ints (txt s) else pbL (n%1000)
theorem Qbdc {S:ByteArray} {a:Int} {l:List Int} (hl: ∀x∈l,0<=x/\x<256) (h:Has S a l):S.extract a.toNat (a+l.length).toNat=bs l:=by
 obtain ⟨h0,h1,h2⟩:=h;apply Qpy;rw [ByteArray.size_extract,Qbk];omega;intro j hj;rw [ByteArray.size_extract] at hj;rw [Qb7 h0 (by omega) h1 (by omega) (by omega),h2 j (by omega),Qy2 hl (by omega)]
def Qdb (l:List Int):List Int:=if l.getD 0 0<64 then [0] else if l.getD 0 0<16384 then [1] else if l.getD 0 0<1073741824 then [2] else [3]
def Qcl (l:List Int):List Int:=if l.getD 0 0<64 then [1] else if l.getD 0 0<16384 then [2] else if l.getD 0 0<1073741824 then [4] else [8]
noncomputable def numF (l:List Int):List Int:=numL (decB (l.getD 0 0)) (l.getD 1 0)
def Rd (l:List Int):Prop:=(decB (l.getD 3 0)).size<=1000000/\Has (decB (l.getD 3 0)) (l.getD 4 0) (thL (l.getD 0 0) (l.getD 1 0) (decB (l.getD 2 0)))
def Sh (l:List Int):Prop:=(decB (l.getD 3 0)).size<=1000000/\Cut (decB (l.getD 3 0)) (l.getD 4 0) (thL (l.getD 0 0) (l.getD 1 0) (decB (l.getD 2 0)))
end Go.Wbp
namespace Go.Wbp
open Go.Ev Go.RowKit
def Qr5:Nat->Sw->Bool
 |0,_=>true
 |n+1,W=>pinW n W&&Qr5 n W
theorem Q7t: ∀{n:Nat} {W:Sw},Qr5 n W=true-> ∀i,i<n->pinW i W=true
 |0,_,_,i,hi=>absurd hi (Nat.not_lt_zero i)
 |n+1,W,h,i,hi=>by
  simp only [Qr5,Bool.and_eq_true] at h;by_cases e:i=n;subst e;exact h.1;exact Q7t h.2 i (by omega)
theorem eqFn {V:Sig} {i id:Nat} {k:IntKind} {l:List AVal} (h:Qb V (.fn id k l)=some (den V (.symi k i))):V.i i=k.wrap (V.tab id (l.map fun a=>numS (den V a))):=by
 simp only [Qb,den,Option.some.injEq,AVal.int.injEq,true_and] at h;exact h.symm
theorem Qlz {V:Sig} {i id:Nat} {l:List AVal} (h:Qb V (.fnb id l)=some (den V (.symb i))):V.b i= !(V.tab id (l.map fun a=>numS (den V a))==0):=by
 simp only [Qb,den,Option.some.injEq,AVal.bool.injEq] at h;exact h.symm
theorem eqFs {V:Sig} {i id:Nat} {l:List AVal} (h:Qb V (.sop (.fs id) l)=some (den V (.syms i))):V.s i=decS (V.tab id ((l.map (den V)).map numS)):=by
 simp only [Qb,den,sopA,Option.some.injEq,AVal.str.injEq] at h;exact h.symm
theorem Qbx {V:Sig} {i:Nat} {l:List AVal} {cl:List (Option IntKind)} (h:Qb V (.sop (.row cl) l)=some (den V (.syms i))):V.s i=⟨(rowB cl (l.map (den V))).toArray⟩:=by
 simp only [Qb,den,sopA,Option.some.injEq,AVal.str.injEq] at h;exact h.symm
theorem Qct {V:Sig} {i:Nat} {a b:AVal} {x y:ByteArray} (h:Qb V (.sop .cat [a,b])=some (den V (.syms i))) (ha:den V a=.str x) (hb:den V b=.str y):V.s i=x++y:=by
 simp only [Qb,List.map,ha,hb] at h;simp only [den,sopA,Option.some.injEq,AVal.str.injEq] at h;exact h.symm
theorem pin0 {g:Inj} {w:World} {n:Nat} {W:Sw} (h:Qr5 n W=true): ∀i,(Qu g w n).pin i≠none->pinW i W=true:=by
 intro i hi;have hi:(if i<n then some (g.loc i) else none)≠none:=hi;split at hi;exact Q7t h i (by assumption);exact absurd rfl hi
theorem tabS {V:Sig} {l:Asg} {t:TabF} (h:V.tab=t):(asgS V l).tab=t:=h
theorem extS {V:Sig} {l:Asg} {t:Nat->Option Fz} (h:V.ext=t):(asgS V l).ext=t:=h
theorem Qe8 {V:Sig} {i:Nat} {a:AVal} {n:Int} (h:Qb V (.sop (.row [.some .u8]) [a])=some (den V (.syms i))) (ha:den V a=.int .u8 n):V.s i=bs [n%256]:=by
 simp only [Qb,List.map,ha] at h;simp only [den,sopA,rowB,encK,csz,beB,List.nil_append,List.append_nil,Option.some.injEq,AVal.str.injEq] at h;rw [<-h];simp only [bs,List.map_cons,List.map_nil]
 congr 3
 have:(n%((2^(8*1):Nat):Int)).toNat%256=(n%256).toNat:=by omega
 rw [this]
theorem Qb1 {a:Int} (b:Int) (h:0<=a):a.tmod b=a%b:=Int.tmod_eq_emod_of_nonneg h
end Go.Wbp
namespace Go.Wbp
open Go.Ev Go.RowKit
def kdC (n:Nat):Option IntKind:=
 match n with
 |1=>some .i64
 |2=>some .u64
 |3=>some .u8
 |4=>some .u32
 |5=>some .u16
 |_=>none
def kdN (N:Nat):Nat->Nat->Nat->KdT
 |0,_,_=> .e
 |f+1,a,b=> .n (kdN N f (2*a) (a+b)) (kdC (N/16^b%16)) (kdN N f (2*a) (2*a+b))
def oI (U:Sig):AVal->Option Int
 |.symi _ i=>some (U.i i)
 |.int _ n=>some n
 |_=>none
def oK:AVal->IntKind
 |.symi k _=>k
 |.int k _=>k
 |_=> .u8
def oB (U:Sig):AVal->Option Bool
 |.symb i=>some (U.b i)
 |.bool b=>some b
 |_=>none
def oS (U:Sig):AVal->Option ByteArray
 |.syms i=>some (U.s i)
 |.str s=>some s
 |_=>none
theorem Qfk {U:Sig} {a:AVal} {x:Int} (h:oI U a=some x):den U a=.int (oK a) x/\ ∀i,den U (Qbv a i)=.int (oK a) (U.i i):=by
 cases a<;>simp_all [oI,oK,den,Qbv]
theorem Qki {U:Sig} {a:AVal} {x:Bool} (h:oB U a=some x):den U a=.bool x/\ ∀i,den U (Qbv a i)=.bool (U.b i):=by
 cases a<;>simp_all [oB,den,Qbv]
theorem Qgh {U:Sig} {a:AVal} {x:ByteArray} (h:oS U a=some x):den U a=.str x/\ ∀i,den U (Qbv a i)=.str (U.s i):=by
 cases a<;>simp_all [oS,den,Qbv]
def nm (U:Sig) (a:AVal):Int:=
 match a with
 |.syms i=>encB (U.s i)
 |.symi _ i=>U.i i
 |.int _ n=>n
 |a=>numS (den U a)
theorem nm_eq (U:Sig) (a:AVal):nm U a=numS (den U a):=by cases a<;>rfl
def nmL (U:Sig):List AVal->List Int
 |[]=>[]
 |a::l=>nm U a::nmL U l
theorem Qrj (U:Sig): ∀l:List AVal,nmL U l=l.map fun a=>numS (den U a)
 |[]=>rfl
 |a::l=>by rw [nmL,Qrj U l,nm_eq];rfl
def facI (U:Sig) (i:Nat) (op:BinOp) (k:IntKind) (x y:Int):Prop:=
 match op with
 |.lss=>U.b i=decide (x<y)
 |.leq=>U.b i=decide (x<=y)
 |.gtr=>U.b i=decide (x>y)
 |.geq=>U.b i=decide (x>=y)
 |.eql=>U.b i=(x==y)
 |.neq=>U.b i= !(x==y)
 |.add=>U.i i=k.wrap (x+y)
 |.sub=>U.i i=k.wrap (x-y)
 |.mul=>U.i i=k.wrap (x*y)
 |_=>True
def facS (U:Sig) (i:Nat) (op:BinOp) (x y:ByteArray):Prop:=
 match op with
 |.eql=>U.b i=(x.toList==y.toList)
 |.neq=>U.b i= !(x.toList==y.toList)
 |_=>True
def facB (U:Sig) (i:Nat) (op:BinOp) (x y:Bool):Prop:=
 match op with
 |.eql=>U.b i=(x==y)
 |.neq=>U.b i= !(x==y)
 |_=>True
def fac1 (U:Sig) (i:Nat) (d:SDef):Prop:=
 match d with
 |.bin op a b=>match oI U a,oI U b with
  |some x,some y=>facI U i op (oK a) x y
  |_,_=>match oS U a,oS U b with
   |some x,some y=>facS U i op x y
   |_,_=>match oB U a,oB U b with
    |some x,some y=>facB U i op x y
    |_,_=>True
 |.un .not a=>match oB U a with
  |some x=>U.b i= !x
  |none=>True
 |.conv k a=>match oI U a with
  |some x=>U.i i=k.wrap x
  |none=>True
 |.low [a,b]=>match oI U a,oI U b with
  |some x,some y=>U.i i=if y<x then y else x
  |_,_=>True
 |.fn t k l=>U.i i=k.wrap (U.tab t (nmL U l))
 |.fnb t l=>U.b i= !(U.tab t (nmL U l)==0)
 |.sop (.fs t) l=>U.s i=decS (U.tab t (nmL U l))
 |.sop .cat [a,b]=>match oS U a,oS U b with
  |some x,some y=>U.s i=x++y
  |_,_=>True
 |.sop .len [a]=>match oS U a with
  |some x=>U.i i=(x.size:Nat)
  |none=>True
 |.sop .at [a,b]=>match oS U a,oI U b with
  |some x,some y=>U.i i=bAt x y
  |_,_=>True
 |.sop .sub [a,b,c]=>match oS U a,oI U b,oI U c with
  |some x,some y,some z=>U.s i=x.extract y.toNat z.toNat
  |_,_,_=>True
 |.ite c a b=>match oB U c with
  |some x=>match oI U a,oI U b with
   |some p,some q=>U.i i=bif x then p else q
   |_,_=>match oS U a,oS U b with
    |some p,some q=>U.s i=bif x then p else q
    |_,_=>match oB U a,oB U b with
     |some p,some q=>U.b i=bif x then p else q
     |_,_=>True
  |none=>True
 |_=>True
theorem Qbcs {U:Sig} {i:Nat} {op:BinOp} {k k':IntKind} {x y:Int} {a:AVal} (h:intA op k x k' y=some (den U (resS (.bin op a a) i))) (hl:den U (Qbv a i)=.int k (U.i i)):facI U i op k x y:=by
 by_cases e:k=k';cases op<;>simp only [facI,intA,resS,hl,if_pos e,Option.some.injEq,AVal.int.injEq,true_and,bne] at h⊢ <;>first|exact h.symm|(simp only [den,AVal.bool.injEq] at h;exact h.symm)
 cases op<;>simp only [facI,intA,if_neg e,reduceCtorEq] at h⊢
theorem Qbcr {U:Sig} {i:Nat} {d:SDef} (h:Qcs d=none->Qb U d=some (den U (resS d i))):fac1 U i d:=by
 unfold fac1;split;rename_i op a b;split;rename_i x y hx hy;obtain ⟨h1,h2⟩:=Qfk hx;obtain ⟨h3,_⟩:=Qfk hy;by_cases hq:op=.quo\/op=.rem;rcases hq with rfl|rfl<;>exact trivial
 have hc:Qcs (.bin op a b)=none:=by
  cases op<;>first|rfl|simp at hq
 have h:=h hc;simp only [Qb,h1,h3,binS] at h;exact Qbcs (a:=a) h (h2 i);split;rename_i x y hx hy;have h1:=(Qgh hx).1;have h3:=(Qgh hy).1;cases op<;>first
  |exact trivial
  |(have h:=h rfl;simp only [Qb,h1,h3,binS,strA,resS,Option.some.injEq] at h;simp only [den,AVal.bool.injEq] at h;exact h.symm)
 split;rename_i x y hx hy;have h1:=(Qki hx).1;have h3:=(Qki hy).1;cases op<;>first
  |exact trivial
  |(have h:=h rfl;simp only [Qb,h1,h3,binS,resS,Option.some.injEq] at h;simp only [den,AVal.bool.injEq] at h;exact h.symm)
 trivial;rename_i a;split;rename_i x hx;obtain ⟨h1,h2⟩:=Qki hx;have h:=h rfl;simp only [Qb,h1,unA,resS,h2,Option.some.injEq,AVal.bool.injEq] at h;exact h.symm;trivial;rename_i k a;split;rename_i x hx;have h:=h rfl;simp only [Qb,(Qfk hx).1,Qjc,resS,Option.some.injEq] at h;simp only [den,AVal.int.injEq,true_and] at h;exact h.symm;trivial;rename_i a b;split;rename_i x y hx hy;obtain ⟨h1,h2⟩:=Qfk hx;have h3:=(Qfk hy).1;have h:=h rfl;simp only [Qb,List.map,h1,h3,resS,h2,minA,Option.some.injEq,AVal.int.injEq,true_and] at h;exact h.symm;trivial;rename_i t k l;rw [Qrj];exact eqFn (h rfl);rename_i t l;rw [Qrj];exact Qlz (h rfl);rename_i t l;have:=eqFs (h rfl);rw [Qrj];exact this.trans (by rw [List.map_map];rfl);rename_i a b;split;rename_i x y hx hy;exact Qct (h rfl) (Qgh hx).1 (Qgh hy).1;trivial;rename_i a;split;rename_i x hx;have h:=h rfl;simp only [Qb,List.map,(Qgh hx).1,sopA,resS,Option.some.injEq] at h;simp only [den,AVal.int.injEq,true_and] at h;exact h.symm;trivial;rename_i a b;split;rename_i x y hx hy;have h:=h rfl;simp only [Qb,List.map,(Qgh hx).1,(Qfk hy).1,sopA,resS,Option.some.injEq] at h;simp only [den,AVal.int.injEq,true_and] at h;exact h.symm;trivial;rename_i a b c;split;rename_i x y z hx hy hz;have h:=h rfl;simp only [Qb,List.map,(Qgh hx).1,(Qfk hy).1,(Qfk hz).1,sopA,resS,Option.some.injEq] at h;simp only [den,AVal.str.injEq] at h;exact h.symm;trivial;rename_i c a b;split;rename_i x hx;have h1:=(Qki hx).1;split;rename_i p q hp hq;obtain ⟨h2,h3⟩:=Qfk hp
 have h4:=(Qfk hq).1;have h:=h rfl;simp only [Qb,h1,h2,h4,resS,h3] at h;cases x<;>simp only [cond_true,cond_false,Option.some.injEq,AVal.int.injEq] at h⊢ <;>exact h.2.symm;split;rename_i p q hp hq;obtain ⟨h2,h3⟩:=Qgh hp;have h4:=(Qgh hq).1;have h:=h rfl;simp only [Qb,h1,h2,h4,resS,h3] at h;cases x<;>simpa using h.symm;split;rename_i p q hp hq;obtain ⟨h2,h3⟩:=Qki hp;have h4:=(Qki hq).1;have h:=h rfl;simp only [Qb,h1,h2,h4,resS,h3] at h;cases x<;>simpa using h.symm;trivial;trivial;trivial
def Facs (U:Sig):Nat->List SDef->Prop
 |_,[]=>True
 |i,d::G=>fac1 U i d/\Facs U (i+1) G
theorem facs: ∀{U:Sig} {m:Nat} {G:List SDef},Eqs U m G->Facs U m G
 |_,_,[],_=>trivial
 |U,m,d::G,e=>⟨Qbcr (fun hc=>e.at 0 d rfl hc),facs fun k d' hd hc=>by
   have:=e (k+1) d' (by simpa using hd) hc;rwa [show m+(k+1)=m+1+k by omega] at this⟩
abbrev nG (S:ByteArray) (a:Int) (k:Nat):Int:=(numL S a).getD k 0
theorem insK {X:Ing} {U:Sig} (hG:Eqs U X.m X.G) (hi:Qx U X.m X.ins) {l:Asg} {q:Nat} {insq:List (Option IntKind)} (hkt:okKt X=true:=by kernel_rfl) (h:Qg8 (kdX X) l insq 0=true:=by kernel_rfl):Qx (asgS U l) q insq:=Qbdi hG hi hkt h
def AllF (P:Program) (tab:TabF):List SymF->Prop
 |[]=>True
 |e::l=>SymFOk P tab (fun _=>True) e/\AllF P tab l
theorem AllF.mem {P:Program} {tab:TabF}: ∀{l:List SymF},AllF P tab l-> ∀e,e∈l->SymFOk P tab (fun _=>True) e
 |a::l,h,e,he=>by
  rcases List.mem_cons.1 he with rfl|he;exact h.1;exact h.2.mem e he
theorem Qcy {P:Program} {X:Ing} {kd:Nat->Option IntKind} {l:List SymF} (h1:X.mh=Qbr kd l) (h2:X.hook=Qgf) (h3:X.insf=none) (h4:X.atoms=[]) (h5:X.ph=noMh) (hT:okLT X.m X.G X.T=true) (hn:X.n=0) (hk:kd=kdX X) (h6:Qkg l=true) (H:AllF P X.tab l) (F:List Fact):Hooks P (cxOf X F) where
 val:=fun f args v h=>by
  have h:X.hook (symS (Q5 X F)) (kdX X) f args=some v:=h;rw [h2] at h;cases h
 mem:=fun f args hp v hp' h=>by
  have h:X.mh (symS (Q5 X F)) f args hp=some (v,hp'):=h;rw [h1,hk] at h;exact Qwj (X:=X) (tbl:=l) (inv:=fun _=>True) (fun e he=>H.mem e he) hT hn (fun _ _ _ _=>trivial) F f args hp v hp' h (hpn:=h6)
 ovl:=fun f k h=>by
  have h:X.insf=some (f,k):=h;rw [h3] at h;cases h
 atm:=fun k b h=>by
  have h:(k,b)∈X.atoms:=h;rw [h4] at h;cases h
 pan:=fun f args hp v hp' h=>by
  have h:X.ph (symS (Q5 X F)) f args hp=some (v,hp'):=h;rw [h5] at h;cases h
end Go.Wbp
namespace Go.Ev
abbrev AVal.i (n:Nat):AVal:=.symi .i64 n
abbrev AVal.u (n:Nat):AVal:=.symi .u64 n
abbrev AVal.c (n:Nat):AVal:=.symi .u8 n
abbrev AVal.w (n:Nat):AVal:=.symi .u32 n
abbrev AVal.z (n:Int):AVal:=.int .i64 n
abbrev AVal.o (n:Int):AVal:=.int .u64 n
abbrev AVal.s (n:Nat):AVal:=.syms n
abbrev Sw.n (i:Nat) (a b:Sw):Sw:=.node i a b
abbrev Sw.x (i:Nat) (a:Sw):Sw:=.node i a .dead
abbrev Sw.y (i:Nat) (a:Sw):Sw:=.node i .dead a
abbrev SDef.q (o:BinOp) (a b:AVal):SDef:=.bin o a b
theorem Agree.iv {q:Nat} {V U:Sig} (ag:Agree q V U) (k:Nat) (h:k<q):U.i k=V.i k:=((ag.val k h).1).symm
theorem Agree.bv {q:Nat} {V U:Sig} (ag:Agree q V U) (k:Nat) (h:k<q):U.b k=V.b k:=((ag.val k h).2.1).symm
theorem Agree.sv {q:Nat} {V U:Sig} (ag:Agree q V U) (k:Nat) (h:k<q):U.s k=V.s k:=((ag.val k h).2.2).symm
theorem Agree.xv {q:Nat} {V U:Sig} (ag:Agree q V U):U.ext=V.ext:=ag.ext.symm
end Go.Ev
namespace Go.Lgp
open Go.Ev Go.RowKit Go.Wbp
structure En where
 r:Int
 b:Int
 k:Int
 v:Int
def cl4:List (Option IntKind):=[some .u64,some .u64,some .i64,some .u8]
def cl4d:List (Option IntKind):=[some .u16,some .u16,some .u8,some .u8]
def entA (x:En):List AVal:=[.int .u64 x.r,.int .u64 x.b,.int .i64 x.k,.int .u8 x.v]
def okV (x:En):Prop:=IntKind.u64.wrap x.r=x.r/\IntKind.u64.wrap x.b=x.b/\IntKind.i64.wrap x.k=x.k/\IntKind.u8.wrap x.v=x.v
def encX (x:En):ByteArray:=⟨(rowB cl4 (entA x)).toArray⟩
def encL:List En->ByteArray
 |[]=> .empty
 |x::l=>encX x++encL l
theorem Q0c: ∀(l m:List En),encL (l++m)=encL l++encL m
 |[],m=>by simp [encL]
 |x::l,m=>by simp only [List.cons_append,encL,Q0c l m,ByteArray.append_assoc]
theorem encL_snoc (l:List En) (x:En):encL (l++[x])=encL l++encX x:=by
 rw [Q0c];simp [encL]
def sg0:Sig:=⟨fun _=>0,fun _=>false,fun _=> .empty,fun _ _=>0,fun _=>none⟩
theorem okX {x:En} (h:okV x):okCs (cx0 (fun _ _=>0)) cl4 (entA x)=true:=by
 obtain ⟨h1,h2,h3,h4⟩:=h;simp [okCs,okC,cl4,entA,h1,h2,h3,h4]
theorem rsz4:rsz cl4=25:=rfl
theorem Qbca {x:En} (h:okV x):(encX x).data.toList.length=25:=by
 have:=Qkt (V:=sg0) (okX h);exact this
def rowE (C:ByteArray) (j:Nat):En:=⟨iOf (Qm cl4 C j 0),iOf (Qm cl4 C j 1),iOf (Qm cl4 C j 2),iOf (Qm cl4 C j 3)⟩
theorem Q8f (C:ByteArray) (j:Nat):okV (rowE C j):=by
 have key: ∀i k,cl4[i]? =some (some k)->k.wrap (iOf (Qm cl4 C j i))=iOf (Qm cl4 C j i):=by
  intro i k hi;rcases Qgw cl4 i (C.data.toList.drop (j*rsz cl4)) with ⟨k',n,h1,h2⟩|⟨h1,_⟩
  rw [hi] at h1;cases h1;have h3:=Qo9 _ _ _ h2;have:Qm cl4 C j i=.int k n:=h2;rw [this];exact h3;exact absurd hi (h1 _)
 exact ⟨key 0 _ rfl,key 1 _ rfl,key 2 _ rfl,key 3 _ rfl⟩
theorem Qblu {x:En} (h:okV x) (S:ByteArray):rowE (encX x++S) 0=x:=by
 have key: ∀(j:Nat) (a:AVal),(entA x)[j]? =some a->Qm cl4 (encX x++S) 0 j=den sg0 a:=by
  intro j a hj;have:=Qi7 (ng:=cx0 (fun _ _=>0)) (V:=sg0) (Qe5 rfl) S.data.toList (okX h) j a hj;unfold Qm;have e:(encX x++S).data.toList=rowB cl4 (entA x)++S.data.toList:=by simp [ByteArray.data_append,encX]
  rw [e,Nat.zero_mul,List.drop_zero];exact this
 have k0:=key 0 _ rfl;have k1:=key 1 _ rfl;have k2:=key 2 _ rfl;have k3:=key 3 _ rfl;simp only [den] at k0 k1 k2 k3;simp only [rowE,k0,k1,k2,k3,iOf]
theorem Qblt {S T:ByteArray} {N:Nat} (h:S.data.toList.length=N*25) (j:Nat):rowE (S++T) j=if j<N then rowE S j else rowE T (j-N):=by
 simp only [rowE,Qhm (cl:=cl4) (S:=S) (T:=T) (N:=N) (by rw [rsz4];exact h)];split<;>rfl
def lstE (C:ByteArray) (N:Nat):List En:=(List.range N).map (rowE C)
theorem Qwb (C:ByteArray) (N:Nat):(lstE C N).length=N:=by simp [lstE]
theorem Qnv: ∀{l:List En},(∀x,x∈l->okV x)->lstE (encL l) l.length=l
 |[],_=>rfl
 |x::l,h=>by
  have hx:=h x (by simp);have hl:=Qbca hx;have ih:=Qnv (l:=l) fun y hy=>h y (by simp [hy]);simp only [lstE,List.length_cons,List.range_succ_eq_map,List.map_cons,List.map_map,encL];rw [Qblu hx]
  congr 1
  conv=>rhs;rw [<-ih]
  simp only [lstE];refine List.map_congr_left fun j _=> ?_;simp only [Function.comp];rw [Qblt (N:=1) (by rw [hl])];simp
theorem Qbji {C:ByteArray} {N:Nat}: ∀x,x∈lstE C N->okV x:=by
 intro x hx;simp only [lstE,List.mem_map] at hx;obtain ⟨j,_,rfl⟩:=hx;exact Q8f C j
theorem Qbjh {C:ByteArray} {N j:Nat} (h:j<N):(lstE C N)[j]? =some (rowE C j):=by
 simp [lstE,h]
theorem Qbjg {C:ByteArray} {N j:Nat} (h:j<N):(lstE C N).drop j=rowE C j::(lstE C N).drop (j+1):=by
 have hl:j<(lstE C N).length:=by rw [Qwb];exact h
 rw [List.drop_eq_getElem_cons hl]
 congr 1
 have:=Qbjh (C:=C) h;rw [List.getElem?_eq_getElem hl] at this;exact Option.some.inj this
theorem Qbjj (C:ByteArray) {N j:Nat} (h:j<=N):(lstE C N).take j=lstE C j:=by
 simp only [lstE,<-List.map_take,List.take_range,Nat.min_eq_left h]
theorem Qwc (C:ByteArray) (j:Nat):lstE C (j+1)=lstE C j++[rowE C j]:=by
 simp [lstE,List.range_succ]
def most:Int:=1099511627776
def behind (a b:En):Bool:=
 if most<b.r\/b.r<b.b\/b.b<a.b then false
 else if b.k=255 then decide (a.r<=b.r)
 else if b.r=a.r then decide (a.k<b.k/\b.b=a.b)
 else decide (a.r<b.r)
def Qcx (a x:En):Bool:=decide (0<=x.k/\x.k<=2)&&behind a x
def Qc9 (last:En):List En->En->Bool
 |[],e=>behind last e
 |x::l,e=>Qcx last x&&Qc9 x l e
structure Lg where
 img:Int
 es:List En
 cyc:Int
 ret:Int
 br:Int
 out:Int
def noE:En:=⟨0,0,-1,0⟩
def Lg.fin (l:Lg):En:=⟨l.ret,l.br,255,0⟩
def right (l:Lg):Bool:=Qc9 noE l.es l.fin&&decide (0<=l.cyc/\l.cyc<=1073741824/\0<=l.out/\l.out<=6)
def Qok (c x:Int):Int:=(c*2+c/128+x)%256
def sumL (l:List Int):Int:=l.foldl Qok 0
theorem Qx6 (l:List Int) (x:Int):sumL (l++[x])=Qok (sumL l) x:=by simp [sumL]
theorem Qd5 (l:List Int):0<=sumL l/\sumL l<256:=by
 rcases List.eq_nil_or_concat l with rfl|⟨m,x,rfl⟩;exact ⟨by decide,by decide⟩;rw [List.concat_eq_append,Qx6];unfold Qok;omega
def sumS (S:ByteArray):Int:=sumL (ints S)
def entB (last x:En):List Int:=[x.k%256]++pbL (x.r-last.r)++pbL (x.b-last.b)++[x.v%256]
def encS (P:List Int) (last:En):List En->List Int
 |[]=>P
 |x::l=>encS (P++entB last x++[sumL (P++entB last x)]) x l
def head (img:Int):List Int:=[80,76,1,img/16777216%256,img/65536%256,img/256%256,img%256]
def Qk (last:En):List En->En
 |[]=>last
 |x::l=>Qk x l
def zeE:En:=⟨0,0,0,0⟩
def finB (last:En) (l:Lg):List Int:=[255]++pbL l.cyc++pbL (l.ret-last.r)++pbL (l.br-last.b)++[l.out%256]
def encP (l:Lg):List Int:=encS (head l.img) zeE l.es++finB (Qk zeE l.es) l
def encG (l:Lg):List Int:=encP l++[sumL (encP l)]
inductive Rd (α:Type) where
 |bad (at_:Int)
 |ok (a:α)
def Rd.bind {α β:Type} (x:Rd α) (f:α->Rd β):Rd β:=
 match x with
 |.bad p=> .bad p
 |.ok a=>f a
def Qbh (S:ByteArray) (a:Int) (p:Int->Bool):Rd Int:=
 if (S.size:Int)<=a then .bad a else if p (bAt S a) then .ok (bAt S a) else .bad a
def numP (S:ByteArray) (a:Int) (p:Int->Bool):Rd (Int×Int):=
 if (numL S a).getD 2 0=0/\p ((numL S a).getD 0 0)=true then .ok ((numL S a).getD 0 0,a+(numL S a).getD 1 0) else .bad a
def Qef (S:ByteArray):Rd Int:=
 (Qbh S 0 (· ==80)).bind fun _=>(Qbh S 1 (· ==76)).bind fun _=>(Qbh S 2 (· ==1)).bind fun _=>
 if (S.size:Int)<7 then .bad 3 else .ok (((bAt S 3*256+bAt S 4)*256+bAt S 5)*256+bAt S 6)
def Qeg (S:ByteArray) (a:Int):Rd Int:=Qbh S a fun b=>decide (b<=2)||b==255
def cntP (S:ByteArray) (a:Int) (last:En) (k:Int):Rd (En×Int):=
 (numP S a fun n=>decide (last.r+min n (2*most)<=most/\(0<n\/last.k<k))).bind fun n=>
 (numP S n.2 fun m=>decide (last.b+min m (2*most)<=last.r+min n.1 (2*most)/\(0<n.1\/m=0\/k=255))).bind fun m=>
 .ok (⟨last.r+min n.1 (2*most),last.b+min m.1 (2*most),k,0⟩,m.2)
def Qex (S:ByteArray) (a:Int):Rd Int:=Qbh S a fun b=>b==sumS (S.extract 0 a.toNat)
def entP (S:ByteArray) (a:Int) (last:En) (k:Int):Rd (En×Int):=
 (cntP S a last k).bind fun x=>(Qbh S x.2 fun _=>true).bind fun v=>(Qex S (x.2+1)).bind fun _=> .ok ({x.1 with v:=v},x.2+2)
def finP (S:ByteArray) (img a:Int) (last:En) (es:List En):Rd Lg:=
 (numP S a fun n=>decide (n<=1073741824)).bind fun c=>(cntP S c.2 last 255).bind fun x=>(Qbh S x.2 fun b=>decide (b<=6)).bind fun o=>
 (Qex S (x.2+1)).bind fun _=>if x.2+2<(S.size:Int) then .bad (x.2+2) else .ok ⟨img,es,c.1,x.1.r,x.1.b,o⟩
def parF (S:ByteArray) (img:Int):Nat->Int->En->List En->Rd Lg
 |0,a,_,_=> .bad a
 |f+1,a,last,es=>(Qeg S a).bind fun k=>if k=255 then finP S img (a+1) last es else
   (entP S (a+1) last k).bind fun x=>parF S img f x.2 x.1 (es++[x.1])
def par (S:ByteArray):Rd Lg:=(Qef S).bind fun img=>parF S img (S.size+1) 7 noE []
structure Dr where
 m:Int
 t:Int
 k:Int
 v:Int
def rowD (C:ByteArray) (j:Nat):Dr:=⟨iOf (Qm cl4d C j 0),iOf (Qm cl4d C j 1),iOf (Qm cl4d C j 2),iOf (Qm cl4d C j 3)⟩
theorem Q8d (C:ByteArray) (j:Nat):(0<=(rowD C j).m/\(rowD C j).m<65536)/\(0<=(rowD C j).t/\(rowD C j).t<65536)/\(0<=(rowD C j).k/\(rowD C j).k<256)/\(0<=(rowD C j).v/\(rowD C j).v<256):=by
 have key: ∀i k,cl4d[i]? =some (some k)->k.wrap (iOf (Qm cl4d C j i))=iOf (Qm cl4d C j i):=by
  intro i k hi;rcases Qgw cl4d i (C.data.toList.drop (j*rsz cl4d)) with ⟨k',n,h1,h2⟩|⟨h1,_⟩
  rw [hi] at h1;cases h1;have h3:=Qo9 _ _ _ h2;have:Qm cl4d C j i=.int k n:=h2;rw [this];exact h3;exact absurd hi (h1 _)
 have k0:=key 0 _ rfl;have k1:=key 1 _ rfl;have k2:=key 2 _ rfl;have k3:=key 3 _ rfl;rw [Qov] at k0 k1;rw [wr_u8] at k2 k3;simp only [rowD];omega
def Qc3 (a:En) (d:Dr):En:=
 ⟨if d.m=0/\d.k%3<=a.k then a.r+d.m+1 else a.r+d.m,if a.r<(if d.m=0/\d.k%3<=a.k then a.r+d.m+1 else a.r+d.m) then min (if d.m=0/\d.k%3<=a.k then a.r+d.m+1 else a.r+d.m) (a.b+d.t) else a.b,d.k%3,d.v⟩
def draL (C:ByteArray):Nat->List En
 |0=>[]
 |n+1=>draL C n++[Qc3 (Qk noE (draL C n)) (rowD C n)]
def draG (img:Int) (C:ByteArray) (n:Nat) (m t k:Int):Lg:=
 ⟨img,draL C (min n 60),m*100,(Qk noE (draL C (min n 60))).r+m,min ((Qk noE (draL C (min n 60))).r+m) ((Qk noE (draL C (min n 60))).b+t),k%7⟩
def Rd.isOk {α:Type}:Rd α->Bool
 |.ok _=>true
 |.bad _=>false
def lg0:Lg:=⟨0,[],0,0,0,0⟩
def Rd.val (x:Rd Lg):Lg:=
 match x with
 |.ok a=>a
 |.bad _=>lg0
def Rd.at_ {α:Type}:Rd α->Int
 |.ok _=>0
 |.bad p=>p
noncomputable def lgOf (l:List Int):Lg:=⟨l.getD 0 0,lstE (decB (l.getD 1 0)) (l.getD 2 0).toNat,l.getD 3 0,l.getD 4 0,l.getD 5 0,l.getD 6 0⟩
noncomputable def lgFs (i:Nat) (l:List Int):List Int:=
 if i=0 then Qdb l else if i=1 then Qcl l else if i=2 then numF l
 else if i=3 then [encB (bs (pbL (l.getD 0 0))),((pbL (l.getD 0 0)).length:Int)]
 else if i=6 then [sumS (decB (l.getD 0 0))]
 else if i=7 then [bif right (lgOf l) then 1 else 0]
 else if i=8 then [encB (bs (encG (lgOf l)))]
 else if i=9 then [bif (par (decB (l.getD 0 0))).isOk then 1 else 0,(par (decB (l.getD 0 0))).at_,encB (encL (par (decB (l.getD 0 0))).val.es),((par (decB (l.getD 0 0))).val.es.length:Int),(par (decB (l.getD 0 0))).val.img,
  (par (decB (l.getD 0 0))).val.cyc,(par (decB (l.getD 0 0))).val.ret,(par (decB (l.getD 0 0))).val.br,(par (decB (l.getD 0 0))).val.out,bif (par (decB (l.getD 0 0))).isOk then 0 else 1]
 else if i=10 then [encB (encL (draG 0 (decB (l.getD 0 0)) (l.getD 1 0).toNat 0 0 0).es),((draG 0 (decB (l.getD 0 0)) (l.getD 1 0).toNat 0 0 0).es.length:Int),(draG 0 (decB (l.getD 0 0)) (l.getD 1 0).toNat (l.getD 2 0) (l.getD 3 0) 0).ret,(draG 0 (decB (l.getD 0 0)) (l.getD 1 0).toNat (l.getD 2 0) (l.getD 3 0) 0).br]
 else if i=11 then [encB (encL (lstE (decB (l.getD 0 0)) (l.getD 1 0).toNat))]
 else []
noncomputable def Qa:TabF:=Qd6 lgFs
theorem lg_pb (n:Int):decS (Qa 192 [n])=bs (pbL n):=by
 show decS (encB (bs (pbL n)))=_;exact Qlt _
theorem lg_pl (n:Int):Qa 193 [n]=((pbL n).length:Int):=rfl
theorem Qff (S:ByteArray):Qa 384 [encB S]=sumS S:=by
 show sumS (decB (encB S))=_;rw [Qe6]
theorem Q5v (a b c d e f:Int) (C:ByteArray) (n:Nat):lgOf [a,encB C,(n:Int),c,d,e,f]=⟨a,lstE C n,c,d,e,f⟩:=by
 show (⟨a,lstE (decB (encB C)) (n:Int).toNat,c,d,e,f⟩:Lg)=_;rw [Qe6,Int.toNat_natCast]
theorem Qj6 (a c d e f:Int) (C:ByteArray) (n:Nat):(!(Qa 448 [a,encB C,(n:Int),c,d,e,f]==0))=right ⟨a,lstE C n,c,d,e,f⟩:=by
 have h:Qa 448 [a,encB C,(n:Int),c,d,e,f]=bif right (lgOf [a,encB C,(n:Int),c,d,e,f]) then 1 else 0:=rfl
 rw [h,Q5v a 0 c d e f];cases right ⟨a,lstE C n,c,d,e,f⟩<;>rfl
theorem Qnr (a c d e f:Int) (C:ByteArray) (n:Nat):decS (Qa 512 [a,encB C,(n:Int),c,d,e,f])=bs (encG ⟨a,lstE C n,c,d,e,f⟩):=by
 have h:Qa 512 [a,encB C,(n:Int),c,d,e,f]=encB (bs (encG (lgOf [a,encB C,(n:Int),c,d,e,f]))):=rfl;rw [h,Q5v a 0 c d e f,Qlt]
theorem Q51 (C:ByteArray) (n:Nat) (m t:Int):decS (Qa 640 [encB C,(n:Int)])=encL (draL C (min n 60))/\Qa 641 [encB C,(n:Int)]=((draL C (min n 60)).length:Int)/\Qa 642 [encB C,(n:Int),m,t]=(draG 0 C n m t 0).ret/\Qa 643 [encB C,(n:Int),m,t]=(draG 0 C n m t 0).br:=by
 have h1:Qa 640 [encB C,(n:Int)]=encB (encL (draG 0 (decB (encB C)) (n:Int).toNat 0 0 0).es):=rfl;have h2:Qa 641 [encB C,(n:Int)]=((draG 0 (decB (encB C)) (n:Int).toNat 0 0 0).es.length:Int):=rfl;have h3:Qa 642 [encB C,(n:Int),m,t]=(draG 0 (decB (encB C)) (n:Int).toNat m t 0).ret:=rfl;have h4:Qa 643 [encB C,(n:Int),m,t]=(draG 0 (decB (encB C)) (n:Int).toNat m t 0).br:=rfl;rw [h1,h2,h3,h4,Qe6,Int.toNat_natCast,Qlt];exact ⟨rfl,rfl,rfl,rfl⟩
theorem Qra (C:ByteArray) (n:Nat):decS (Qa 704 [encB C,(n:Int)])=encL (lstE C n):=by
 have h:Qa 704 [encB C,(n:Int)]=encB (encL (lstE (decB (encB C)) (n:Int).toNat)):=rfl;rw [h,Qe6,Int.toNat_natCast,Qlt]
theorem lg_ok (S:ByteArray):(!(Qa 576 [encB S]==0))=(par S).isOk:=by
 have h:Qa 576 [encB S]=bif (par (decB (encB S))).isOk then 1 else 0:=rfl
 rw [h,Qe6];cases (par S).isOk<;>rfl
theorem Qvw (S:ByteArray):(!(Qa 585 [encB S]==0))= !(par S).isOk:=by
 have h:Qa 585 [encB S]=bif (par (decB (encB S))).isOk then 0 else 1:=rfl
 rw [h,Qe6];cases (par S).isOk<;>rfl
theorem lg_at (S:ByteArray):Qa 577 [encB S]=(par S).at_:=by
 have h:Qa 577 [encB S]=(par (decB (encB S))).at_:=rfl;rw [h,Qe6]
theorem lg_es (S:ByteArray):decS (Qa 578 [encB S])=encL (par S).val.es:=by
 have h:Qa 578 [encB S]=encB (encL (par (decB (encB S))).val.es):=rfl;rw [h,Qe6,Qlt]
theorem Qvx (S:ByteArray):Qa 579 [encB S]=((par S).val.es.length:Int)/\Qa 580 [encB S]=(par S).val.img/\Qa 581 [encB S]=(par S).val.cyc/\Qa 582 [encB S]=(par S).val.ret/\Qa 583 [encB S]=(par S).val.br/\Qa 584 [encB S]=(par S).val.out:=by
 have h1:Qa 579 [encB S]=((par (decB (encB S))).val.es.length:Int):=rfl;have h2:Qa 580 [encB S]=(par (decB (encB S))).val.img:=rfl;have h3:Qa 581 [encB S]=(par (decB (encB S))).val.cyc:=rfl;have h4:Qa 582 [encB S]=(par (decB (encB S))).val.ret:=rfl;have h5:Qa 583 [encB S]=(par (decB (encB S))).val.br:=rfl;have h6:Qa 584 [encB S]=(par (decB (encB S))).val.out:=rfl;rw [h1,h2,h3,h4,h5,h6,Qe6];exact ⟨rfl,rfl,rfl,rfl,rfl,rfl⟩
end Go.Lgp
set_option maxRecDepth 100000
namespace Go.Proofs.YtelimhjceiamcaaDoor.lgn
open Go.Ev Go.RowKit Go.Wbp Go.Lgp
theorem mixed:Tryd.prog.follows .mixedOrders=true:=Checked.mixed Tryd.checked
def wnIn (e:AVal):Blk:=.cells [.syms 0,.symi .i64 1,e] 107
def wnRf (c f:AVal):Blk:=.cells [.syms 0,.symi .i64 1,c,f] 97
def wnK:List (Option IntKind):=[none,some .i64]
def Qboz:Shape:=⟨argT 0 [.ptr 0 0],[wnIn .niliface]⟩
def Qen:Shape:=⟨[(0,.ptr 0 0),(2,.u 3),(3,.i 4),(4,.i 5)],[wnIn .niliface]⟩
def u1:List Sh:=[.one (.i .u64)]
def i1:List Sh:=[.one (.i .i64)]
def Qbu:List Ent:=[⟨45,u1,i1,0⟩,⟨39,u1,i1,1⟩]
def Qim (f:FuncId) (args:List AVal) (pre:List Blk) (v:AVal) (post:List Blk):SymF:=
 {f:=f,m:=2,ins:=wnK,args:=args,pre:=pre,pcs:=[.bin .leq (.int .i64 0) (.symi .i64 1),.bin .leq (.symi .i64 1) (.symi .i64 2),.bin .leq (.symi .i64 2) (.int .i64 1000000)],
  G:=[.sop .len [.syms 0],.fn 128 .u64 [.syms 0,.symi .i64 1],.fn 129 .i64 [.syms 0,.symi .i64 1],.fn 130 .i64 [.syms 0,.symi .i64 1],.bin .add (.symi .i64 1) (.symi .i64 4),.bin .neq (.symi .i64 5) (.int .i64 0),.ite (.symb 7) (.symi .i64 1) (.int .i64 0)],
  v:=v,post:=post}
def sf48:SymF:=Qim 76 [.ptr 0 0] [wnIn .niliface] (.tuple [.u 3,.i 4,.i 5]) [wnIn .niliface]
theorem Qsu (n:Int):Qa 0 [n]=(Qdb [n]).getD 0 0:=by simp [Qa,Qd6,lgFs]
theorem Qst (n:Int):Qa 64 [n]=(Qcl [n]).getD 0 0:=by simp [Qa,Qd6,lgFs]
theorem tab_num (s:ByteArray) (a:Int) (j:Nat) (hj:j<3):Qa (128+j) [encB s,a]=(numL s a).getD j 0:=by
 have e1:(128+j)/64=2:=by omega
 have e2:(128+j)%64=j:=by omega
 show (lgFs ((128+j)/64) [encB s,a]).getD ((128+j)%64) 0=_;rw [e1,e2];simp only [lgFs,numF];rw [if_neg (by decide),if_neg (by decide),if_pos trivial];simp only [List.getD_cons_zero,List.getD_cons_succ,Qe6]
theorem Qsm (n:Int):(n<64/\(Qdb [n]).getD 0 0=0)\/(64<=n/\n<16384/\(Qdb [n]).getD 0 0=1)\/(16384<=n/\n<1073741824/\(Qdb [n]).getD 0 0=2)\/(1073741824<=n/\(Qdb [n]).getD 0 0=3):=by
 unfold Qdb;simp only [List.getD_cons_zero];split;exact .inl ⟨by omega,rfl⟩;split;exact .inr (.inl ⟨by omega,by omega,rfl⟩);split;exact .inr (.inr (.inl ⟨by omega,by omega,rfl⟩));exact .inr (.inr (.inr ⟨by omega,rfl⟩))
theorem Qsl (n:Int):(n<64/\(Qcl [n]).getD 0 0=1)\/(64<=n/\n<16384/\(Qcl [n]).getD 0 0=2)\/(16384<=n/\n<1073741824/\(Qcl [n]).getD 0 0=4)\/(1073741824<=n/\(Qcl [n]).getD 0 0=8):=by
 unfold Qcl;simp only [List.getD_cons_zero];split;exact .inl ⟨by omega,rfl⟩;split;exact .inr (.inl ⟨by omega,by omega,rfl⟩);split;exact .inr (.inr (.inl ⟨by omega,by omega,rfl⟩));exact .inr (.inr (.inr ⟨by omega,rfl⟩))
def Qgq:List SDef:=[.q .shr (.u 0) (.z 6),
 .q .gtr (.u 1) (.o 0),
 .q .shr (.u 0) (.z 14),
 .q .gtr (.u 3) (.o 0),
 .q .shr (.u 0) (.z 30),
 .q .gtr (.u 5) (.o 0)]
def Q9o:LT:=Go.Wbp.fT 1 Qgq (.n (.n (.n .e 310590 1 .e) 710870 3 (.n .e 1511430 5 .e)) 101010725 2 (.n (.n .e 303011331 4 .e) 505011937 6 .e))
def Q9p:Wr':=.node 2 (.node 4 (.node 6 (.run (.leaf (.int .i64 3))) (.run (.leaf (.int .i64 2)))) (.node 6 (.dead) (.run (.leaf (.int .i64 1))))) (.node 4 (.dead) (.node 6 (.dead) (.run (.leaf (.int .i64 0)))))
theorem Qiz {U:Sig} (e:Eqs U 1 Qgq):U.i 1=U.i 0/64:=(eqI (x:=(U.i 0:Int).fdiv (2^(min (6:Int).toNat IntKind.u64.bits))) (e.at 0 _ rfl rfl) rfl).trans (by rw [show (2:Int)^(min (6:Int).toNat IntKind.u64.bits)=64 by decide];exact Qbf (by decide))
theorem Qi0 {U:Sig} (e:Eqs U 1 Qgq):(bI (U.b 2)=1/\U.i 1>0)\/(bI (U.b 2)=0/\ ¬U.i 1>0):=Qr (eqB (e.at 1 _ rfl rfl) rfl)
theorem Qi1 {U:Sig} (e:Eqs U 1 Qgq):U.i 3=U.i 0/16384:=(eqI (x:=(U.i 0:Int).fdiv (2^(min (14:Int).toNat IntKind.u64.bits))) (e.at 2 _ rfl rfl) rfl).trans (by rw [show (2:Int)^(min (14:Int).toNat IntKind.u64.bits)=16384 by decide];exact Qbf (by decide))
theorem Qi2 {U:Sig} (e:Eqs U 1 Qgq):(bI (U.b 4)=1/\U.i 3>0)\/(bI (U.b 4)=0/\ ¬U.i 3>0):=Qr (eqB (e.at 3 _ rfl rfl) rfl)
theorem Qk3 {U:Sig} (e:Eqs U 1 Qgq):U.i 5=U.i 0/1073741824:=(eqI (x:=(U.i 0:Int).fdiv (2^(min (30:Int).toNat IntKind.u64.bits))) (e.at 4 _ rfl rfl) rfl).trans (by rw [show (2:Int)^(min (30:Int).toNat IntKind.u64.bits)=1073741824 by decide];exact Qbf (by decide))
theorem Qk4 {U:Sig} (e:Eqs U 1 Qgq):(bI (U.b 6)=1/\U.i 5>0)\/(bI (U.b 6)=0/\ ¬U.i 5>0):=Qr (eqB (e.at 5 _ rfl rfl) rfl)
def Q9q:Ing:={m:=1,ins:=(cellsOf u1).map Qfd,G:=Qgq,T:=Q9o}
theorem Qbon:okLT 1 Qgq Q9o=true:=by kernel_rfl
theorem Qboo:okW (fun F=>(evD Tryd.prog (cxOf Q9q) true 1000 40).1 F 45 (Qhs u1 0) ⟨[],[]⟩) Q9p []=true:=by kernel_rfl
theorem Qbom:FnOk Tryd.prog 45 u1 i1 Qdb:=
 Q09 (X:=Q9q) (W:=Q9p) mixed ⟨rfl,rfl,rfl,rfl,rfl⟩ (by kernel_rfl) Qbon (fun F=>Qbw rfl F) Qboo (fun l U hl e _ hi _=>by
  match l,hl with
  |[a0],hl=>
  have w0:IntKind.u64.wrap a0=a0:=hl.1;rw [Qg] at w0;have v0:U.i 0=a0:=hi 0 (by decide);exact ⟨⟨⟨(fun hF=>by
   have p0:=ob_rT (Qi0 e) (hF.2.2.1);have p1:=ob_rT (Qi2 e) (hF.2.1);have p2:=ob_rT (Qk4 e) (hF.1);have q1:=Qiz e;have q3:=Qi1 e;have q5:=Qk3 e;have hv:Qdb [a0]=[3]:=by
    unfold Qdb;simp only [List.getD_cons_zero]
    repeat (first|rw [if_pos (by omega)]|rw [if_neg (by omega)])
   rw [hv];exact ⟨rfl,trivial⟩),(fun hF=>by
   have p0:=ob_rT (Qi0 e) (hF.2.2.1);have p1:=ob_rT (Qi2 e) (hF.2.1);have p2:=ob_rF (Qk4 e) (hF.1);have q1:=Qiz e;have q3:=Qi1 e;have q5:=Qk3 e;have hv:Qdb [a0]=[2]:=by
    unfold Qdb;simp only [List.getD_cons_zero]
    repeat (first|rw [if_pos (by omega)]|rw [if_neg (by omega)])
   rw [hv];exact ⟨rfl,trivial⟩)⟩,⟨(fun hF=>by have p0:=ob_rT (Qi0 e) (hF.2.2.1);have p1:=ob_rF (Qi2 e) (hF.2.1);have p2:=ob_rT (Qk4 e) (hF.1);have q1:=Qiz e;have q3:=Qi1 e;have q5:=Qk3 e;omega),(fun hF=>by
   have p0:=ob_rT (Qi0 e) (hF.2.2.1);have p1:=ob_rF (Qi2 e) (hF.2.1);have p2:=ob_rF (Qk4 e) (hF.1);have q1:=Qiz e;have q3:=Qi1 e;have q5:=Qk3 e;have hv:Qdb [a0]=[1]:=by
    unfold Qdb;simp only [List.getD_cons_zero]
    repeat (first|rw [if_pos (by omega)]|rw [if_neg (by omega)])
   rw [hv];exact ⟨rfl,trivial⟩)⟩⟩,⟨(fun hF=>by have p0:=ob_rF (Qi0 e) (hF.2.1);have p1:=ob_rT (Qi2 e) (hF.1);have q1:=Qiz e;have q3:=Qi1 e;omega),⟨(fun hF=>by have p0:=ob_rF (Qi0 e) (hF.2.2.1);have p1:=ob_rF (Qi2 e) (hF.2.1);have p2:=ob_rT (Qk4 e) (hF.1);have q1:=Qiz e;have q3:=Qi1 e;have q5:=Qk3 e;omega),(fun hF=>by
   have p0:=ob_rF (Qi0 e) (hF.2.2.1);have p1:=ob_rF (Qi2 e) (hF.2.1);have p2:=ob_rF (Qk4 e) (hF.1);have q1:=Qiz e;have q3:=Qi1 e;have q5:=Qk3 e;have hv:Qdb [a0]=[0]:=by
    unfold Qdb;simp only [List.getD_cons_zero]
    repeat (first|rw [if_pos (by omega)]|rw [if_neg (by omega)])
   rw [hv];exact ⟨rfl,trivial⟩)⟩⟩⟩
 )
def Qk5:List SDef:=[.q .lss (.u 0) (.o 64),
 .q .lss (.u 0) (.o 16384),
 .q .lss (.u 0) (.o 1073741824)]
def Q9r:LT:=Go.Wbp.fT 1 Qk5 (.n (.n .e 3212648 1 .e) 819783848 2 (.n .e 1073602130 3 .e))
def Q9s:Wr':=.node 1 (.node 2 (.node 3 (.run (.leaf (.int .i64 1))) (.dead)) (.dead)) (.node 2 (.node 3 (.run (.leaf (.int .i64 2))) (.dead)) (.node 3 (.run (.leaf (.int .i64 4))) (.run (.leaf (.int .i64 8)))))
theorem Qi3 {U:Sig} (e:Eqs U 1 Qk5):(bI (U.b 1)=1/\U.i 0<64)\/(bI (U.b 1)=0/\ ¬U.i 0<64):=Qr (eqB (e.at 0 _ rfl rfl) rfl)
theorem Qi4 {U:Sig} (e:Eqs U 1 Qk5):(bI (U.b 2)=1/\U.i 0<16384)\/(bI (U.b 2)=0/\ ¬U.i 0<16384):=Qr (eqB (e.at 1 _ rfl rfl) rfl)
theorem Qk6 {U:Sig} (e:Eqs U 1 Qk5):(bI (U.b 3)=1/\U.i 0<1073741824)\/(bI (U.b 3)=0/\ ¬U.i 0<1073741824):=Qr (eqB (e.at 2 _ rfl rfl) rfl)
def Q9t:Ing:={m:=1,ins:=(cellsOf u1).map Qfd,G:=Qk5,T:=Q9r}
theorem Qboq:okLT 1 Qk5 Q9r=true:=by kernel_rfl
theorem Qbor:okW (fun F=>(evD Tryd.prog (cxOf Q9t) true 1000 40).1 F 39 (Qhs u1 0) ⟨[],[]⟩) Q9s []=true:=by kernel_rfl
theorem Qbop:FnOk Tryd.prog 39 u1 i1 Qcl:=
 Q09 (X:=Q9t) (W:=Q9s) mixed ⟨rfl,rfl,rfl,rfl,rfl⟩ (by kernel_rfl) Qboq (fun F=>Qbw rfl F) Qbor (fun l U hl e _ hi _=>by
  match l,hl with
  |[a0],hl=>
  have w0:IntKind.u64.wrap a0=a0:=hl.1;rw [Qg] at w0;have v0:U.i 0=a0:=hi 0 (by decide);exact ⟨⟨⟨(fun hF=>by
   have p0:=ob_rT (Qi3 e) (hF.2.2.1);have p1:=ob_rT (Qi4 e) (hF.2.1);have p2:=ob_rT (Qk6 e) (hF.1);have hv:Qcl [a0]=[1]:=by
    unfold Qcl;simp only [List.getD_cons_zero]
    repeat (first|rw [if_pos (by omega)]|rw [if_neg (by omega)])
   rw [hv];exact ⟨rfl,trivial⟩),(fun hF=>by have p0:=ob_rT (Qi3 e) (hF.2.2.1);have p1:=ob_rT (Qi4 e) (hF.2.1);have p2:=ob_rF (Qk6 e) (hF.1);omega)⟩,(fun hF=>by have p0:=ob_rT (Qi3 e) (hF.2.1);have p1:=ob_rF (Qi4 e) (hF.1);omega)⟩,⟨⟨(fun hF=>by
   have p0:=ob_rF (Qi3 e) (hF.2.2.1);have p1:=ob_rT (Qi4 e) (hF.2.1);have p2:=ob_rT (Qk6 e) (hF.1);have hv:Qcl [a0]=[2]:=by
    unfold Qcl;simp only [List.getD_cons_zero]
    repeat (first|rw [if_pos (by omega)]|rw [if_neg (by omega)])
   rw [hv];exact ⟨rfl,trivial⟩),(fun hF=>by have p0:=ob_rF (Qi3 e) (hF.2.2.1);have p1:=ob_rT (Qi4 e) (hF.2.1);have p2:=ob_rF (Qk6 e) (hF.1);omega)⟩,⟨(fun hF=>by
   have p0:=ob_rF (Qi3 e) (hF.2.2.1);have p1:=ob_rF (Qi4 e) (hF.2.1);have p2:=ob_rT (Qk6 e) (hF.1);have hv:Qcl [a0]=[4]:=by
    unfold Qcl;simp only [List.getD_cons_zero]
    repeat (first|rw [if_pos (by omega)]|rw [if_neg (by omega)])
   rw [hv];exact ⟨rfl,trivial⟩),(fun hF=>by
   have p0:=ob_rF (Qi3 e) (hF.2.2.1);have p1:=ob_rF (Qi4 e) (hF.2.1);have p2:=ob_rF (Qk6 e) (hF.1);have hv:Qcl [a0]=[8]:=by
    unfold Qcl;simp only [List.getD_cons_zero]
    repeat (first|rw [if_pos (by omega)]|rw [if_neg (by omega)])
   rw [hv];exact ⟨rfl,trivial⟩)⟩⟩⟩
 )
theorem Q92 {X:Ing} (hX:X.hook=Qop (Qd6 lgFs) Qbu) (ht:X.tab=Qd6 lgFs) (hT:okLT X.m X.G X.T=true) (F:List Fact) (f:FuncId) (args:List AVal) (v:AVal) (h:(cxOf X F).hook f args=some v) (hp:Hp):CallP Tryd.prog (cxOf X F) f args hp (.val v) hp:=
 Qbn1 hT hX ht (fun e he=>by
  simp only [Qbu,List.mem_cons,List.not_mem_nil,or_false] at he;rcases he with rfl|rfl
  exact ⟨by decide,Qbom⟩;exact ⟨by decide,Qbop⟩) F f args v h hp
theorem Qrz {x:Int} (h0:0<=x) (h1:x<256):IntKind.u64.wrap ((BitVec.ofInt IntKind.u64.bits 0|||BitVec.ofInt IntKind.u64.bits x).toNat:Int)=x:=by
 show IntKind.u64.wrap ((BitVec.ofInt 64 0|||BitVec.ofInt 64 x:BitVec 64).toNat:Int)=x;rw [Qg,BitVec.toNat_or,BitVec.toNat_ofInt,BitVec.toNat_ofInt];have:((0:Int)%(2^64:Nat)).toNat=0:=by decide
 rw [this,Nat.zero_or];omega
theorem Qey {x b:Int} (h0:0<=x) (h1:x<72057594037927936) (h2:0<=b) (h3:b<256):IntKind.u64.wrap ((BitVec.ofInt IntKind.u64.bits (IntKind.u64.wrap (x*2^(min (8:Int).toNat IntKind.u64.bits)))|||BitVec.ofInt IntKind.u64.bits b).toNat:Int)=x*256+b:=by
 have e8:(2:Int)^(min (8:Int).toNat IntKind.u64.bits)=256:=by decide
 rw [e8,Qg,Qg];show ((BitVec.ofInt 64 (x*256%18446744073709551616)|||BitVec.ofInt 64 b:BitVec 64).toNat:Int)%_=_;rw [BitVec.toNat_or,BitVec.toNat_ofInt,BitVec.toNat_ofInt];have e1:((x*256%18446744073709551616)%(2^64:Nat)).toNat=2^8*x.toNat:=by omega
 have e2:(b%(2^64:Nat)).toNat=b.toNat:=by omega
 rw [e1,e2,<-Nat.two_pow_add_eq_or_of_lt (by omega:b.toNat<2^8)];omega
theorem Qo2 {y c:Int} (j k:Nat) (hc:c=((2^j*k:Nat):Int)) (h0:c<=y) (h1:y<c+((2^j:Nat):Int)) (h64:2^j*k+2^j<=18446744073709551616):IntKind.u64.wrap ((BitVec.ofInt IntKind.u64.bits y&&& ~~~BitVec.ofInt IntKind.u64.bits c).toNat:Int)=y-c:=by
 show IntKind.u64.wrap ((BitVec.ofInt 64 y&&& ~~~BitVec.ofInt 64 c:BitVec 64).toNat:Int)=_;obtain ⟨r,hr⟩: ∃r:Nat,y=((2^j*k+r:Nat):Int):=⟨(y-c).toNat,by omega⟩;have hrl:r<2^j:=by omega
 have e1:BitVec.ofInt 64 y=BitVec.ofNat 64 (2^j*k+r):=by rw [hr];exact BitVec.ofInt_natCast ..
 have e2:BitVec.ofInt 64 c=BitVec.ofNat 64 (2^j*k):=by rw [hc];exact BitVec.ofInt_natCast ..
 have key:BitVec.ofNat 64 (2^j*k+r)&&& ~~~BitVec.ofNat 64 (2^j*k)=BitVec.ofNat 64 r:=by
  apply BitVec.eq_of_getLsbD_eq;intro i hi;simp only [BitVec.getLsbD_and,BitVec.getLsbD_not,BitVec.getLsbD_ofNat,hi,decide_true,Bool.true_and];rw [Nat.testBit_two_pow_mul_add _ hrl,Nat.testBit_two_pow_mul];by_cases hij:i<j;simp [hij,Nat.not_le.2 hij];have:r.testBit i=false:=Nat.testBit_lt_two_pow (Nat.lt_of_lt_of_le hrl (Nat.pow_le_pow_right (by decide) (by omega)));simp [hij,Nat.not_lt.1 hij,this]
 rw [e1,e2,key,BitVec.toNat_ofNat,Qg];have:r%2^64=r:=Nat.mod_eq_of_lt (by omega);rw [this];omega
def Ql:List SDef:=[.sop .len [.s 0],
 .q .leq (.z 0) (.i 1),
 .q .leq (.i 1) (.i 2),
 .q .leq (.i 2) (.z 1000000),
 .q .lss (.i 1) (.i 2),
 .sop .at [.s 0,.i 1],
 .q .shr (.c 7) (.o 6),
 .conv .i64 (.c 8),
 .q .sub (.i 2) (.i 1),
 .q .eql (.i 10) (.z 0),
 .q .lss (.i 10) (.z 1),
 .q .add (.i 1) (.z 1),
 .q .leq (.i 1) (.i 13),
 .q .leq (.i 13) (.i 2),
 .sop .sub [.s 0,.i 1,.i 13],
 .sop .at [.s 16,.z 0],
 .conv .u64 (.c 17),
 .q .or (.o 0) (.u 18),
 .q .andNot (.u 19) (.o 0),
 .fn 0 .i64 [.u 20],
 .q .neq (.i 21) (.z 0),
 .q .lss (.i 10) (.z 2),
 .q .add (.i 1) (.z 2),
 .q .leq (.i 1) (.i 24),
 .q .leq (.i 24) (.i 2),
 .sop .sub [.s 0,.i 1,.i 24],
 .sop .at [.s 27,.z 0],
 .sop .at [.s 27,.z 1],
 .conv .u64 (.c 28),
 .q .or (.o 0) (.u 30),
 .q .shl (.u 31) (.o 8),
 .conv .u64 (.c 29),
 .q .or (.u 32) (.u 33),
 .q .andNot (.u 34) (.o 16384),
 .fn 0 .i64 [.u 35],
 .q .neq (.i 36) (.z 1),
 .q .lss (.i 10) (.z 4),
 .q .add (.i 1) (.z 4),
 .q .leq (.i 1) (.i 39),
 .q .leq (.i 39) (.i 2),
 .sop .sub [.s 0,.i 1,.i 39],
 .sop .at [.s 42,.z 0],
 .sop .at [.s 42,.z 1],
 .sop .at [.s 42,.z 2],
 .sop .at [.s 42,.z 3],
 .conv .u64 (.c 43),
 .q .or (.o 0) (.u 47),
 .q .shl (.u 48) (.o 8),
 .conv .u64 (.c 44),
 .q .or (.u 49) (.u 50),
 .q .shl (.u 51) (.o 8),
 .conv .u64 (.c 45),
 .q .or (.u 52) (.u 53),
 .q .shl (.u 54) (.o 8),
 .conv .u64 (.c 46),
 .q .or (.u 55) (.u 56),
 .q .andNot (.u 57) (.o 2147483648),
 .fn 0 .i64 [.u 58],
 .q .neq (.i 59) (.z 2),
 .q .lss (.i 10) (.z 8),
 .q .add (.i 1) (.z 8),
 .q .leq (.i 1) (.i 62),
 .q .leq (.i 62) (.i 2),
 .sop .sub [.s 0,.i 1,.i 62],
 .sop .at [.s 65,.z 0],
 .sop .at [.s 65,.z 1],
 .sop .at [.s 65,.z 2],
 .sop .at [.s 65,.z 3],
 .sop .at [.s 65,.z 4],
 .sop .at [.s 65,.z 5],
 .sop .at [.s 65,.z 6],
 .sop .at [.s 65,.z 7],
 .conv .u64 (.c 66),
 .q .or (.o 0) (.u 74),
 .q .shl (.u 75) (.o 8),
 .conv .u64 (.c 67),
 .q .or (.u 76) (.u 77),
 .q .shl (.u 78) (.o 8),
 .conv .u64 (.c 68),
 .q .or (.u 79) (.u 80),
 .q .shl (.u 81) (.o 8),
 .conv .u64 (.c 69),
 .q .or (.u 82) (.u 83),
 .q .shl (.u 84) (.o 8),
 .conv .u64 (.c 70),
 .q .or (.u 85) (.u 86),
 .q .shl (.u 87) (.o 8),
 .conv .u64 (.c 71),
 .q .or (.u 88) (.u 89),
 .q .shl (.u 90) (.o 8),
 .conv .u64 (.c 72),
 .q .or (.u 91) (.u 92),
 .q .shl (.u 93) (.o 8),
 .conv .u64 (.c 73),
 .q .or (.u 94) (.u 95),
 .q .andNot (.u 96) (.o 13835058055282163712),
 .fn 0 .i64 [.u 97],
 .q .neq (.i 98) (.z 3)]
def Q9w:LT:=Go.Wbp.fT 2 Ql (.n (.n (.n (.n (.n (.n (.n .e 7086 2 .e) 1402011 27 (.n .e 2830100 95 .e)) 13860259 81 (.n (.n .e 31520932 48 .e) 37766812 97 .e)) 59240589 76 (.n (.n (.n .e 81834506 59 .e) 85717880 55 .e) 86785385 57 (.n (.n .e 101060655 13 .e) 101110690 24 .e))) 101210760 39 (.n (.n (.n (.n .e 101410900 62 .e) 118150939 66 .e) 118176824 67 (.n (.n .e 118202709 68 .e) 118228594 69 .e)) 118254479 70 (.n (.n (.n .e 118280364 71 .e) 118306249 72 .e) 118332134 73 (.n (.n .e 134046311 47 .e) 197502398 88 .e)))) 214367099 28 (.n (.n (.n (.n (.n .e 214392984 29 .e) 234513757 99 (.n .e 236717512 96 .e)) 237046620 50 (.n (.n .e 269659938 14 .e) 273180075 84 .e)) 290050948 36 (.n (.n (.n .e 330782094 41 .e) 340046929 53 .e) 343383805 3 (.n (.n .e 355569764 74 .e) 362241498 79 .e))) 388018313 58 (.n (.n (.n (.n .e 414845863 37 .e) 443047238 56 .e) 458570073 77 (.n (.n .e 472528707 21 .e) 500503307 91 .e)) 506305409 64 (.n (.n (.n .e 524782784 17 .e) 532499891 87 .e) 545384522 10 (.n (.n .e 553457889 49 .e) 561570382 80 .e))))) 571976130 43 (.n (.n (.n (.n (.n (.n .e 572002015 44 .e) 572027900 45 (.n .e 572053785 46 .e)) 590419213 60 (.n (.n .e 604064392 34 .e) 606918350 40 .e)) 636961068 31 (.n (.n (.n .e 641887580 51 .e) 664570691 83 .e) 665242407 82 (.n (.n .e 677263758 18 .e) 707312711 8 .e))) 712132922 75 (.n (.n (.n (.n .e 736525330 30 .e) 745861996 65 .e) 767571000 86 (.n (.n .e 787737881 6 .e) 787737888 4 .e)) 791819707 90 (.n (.n (.n .e 803504216 94 .e) 811685440 19 .e) 824002804 9 (.n (.n .e 825323815 25 .e) 828282270 78 .e)))) 839525639 33 (.n (.n (.n (.n (.n .e 844886979 5 .e) 845274317 20 .e) 856458798 52 (.n (.n .e 870571309 89 .e) 882226151 7 .e)) 895882525 98 (.n (.n (.n .e 901207396 54 .e) 925999697 15 .e) 944411355 16 (.n (.n .e 963261203 26 .e) 968243316 85 .e))) 973571618 92 (.n (.n (.n (.n .e 983936392 32 .e) 987857855 63 .e) 1010013424 11 (.n (.n .e 1010063473 12 .e) 1010113508 23 .e)) 1010213578 38 (.n (.n (.n .e 1010413718 61 .e) 1032568648 35 .e) 1047274937 22 (.n (.n .e 1051139523 93 .e) 1058189619 42 .e))))))
def Qbow:Sw:=.x 3 (.x 4 (.x 5 (.n 6 (.pick 9 0 (.run (.node 11 (.dead) (.node 12 (.dead) (.node 14 (.node 15 (.node 22 (.dead) (.leaf .ret Qen [(0,0)] [(3,.u 20),(4,.z 1),(5,.z 0),(0,.s 0),(1,.i 1)] [])) (.dead)) (.dead))))) (.pick 9 1 (.run (.node 11 (.dead) (.node 23 (.leaf .ret Qen [(0,0)] [(3,.o 0),(4,.z 0),(5,.z 3),(0,.s 0),(1,.i 1)] []) (.node 25 (.node 26 (.node 37 (.leaf .ret Qen [(0,0)] [(3,.o 0),(4,.z 0),(5,.z 5),(0,.s 0),(1,.i 1)] []) (.leaf .ret Qen [(0,0)] [(3,.u 35),(4,.z 2),(5,.z 0),(0,.s 0),(1,.i 1)] [])) (.dead)) (.dead))))) (.pick 9 2 (.run (.node 11 (.dead) (.node 38 (.leaf .ret Qen [(0,0)] [(3,.o 0),(4,.z 0),(5,.z 3),(0,.s 0),(1,.i 1)] []) (.node 40 (.node 41 (.node 60 (.leaf .ret Qen [(0,0)] [(3,.o 0),(4,.z 0),(5,.z 5),(0,.s 0),(1,.i 1)] []) (.leaf .ret Qen [(0,0)] [(3,.u 58),(4,.z 4),(5,.z 0),(0,.s 0),(1,.i 1)] [])) (.dead)) (.dead))))) (.pick 9 3 (.run (.node 11 (.dead) (.node 61 (.leaf .ret Qen [(0,0)] [(3,.o 0),(4,.z 0),(5,.z 3),(0,.s 0),(1,.i 1)] []) (.node 63 (.node 64 (.node 99 (.leaf .ret Qen [(0,0)] [(3,.o 0),(4,.z 0),(5,.z 5),(0,.s 0),(1,.i 1)] []) (.leaf .ret Qen [(0,0)] [(3,.u 97),(4,.z 8),(5,.z 0),(0,.s 0),(1,.i 1)] [])) (.dead)) (.dead))))) (.dead))))) (.run (.node 11 (.leaf .ret Qen [(0,0)] [(3,.o 0),(4,.z 0),(5,.z 3),(0,.s 0),(1,.i 1)] []) (.dead))))))
def Qbov:KdT:=kdN 0x122222222222222222222222233333333000100122222222222233330001001222222330001001222300010011030000010 7 1 0
noncomputable def Qos:Ing:={m:=2,ins:=wnK,G:=Ql,T:=Q9w,hook:=Qop (Qd6 lgFs) Qbu,tab:=Qd6 lgFs,kb:=100,kt:=Qbov}
theorem Q9x:okLT 2 Ql Q9w=true:=by kernel_rfl
theorem Qbox:SegOk Tryd.prog Qa 69 (Qe (Qc Tryd.f76)) Qboz Qos Qbow:=
  ⟨Q9x,by kernel_rfl,fun F=>⟨fun f args v h hp=>Q92 rfl rfl Q9x F f args v h hp,fun f args hp v hp' h=>by simp only [Qos,cxOf,noMh,reduceCtorEq] at h,fun f k h=>by simp only [Qos,cxOf,reduceCtorEq] at h,fun k b h=>by simp only [Qos,cxOf,List.not_mem_nil] at h,fun f args hp v hp' h=>by simp only [Qos,cxOf,noMh,reduceCtorEq] at h⟩,rfl,by kernel_rfl,by kernel_rfl,rfl,rfl,fun _=>trivial,by kernel_rfl⟩
structure Pl (U:Sig):Prop where
 lo:0<=U.i 1
 hi:U.i 1<=((U.s 0).size:Nat)
 sz:((U.s 0).size:Int)<=1000000
theorem Qot {U:Sig} (e:Eqs U 2 Ql) (h:Pl U):U.i 2=((U.s 0).size:Nat)/\0<=U.i 1/\U.i 1<=U.i 2/\U.i 2<=1000000/\U.i 7=bAt (U.s 0) (U.i 1)/\0<=bAt (U.s 0) (U.i 1)/\bAt (U.s 0) (U.i 1)<256:=by
 have h2:U.i 2=_:=Qet (e.at 0 _ rfl rfl);have h7:U.i 7=_:=eqAt (e.at 5 _ rfl rfl) (show den U (.symi .i64 1)=.int .i64 (U.i 1) from rfl);have:=Qd (U.s 0) (U.i 1);have:=h.lo;have:=h.hi;have:=h.sz;rw [<-h2] at*;exact ⟨rfl,by omega,by omega,by omega,h7,by omega,by omega⟩
theorem xo3 {U:Sig} (e:Eqs U 2 Ql):(bI (U.b 3)=1/\(0:Int)<=U.i 1)\/(bI (U.b 3)=0/\ ¬(0:Int)<=U.i 1):=Qr (eqB (e.at 1 _ rfl rfl) rfl)
theorem xo4 {U:Sig} (e:Eqs U 2 Ql):(bI (U.b 4)=1/\U.i 1<=U.i 2)\/(bI (U.b 4)=0/\ ¬U.i 1<=U.i 2):=Qr (eqB (e.at 2 _ rfl rfl) rfl)
theorem xo5 {U:Sig} (e:Eqs U 2 Ql):(bI (U.b 5)=1/\U.i 2<=1000000)\/(bI (U.b 5)=0/\ ¬U.i 2<=1000000):=Qr (eqB (e.at 3 _ rfl rfl) rfl)
theorem xo6 {U:Sig} (e:Eqs U 2 Ql):(bI (U.b 6)=1/\U.i 1<U.i 2)\/(bI (U.b 6)=0/\ ¬U.i 1<U.i 2):=Qr (eqB (e.at 4 _ rfl rfl) rfl)
theorem xo8 {U:Sig} (e:Eqs U 2 Ql):U.i 8=U.i 7/64:=(eqI (x:=(U.i 7:Int).fdiv (2^(min (6:Int).toNat IntKind.u8.bits))) (e.at 6 _ rfl rfl) rfl).trans (by rw [show (2:Int)^(min (6:Int).toNat IntKind.u8.bits)=64 by decide];exact Qbf (by decide))
theorem xo9 {U:Sig} (e:Eqs U 2 Ql):U.i 9=(U.i 8+9223372036854775808)%18446744073709551616-9223372036854775808:=(eqI (e.at 7 _ rfl rfl) rfl).trans (Qh _)
theorem xo10 {U:Sig} (e:Eqs U 2 Ql):U.i 10=(U.i 2-U.i 1+9223372036854775808)%18446744073709551616-9223372036854775808:=(eqI (e.at 8 _ rfl rfl) rfl).trans (Qh _)
theorem xo11 {U:Sig} (e:Eqs U 2 Ql):(bI (U.b 11)=1/\U.i 10=0)\/(bI (U.b 11)=0/\ ¬U.i 10=0):=ob_eq (eqB (e.at 9 _ rfl rfl) rfl)
theorem xo12 {U:Sig} (e:Eqs U 2 Ql):(bI (U.b 12)=1/\U.i 10<1)\/(bI (U.b 12)=0/\ ¬U.i 10<1):=Qr (eqB (e.at 10 _ rfl rfl) rfl)
theorem xo13 {U:Sig} (e:Eqs U 2 Ql):U.i 13=(U.i 1+1+9223372036854775808)%18446744073709551616-9223372036854775808:=(eqI (e.at 11 _ rfl rfl) rfl).trans (Qh _)
theorem xo14 {U:Sig} (e:Eqs U 2 Ql):(bI (U.b 14)=1/\U.i 1<=U.i 13)\/(bI (U.b 14)=0/\ ¬U.i 1<=U.i 13):=Qr (eqB (e.at 12 _ rfl rfl) rfl)
theorem xo15 {U:Sig} (e:Eqs U 2 Ql):(bI (U.b 15)=1/\U.i 13<=U.i 2)\/(bI (U.b 15)=0/\ ¬U.i 13<=U.i 2):=Qr (eqB (e.at 13 _ rfl rfl) rfl)
theorem xo18 {U:Sig} (e:Eqs U 2 Ql):U.i 18=(U.i 17)%18446744073709551616:=(eqI (e.at 16 _ rfl rfl) rfl).trans (Qg _)
theorem xo22 {U:Sig} (e:Eqs U 2 Ql):(bI (U.b 22)=1/\ ¬U.i 21=0)\/(bI (U.b 22)=0/\U.i 21=0):=ob_ne (eqB (e.at 20 _ rfl rfl) rfl)
theorem xo23 {U:Sig} (e:Eqs U 2 Ql):(bI (U.b 23)=1/\U.i 10<2)\/(bI (U.b 23)=0/\ ¬U.i 10<2):=Qr (eqB (e.at 21 _ rfl rfl) rfl)
theorem xo24 {U:Sig} (e:Eqs U 2 Ql):U.i 24=(U.i 1+2+9223372036854775808)%18446744073709551616-9223372036854775808:=(eqI (e.at 22 _ rfl rfl) rfl).trans (Qh _)
theorem xo25 {U:Sig} (e:Eqs U 2 Ql):(bI (U.b 25)=1/\U.i 1<=U.i 24)\/(bI (U.b 25)=0/\ ¬U.i 1<=U.i 24):=Qr (eqB (e.at 23 _ rfl rfl) rfl)
theorem xo26 {U:Sig} (e:Eqs U 2 Ql):(bI (U.b 26)=1/\U.i 24<=U.i 2)\/(bI (U.b 26)=0/\ ¬U.i 24<=U.i 2):=Qr (eqB (e.at 24 _ rfl rfl) rfl)
theorem xo30 {U:Sig} (e:Eqs U 2 Ql):U.i 30=(U.i 28)%18446744073709551616:=(eqI (e.at 28 _ rfl rfl) rfl).trans (Qg _)
theorem xo33 {U:Sig} (e:Eqs U 2 Ql):U.i 33=(U.i 29)%18446744073709551616:=(eqI (e.at 31 _ rfl rfl) rfl).trans (Qg _)
theorem xo37 {U:Sig} (e:Eqs U 2 Ql):(bI (U.b 37)=1/\ ¬U.i 36=1)\/(bI (U.b 37)=0/\U.i 36=1):=ob_ne (eqB (e.at 35 _ rfl rfl) rfl)
theorem xo38 {U:Sig} (e:Eqs U 2 Ql):(bI (U.b 38)=1/\U.i 10<4)\/(bI (U.b 38)=0/\ ¬U.i 10<4):=Qr (eqB (e.at 36 _ rfl rfl) rfl)
theorem xo39 {U:Sig} (e:Eqs U 2 Ql):U.i 39=(U.i 1+4+9223372036854775808)%18446744073709551616-9223372036854775808:=(eqI (e.at 37 _ rfl rfl) rfl).trans (Qh _)
theorem xo40 {U:Sig} (e:Eqs U 2 Ql):(bI (U.b 40)=1/\U.i 1<=U.i 39)\/(bI (U.b 40)=0/\ ¬U.i 1<=U.i 39):=Qr (eqB (e.at 38 _ rfl rfl) rfl)
theorem xo41 {U:Sig} (e:Eqs U 2 Ql):(bI (U.b 41)=1/\U.i 39<=U.i 2)\/(bI (U.b 41)=0/\ ¬U.i 39<=U.i 2):=Qr (eqB (e.at 39 _ rfl rfl) rfl)
theorem xo47 {U:Sig} (e:Eqs U 2 Ql):U.i 47=(U.i 43)%18446744073709551616:=(eqI (e.at 45 _ rfl rfl) rfl).trans (Qg _)
theorem xo50 {U:Sig} (e:Eqs U 2 Ql):U.i 50=(U.i 44)%18446744073709551616:=(eqI (e.at 48 _ rfl rfl) rfl).trans (Qg _)
theorem xo53 {U:Sig} (e:Eqs U 2 Ql):U.i 53=(U.i 45)%18446744073709551616:=(eqI (e.at 51 _ rfl rfl) rfl).trans (Qg _)
theorem xo56 {U:Sig} (e:Eqs U 2 Ql):U.i 56=(U.i 46)%18446744073709551616:=(eqI (e.at 54 _ rfl rfl) rfl).trans (Qg _)
theorem xo60 {U:Sig} (e:Eqs U 2 Ql):(bI (U.b 60)=1/\ ¬U.i 59=2)\/(bI (U.b 60)=0/\U.i 59=2):=ob_ne (eqB (e.at 58 _ rfl rfl) rfl)
theorem xo61 {U:Sig} (e:Eqs U 2 Ql):(bI (U.b 61)=1/\U.i 10<8)\/(bI (U.b 61)=0/\ ¬U.i 10<8):=Qr (eqB (e.at 59 _ rfl rfl) rfl)
theorem xo62 {U:Sig} (e:Eqs U 2 Ql):U.i 62=(U.i 1+8+9223372036854775808)%18446744073709551616-9223372036854775808:=(eqI (e.at 60 _ rfl rfl) rfl).trans (Qh _)
theorem xo63 {U:Sig} (e:Eqs U 2 Ql):(bI (U.b 63)=1/\U.i 1<=U.i 62)\/(bI (U.b 63)=0/\ ¬U.i 1<=U.i 62):=Qr (eqB (e.at 61 _ rfl rfl) rfl)
theorem xo64 {U:Sig} (e:Eqs U 2 Ql):(bI (U.b 64)=1/\U.i 62<=U.i 2)\/(bI (U.b 64)=0/\ ¬U.i 62<=U.i 2):=Qr (eqB (e.at 62 _ rfl rfl) rfl)
theorem xo74 {U:Sig} (e:Eqs U 2 Ql):U.i 74=(U.i 66)%18446744073709551616:=(eqI (e.at 72 _ rfl rfl) rfl).trans (Qg _)
theorem xo77 {U:Sig} (e:Eqs U 2 Ql):U.i 77=(U.i 67)%18446744073709551616:=(eqI (e.at 75 _ rfl rfl) rfl).trans (Qg _)
theorem xo80 {U:Sig} (e:Eqs U 2 Ql):U.i 80=(U.i 68)%18446744073709551616:=(eqI (e.at 78 _ rfl rfl) rfl).trans (Qg _)
theorem xo83 {U:Sig} (e:Eqs U 2 Ql):U.i 83=(U.i 69)%18446744073709551616:=(eqI (e.at 81 _ rfl rfl) rfl).trans (Qg _)
theorem xo86 {U:Sig} (e:Eqs U 2 Ql):U.i 86=(U.i 70)%18446744073709551616:=(eqI (e.at 84 _ rfl rfl) rfl).trans (Qg _)
theorem xo89 {U:Sig} (e:Eqs U 2 Ql):U.i 89=(U.i 71)%18446744073709551616:=(eqI (e.at 87 _ rfl rfl) rfl).trans (Qg _)
theorem xo92 {U:Sig} (e:Eqs U 2 Ql):U.i 92=(U.i 72)%18446744073709551616:=(eqI (e.at 90 _ rfl rfl) rfl).trans (Qg _)
theorem xo95 {U:Sig} (e:Eqs U 2 Ql):U.i 95=(U.i 73)%18446744073709551616:=(eqI (e.at 93 _ rfl rfl) rfl).trans (Qg _)
theorem xo99 {U:Sig} (e:Eqs U 2 Ql):(bI (U.b 99)=1/\ ¬U.i 98=3)\/(bI (U.b 99)=0/\U.i 98=3):=ob_ne (eqB (e.at 97 _ rfl rfl) rfl)
theorem Q9y {U:Sig} (e:Eqs U 2 Ql) (hp:Pl U) (hk:0<=bAt (U.s 0) (U.i 1)/\bAt (U.s 0) (U.i 1)<64) (hm:U.i 1+1<=((U.s 0).size:Nat)):U.i 20=bAt (U.s 0) (U.i 1):=by
 have b:=Qot e hp;have hh:U.i 13=U.i 1+1:=by have:=xo13 e;omega
 have hs:U.s 16=(U.s 0).extract (U.i 1).toNat (U.i 1+1).toNat:=by
  have:U.s 16=(U.s 0).extract (U.i 1).toNat (U.i 13).toNat:=Qpw (e.at 14 _ rfl rfl) (show den U (.symi .i64 1)=.int .i64 (U.i 1) from rfl) (show den U (.symi .i64 13)=.int .i64 (U.i 13) from rfl);rw [hh] at this;exact this
 have a0:U.i 17=bAt (U.s 0) (U.i 1+0):=by
  have:U.i 17=bAt (U.s 16) 0:=eqAt (e.at 15 _ rfl rfl) (show den U (.int .i64 0)=.int .i64 0 from rfl);rw [hs,Qb7 (by omega) (by omega) (by omega) (by omega) (by omega)] at this;exact this
 have c0:U.i 18=bAt (U.s 0) (U.i 1+0):=by have:=xo18 e;have:=Qd (U.s 0) (U.i 1+0);omega
 have d0:=Qd (U.s 0) (U.i 1+0);have y0:U.i 19=bAt (U.s 0) (U.i 1+0):=by
  have:U.i 19=IntKind.u64.wrap (BitVec.ofInt IntKind.u64.bits (0)|||BitVec.ofInt IntKind.u64.bits (U.i 18)).toNat:=eqI (e.at 17 _ rfl rfl) rfl;rw [c0,Qrz d0.1 d0.2] at this;exact this
 have z:U.i 20=IntKind.u64.wrap (BitVec.ofInt IntKind.u64.bits (U.i 19)&&& ~~~BitVec.ofInt IntKind.u64.bits (0)).toNat:=eqI (e.at 18 _ rfl rfl) rfl;rw [y0] at z;simp only [Int.add_zero] at*;rw [Qo2 6 0 (by decide) (by omega) (by omega) (by decide)] at z;rw [z];omega
theorem Q9z {U:Sig} (e:Eqs U 2 Ql) (hp:Pl U) (hk:64<=bAt (U.s 0) (U.i 1)/\bAt (U.s 0) (U.i 1)<128) (hm:U.i 1+2<=((U.s 0).size:Nat)):U.i 35=((bAt (U.s 0) (U.i 1)-64)*256+bAt (U.s 0) (U.i 1+1)):=by
 have b:=Qot e hp;have hh:U.i 24=U.i 1+2:=by have:=xo24 e;omega
 have hs:U.s 27=(U.s 0).extract (U.i 1).toNat (U.i 1+2).toNat:=by
  have:U.s 27=(U.s 0).extract (U.i 1).toNat (U.i 24).toNat:=Qpw (e.at 25 _ rfl rfl) (show den U (.symi .i64 1)=.int .i64 (U.i 1) from rfl) (show den U (.symi .i64 24)=.int .i64 (U.i 24) from rfl);rw [hh] at this;exact this
 have a0:U.i 28=bAt (U.s 0) (U.i 1+0):=by
  have:U.i 28=bAt (U.s 27) 0:=eqAt (e.at 26 _ rfl rfl) (show den U (.int .i64 0)=.int .i64 0 from rfl);rw [hs,Qb7 (by omega) (by omega) (by omega) (by omega) (by omega)] at this;exact this
 have c0:U.i 30=bAt (U.s 0) (U.i 1+0):=by have:=xo30 e;have:=Qd (U.s 0) (U.i 1+0);omega
 have d0:=Qd (U.s 0) (U.i 1+0);have y0:U.i 31=bAt (U.s 0) (U.i 1+0):=by
  have:U.i 31=IntKind.u64.wrap (BitVec.ofInt IntKind.u64.bits (0)|||BitVec.ofInt IntKind.u64.bits (U.i 30)).toNat:=eqI (e.at 29 _ rfl rfl) rfl;rw [c0,Qrz d0.1 d0.2] at this;exact this
 have a1:U.i 29=bAt (U.s 0) (U.i 1+1):=by
  have:U.i 29=bAt (U.s 27) 1:=eqAt (e.at 27 _ rfl rfl) (show den U (.int .i64 1)=.int .i64 1 from rfl);rw [hs,Qb7 (by omega) (by omega) (by omega) (by omega) (by omega)] at this;exact this
 have c1:U.i 33=bAt (U.s 0) (U.i 1+1):=by have:=xo33 e;have:=Qd (U.s 0) (U.i 1+1);omega
 have d1:=Qd (U.s 0) (U.i 1+1);have y1:U.i 34=(bAt (U.s 0) (U.i 1+0))*256+bAt (U.s 0) (U.i 1+1):=by
  have h1:U.i 32=IntKind.u64.wrap (U.i 31*2^(min (8:Int).toNat IntKind.u64.bits)):=eqI (e.at 30 _ rfl rfl) rfl;have h2:U.i 34=IntKind.u64.wrap (BitVec.ofInt IntKind.u64.bits (U.i 32)|||BitVec.ofInt IntKind.u64.bits (U.i 33)).toNat:=eqI (e.at 32 _ rfl rfl) rfl;rw [h1,c1,y0,Qey (by omega) (by omega) d1.1 d1.2] at h2;exact h2
 have z:U.i 35=IntKind.u64.wrap (BitVec.ofInt IntKind.u64.bits (U.i 34)&&& ~~~BitVec.ofInt IntKind.u64.bits (16384)).toNat:=eqI (e.at 33 _ rfl rfl) rfl;rw [y1] at z;simp only [Int.add_zero] at*;rw [Qo2 14 1 (by decide) (by omega) (by omega) (by decide)] at z;rw [z];omega
theorem Q90 {U:Sig} (e:Eqs U 2 Ql) (hp:Pl U) (hk:128<=bAt (U.s 0) (U.i 1)/\bAt (U.s 0) (U.i 1)<192) (hm:U.i 1+4<=((U.s 0).size:Nat)):U.i 58=((((bAt (U.s 0) (U.i 1)-128)*256+bAt (U.s 0) (U.i 1+1))*256+bAt (U.s 0) (U.i 1+2))*256+bAt (U.s 0) (U.i 1+3)):=by
 have b:=Qot e hp;have hh:U.i 39=U.i 1+4:=by have:=xo39 e;omega
 have hs:U.s 42=(U.s 0).extract (U.i 1).toNat (U.i 1+4).toNat:=by
  have:U.s 42=(U.s 0).extract (U.i 1).toNat (U.i 39).toNat:=Qpw (e.at 40 _ rfl rfl) (show den U (.symi .i64 1)=.int .i64 (U.i 1) from rfl) (show den U (.symi .i64 39)=.int .i64 (U.i 39) from rfl);rw [hh] at this;exact this
 have a0:U.i 43=bAt (U.s 0) (U.i 1+0):=by
  have:U.i 43=bAt (U.s 42) 0:=eqAt (e.at 41 _ rfl rfl) (show den U (.int .i64 0)=.int .i64 0 from rfl);rw [hs,Qb7 (by omega) (by omega) (by omega) (by omega) (by omega)] at this;exact this
 have c0:U.i 47=bAt (U.s 0) (U.i 1+0):=by have:=xo47 e;have:=Qd (U.s 0) (U.i 1+0);omega
 have d0:=Qd (U.s 0) (U.i 1+0);have y0:U.i 48=bAt (U.s 0) (U.i 1+0):=by
  have:U.i 48=IntKind.u64.wrap (BitVec.ofInt IntKind.u64.bits (0)|||BitVec.ofInt IntKind.u64.bits (U.i 47)).toNat:=eqI (e.at 46 _ rfl rfl) rfl;rw [c0,Qrz d0.1 d0.2] at this;exact this
 have a1:U.i 44=bAt (U.s 0) (U.i 1+1):=by
  have:U.i 44=bAt (U.s 42) 1:=eqAt (e.at 42 _ rfl rfl) (show den U (.int .i64 1)=.int .i64 1 from rfl);rw [hs,Qb7 (by omega) (by omega) (by omega) (by omega) (by omega)] at this;exact this
 have c1:U.i 50=bAt (U.s 0) (U.i 1+1):=by have:=xo50 e;have:=Qd (U.s 0) (U.i 1+1);omega
 have d1:=Qd (U.s 0) (U.i 1+1);have y1:U.i 51=(bAt (U.s 0) (U.i 1+0))*256+bAt (U.s 0) (U.i 1+1):=by
  have h1:U.i 49=IntKind.u64.wrap (U.i 48*2^(min (8:Int).toNat IntKind.u64.bits)):=eqI (e.at 47 _ rfl rfl) rfl;have h2:U.i 51=IntKind.u64.wrap (BitVec.ofInt IntKind.u64.bits (U.i 49)|||BitVec.ofInt IntKind.u64.bits (U.i 50)).toNat:=eqI (e.at 49 _ rfl rfl) rfl;rw [h1,c1,y0,Qey (by omega) (by omega) d1.1 d1.2] at h2;exact h2
 have a2:U.i 45=bAt (U.s 0) (U.i 1+2):=by
  have:U.i 45=bAt (U.s 42) 2:=eqAt (e.at 43 _ rfl rfl) (show den U (.int .i64 2)=.int .i64 2 from rfl);rw [hs,Qb7 (by omega) (by omega) (by omega) (by omega) (by omega)] at this;exact this
 have c2:U.i 53=bAt (U.s 0) (U.i 1+2):=by have:=xo53 e;have:=Qd (U.s 0) (U.i 1+2);omega
 have d2:=Qd (U.s 0) (U.i 1+2);have y2:U.i 54=((bAt (U.s 0) (U.i 1+0))*256+bAt (U.s 0) (U.i 1+1))*256+bAt (U.s 0) (U.i 1+2):=by
  have h1:U.i 52=IntKind.u64.wrap (U.i 51*2^(min (8:Int).toNat IntKind.u64.bits)):=eqI (e.at 50 _ rfl rfl) rfl;have h2:U.i 54=IntKind.u64.wrap (BitVec.ofInt IntKind.u64.bits (U.i 52)|||BitVec.ofInt IntKind.u64.bits (U.i 53)).toNat:=eqI (e.at 52 _ rfl rfl) rfl;rw [h1,c2,y1,Qey (by omega) (by omega) d2.1 d2.2] at h2;exact h2
 have a3:U.i 46=bAt (U.s 0) (U.i 1+3):=by
  have:U.i 46=bAt (U.s 42) 3:=eqAt (e.at 44 _ rfl rfl) (show den U (.int .i64 3)=.int .i64 3 from rfl);rw [hs,Qb7 (by omega) (by omega) (by omega) (by omega) (by omega)] at this;exact this
 have c3:U.i 56=bAt (U.s 0) (U.i 1+3):=by have:=xo56 e;have:=Qd (U.s 0) (U.i 1+3);omega
 have d3:=Qd (U.s 0) (U.i 1+3);have y3:U.i 57=(((bAt (U.s 0) (U.i 1+0))*256+bAt (U.s 0) (U.i 1+1))*256+bAt (U.s 0) (U.i 1+2))*256+bAt (U.s 0) (U.i 1+3):=by
  have h1:U.i 55=IntKind.u64.wrap (U.i 54*2^(min (8:Int).toNat IntKind.u64.bits)):=eqI (e.at 53 _ rfl rfl) rfl;have h2:U.i 57=IntKind.u64.wrap (BitVec.ofInt IntKind.u64.bits (U.i 55)|||BitVec.ofInt IntKind.u64.bits (U.i 56)).toNat:=eqI (e.at 55 _ rfl rfl) rfl;rw [h1,c3,y2,Qey (by omega) (by omega) d3.1 d3.2] at h2;exact h2
 have z:U.i 58=IntKind.u64.wrap (BitVec.ofInt IntKind.u64.bits (U.i 57)&&& ~~~BitVec.ofInt IntKind.u64.bits (2147483648)).toNat:=eqI (e.at 56 _ rfl rfl) rfl;rw [y3] at z;simp only [Int.add_zero] at*;rw [Qo2 30 2 (by decide) (by omega) (by omega) (by decide)] at z;rw [z];omega
theorem Q91 {U:Sig} (e:Eqs U 2 Ql) (hp:Pl U) (hk:192<=bAt (U.s 0) (U.i 1)/\bAt (U.s 0) (U.i 1)<256) (hm:U.i 1+8<=((U.s 0).size:Nat)):U.i 97=((((((((bAt (U.s 0) (U.i 1)-192)*256+bAt (U.s 0) (U.i 1+1))*256+bAt (U.s 0) (U.i 1+2))*256+bAt (U.s 0) (U.i 1+3))*256+bAt (U.s 0) (U.i 1+4))*256+bAt (U.s 0) (U.i 1+5))*256+bAt (U.s 0) (U.i 1+6))*256+bAt (U.s 0) (U.i 1+7)):=by
 have b:=Qot e hp;have hh:U.i 62=U.i 1+8:=by have:=xo62 e;omega
 have hs:U.s 65=(U.s 0).extract (U.i 1).toNat (U.i 1+8).toNat:=by
  have:U.s 65=(U.s 0).extract (U.i 1).toNat (U.i 62).toNat:=Qpw (e.at 63 _ rfl rfl) (show den U (.symi .i64 1)=.int .i64 (U.i 1) from rfl) (show den U (.symi .i64 62)=.int .i64 (U.i 62) from rfl);rw [hh] at this;exact this
 have a0:U.i 66=bAt (U.s 0) (U.i 1+0):=by
  have:U.i 66=bAt (U.s 65) 0:=eqAt (e.at 64 _ rfl rfl) (show den U (.int .i64 0)=.int .i64 0 from rfl);rw [hs,Qb7 (by omega) (by omega) (by omega) (by omega) (by omega)] at this;exact this
 have c0:U.i 74=bAt (U.s 0) (U.i 1+0):=by have:=xo74 e;have:=Qd (U.s 0) (U.i 1+0);omega
 have d0:=Qd (U.s 0) (U.i 1+0);have y0:U.i 75=bAt (U.s 0) (U.i 1+0):=by
  have:U.i 75=IntKind.u64.wrap (BitVec.ofInt IntKind.u64.bits (0)|||BitVec.ofInt IntKind.u64.bits (U.i 74)).toNat:=eqI (e.at 73 _ rfl rfl) rfl;rw [c0,Qrz d0.1 d0.2] at this;exact this
 have a1:U.i 67=bAt (U.s 0) (U.i 1+1):=by
  have:U.i 67=bAt (U.s 65) 1:=eqAt (e.at 65 _ rfl rfl) (show den U (.int .i64 1)=.int .i64 1 from rfl);rw [hs,Qb7 (by omega) (by omega) (by omega) (by omega) (by omega)] at this;exact this
 have c1:U.i 77=bAt (U.s 0) (U.i 1+1):=by have:=xo77 e;have:=Qd (U.s 0) (U.i 1+1);omega
 have d1:=Qd (U.s 0) (U.i 1+1);have y1:U.i 78=(bAt (U.s 0) (U.i 1+0))*256+bAt (U.s 0) (U.i 1+1):=by
  have h1:U.i 76=IntKind.u64.wrap (U.i 75*2^(min (8:Int).toNat IntKind.u64.bits)):=eqI (e.at 74 _ rfl rfl) rfl;have h2:U.i 78=IntKind.u64.wrap (BitVec.ofInt IntKind.u64.bits (U.i 76)|||BitVec.ofInt IntKind.u64.bits (U.i 77)).toNat:=eqI (e.at 76 _ rfl rfl) rfl;rw [h1,c1,y0,Qey (by omega) (by omega) d1.1 d1.2] at h2;exact h2
 have a2:U.i 68=bAt (U.s 0) (U.i 1+2):=by
  have:U.i 68=bAt (U.s 65) 2:=eqAt (e.at 66 _ rfl rfl) (show den U (.int .i64 2)=.int .i64 2 from rfl);rw [hs,Qb7 (by omega) (by omega) (by omega) (by omega) (by omega)] at this;exact this
 have c2:U.i 80=bAt (U.s 0) (U.i 1+2):=by have:=xo80 e;have:=Qd (U.s 0) (U.i 1+2);omega
 have d2:=Qd (U.s 0) (U.i 1+2);have y2:U.i 81=((bAt (U.s 0) (U.i 1+0))*256+bAt (U.s 0) (U.i 1+1))*256+bAt (U.s 0) (U.i 1+2):=by
  have h1:U.i 79=IntKind.u64.wrap (U.i 78*2^(min (8:Int).toNat IntKind.u64.bits)):=eqI (e.at 77 _ rfl rfl) rfl;have h2:U.i 81=IntKind.u64.wrap (BitVec.ofInt IntKind.u64.bits (U.i 79)|||BitVec.ofInt IntKind.u64.bits (U.i 80)).toNat:=eqI (e.at 79 _ rfl rfl) rfl;rw [h1,c2,y1,Qey (by omega) (by omega) d2.1 d2.2] at h2;exact h2
 have a3:U.i 69=bAt (U.s 0) (U.i 1+3):=by
  have:U.i 69=bAt (U.s 65) 3:=eqAt (e.at 67 _ rfl rfl) (show den U (.int .i64 3)=.int .i64 3 from rfl);rw [hs,Qb7 (by omega) (by omega) (by omega) (by omega) (by omega)] at this;exact this
 have c3:U.i 83=bAt (U.s 0) (U.i 1+3):=by have:=xo83 e;have:=Qd (U.s 0) (U.i 1+3);omega
 have d3:=Qd (U.s 0) (U.i 1+3);have y3:U.i 84=(((bAt (U.s 0) (U.i 1+0))*256+bAt (U.s 0) (U.i 1+1))*256+bAt (U.s 0) (U.i 1+2))*256+bAt (U.s 0) (U.i 1+3):=by
  have h1:U.i 82=IntKind.u64.wrap (U.i 81*2^(min (8:Int).toNat IntKind.u64.bits)):=eqI (e.at 80 _ rfl rfl) rfl;have h2:U.i 84=IntKind.u64.wrap (BitVec.ofInt IntKind.u64.bits (U.i 82)|||BitVec.ofInt IntKind.u64.bits (U.i 83)).toNat:=eqI (e.at 82 _ rfl rfl) rfl;rw [h1,c3,y2,Qey (by omega) (by omega) d3.1 d3.2] at h2;exact h2
 have a4:U.i 70=bAt (U.s 0) (U.i 1+4):=by
  have:U.i 70=bAt (U.s 65) 4:=eqAt (e.at 68 _ rfl rfl) (show den U (.int .i64 4)=.int .i64 4 from rfl);rw [hs,Qb7 (by omega) (by omega) (by omega) (by omega) (by omega)] at this;exact this
 have c4:U.i 86=bAt (U.s 0) (U.i 1+4):=by have:=xo86 e;have:=Qd (U.s 0) (U.i 1+4);omega
 have d4:=Qd (U.s 0) (U.i 1+4);have y4:U.i 87=((((bAt (U.s 0) (U.i 1+0))*256+bAt (U.s 0) (U.i 1+1))*256+bAt (U.s 0) (U.i 1+2))*256+bAt (U.s 0) (U.i 1+3))*256+bAt (U.s 0) (U.i 1+4):=by
  have h1:U.i 85=IntKind.u64.wrap (U.i 84*2^(min (8:Int).toNat IntKind.u64.bits)):=eqI (e.at 83 _ rfl rfl) rfl;have h2:U.i 87=IntKind.u64.wrap (BitVec.ofInt IntKind.u64.bits (U.i 85)|||BitVec.ofInt IntKind.u64.bits (U.i 86)).toNat:=eqI (e.at 85 _ rfl rfl) rfl;rw [h1,c4,y3,Qey (by omega) (by omega) d4.1 d4.2] at h2;exact h2
 have a5:U.i 71=bAt (U.s 0) (U.i 1+5):=by
  have:U.i 71=bAt (U.s 65) 5:=eqAt (e.at 69 _ rfl rfl) (show den U (.int .i64 5)=.int .i64 5 from rfl);rw [hs,Qb7 (by omega) (by omega) (by omega) (by omega) (by omega)] at this;exact this
 have c5:U.i 89=bAt (U.s 0) (U.i 1+5):=by have:=xo89 e;have:=Qd (U.s 0) (U.i 1+5);omega
 have d5:=Qd (U.s 0) (U.i 1+5);have y5:U.i 90=(((((bAt (U.s 0) (U.i 1+0))*256+bAt (U.s 0) (U.i 1+1))*256+bAt (U.s 0) (U.i 1+2))*256+bAt (U.s 0) (U.i 1+3))*256+bAt (U.s 0) (U.i 1+4))*256+bAt (U.s 0) (U.i 1+5):=by
  have h1:U.i 88=IntKind.u64.wrap (U.i 87*2^(min (8:Int).toNat IntKind.u64.bits)):=eqI (e.at 86 _ rfl rfl) rfl;have h2:U.i 90=IntKind.u64.wrap (BitVec.ofInt IntKind.u64.bits (U.i 88)|||BitVec.ofInt IntKind.u64.bits (U.i 89)).toNat:=eqI (e.at 88 _ rfl rfl) rfl;rw [h1,c5,y4,Qey (by omega) (by omega) d5.1 d5.2] at h2;exact h2
 have a6:U.i 72=bAt (U.s 0) (U.i 1+6):=by
  have:U.i 72=bAt (U.s 65) 6:=eqAt (e.at 70 _ rfl rfl) (show den U (.int .i64 6)=.int .i64 6 from rfl);rw [hs,Qb7 (by omega) (by omega) (by omega) (by omega) (by omega)] at this;exact this
 have c6:U.i 92=bAt (U.s 0) (U.i 1+6):=by have:=xo92 e;have:=Qd (U.s 0) (U.i 1+6);omega
 have d6:=Qd (U.s 0) (U.i 1+6);have y6:U.i 93=((((((bAt (U.s 0) (U.i 1+0))*256+bAt (U.s 0) (U.i 1+1))*256+bAt (U.s 0) (U.i 1+2))*256+bAt (U.s 0) (U.i 1+3))*256+bAt (U.s 0) (U.i 1+4))*256+bAt (U.s 0) (U.i 1+5))*256+bAt (U.s 0) (U.i 1+6):=by
  have h1:U.i 91=IntKind.u64.wrap (U.i 90*2^(min (8:Int).toNat IntKind.u64.bits)):=eqI (e.at 89 _ rfl rfl) rfl;have h2:U.i 93=IntKind.u64.wrap (BitVec.ofInt IntKind.u64.bits (U.i 91)|||BitVec.ofInt IntKind.u64.bits (U.i 92)).toNat:=eqI (e.at 91 _ rfl rfl) rfl;rw [h1,c6,y5,Qey (by omega) (by omega) d6.1 d6.2] at h2;exact h2
 have a7:U.i 73=bAt (U.s 0) (U.i 1+7):=by
  have:U.i 73=bAt (U.s 65) 7:=eqAt (e.at 71 _ rfl rfl) (show den U (.int .i64 7)=.int .i64 7 from rfl);rw [hs,Qb7 (by omega) (by omega) (by omega) (by omega) (by omega)] at this;exact this
 have c7:U.i 95=bAt (U.s 0) (U.i 1+7):=by have:=xo95 e;have:=Qd (U.s 0) (U.i 1+7);omega
 have d7:=Qd (U.s 0) (U.i 1+7);have y7:U.i 96=(((((((bAt (U.s 0) (U.i 1+0))*256+bAt (U.s 0) (U.i 1+1))*256+bAt (U.s 0) (U.i 1+2))*256+bAt (U.s 0) (U.i 1+3))*256+bAt (U.s 0) (U.i 1+4))*256+bAt (U.s 0) (U.i 1+5))*256+bAt (U.s 0) (U.i 1+6))*256+bAt (U.s 0) (U.i 1+7):=by
  have h1:U.i 94=IntKind.u64.wrap (U.i 93*2^(min (8:Int).toNat IntKind.u64.bits)):=eqI (e.at 92 _ rfl rfl) rfl;have h2:U.i 96=IntKind.u64.wrap (BitVec.ofInt IntKind.u64.bits (U.i 94)|||BitVec.ofInt IntKind.u64.bits (U.i 95)).toNat:=eqI (e.at 94 _ rfl rfl) rfl;rw [h1,c7,y6,Qey (by omega) (by omega) d7.1 d7.2] at h2;exact h2
 have z:U.i 97=IntKind.u64.wrap (BitVec.ofInt IntKind.u64.bits (U.i 96)&&& ~~~BitVec.ofInt IntKind.u64.bits (13835058055282163712)).toNat:=eqI (e.at 95 _ rfl rfl) rfl;rw [y7] at z;simp only [Int.add_zero] at*;rw [Qo2 62 3 (by decide) (by omega) (by omega) (by decide)] at z;rw [z];omega
theorem xo21 {U:Sig} (e:Eqs U 2 Ql) (hp:Pl U) (ht:U.tab=Qa):(U.i 20<64/\U.i 21=0)\/(64<=U.i 20/\U.i 20<16384/\U.i 21=1)\/(16384<=U.i 20/\U.i 20<1073741824/\U.i 21=2)\/(1073741824<=U.i 20/\U.i 21=3):=by
 have h:U.i 21=IntKind.i64.wrap (U.tab 0 [U.i 20]):=eqI (e.at 19 _ rfl rfl) rfl;rw [ht,Qsu,Qh] at h;have:=Qsm (U.i 20);omega
theorem xo36 {U:Sig} (e:Eqs U 2 Ql) (hp:Pl U) (ht:U.tab=Qa):(U.i 35<64/\U.i 36=0)\/(64<=U.i 35/\U.i 35<16384/\U.i 36=1)\/(16384<=U.i 35/\U.i 35<1073741824/\U.i 36=2)\/(1073741824<=U.i 35/\U.i 36=3):=by
 have h:U.i 36=IntKind.i64.wrap (U.tab 0 [U.i 35]):=eqI (e.at 34 _ rfl rfl) rfl;rw [ht,Qsu,Qh] at h;have:=Qsm (U.i 35);omega
theorem xo59 {U:Sig} (e:Eqs U 2 Ql) (hp:Pl U) (ht:U.tab=Qa):(U.i 58<64/\U.i 59=0)\/(64<=U.i 58/\U.i 58<16384/\U.i 59=1)\/(16384<=U.i 58/\U.i 58<1073741824/\U.i 59=2)\/(1073741824<=U.i 58/\U.i 59=3):=by
 have h:U.i 59=IntKind.i64.wrap (U.tab 0 [U.i 58]):=eqI (e.at 57 _ rfl rfl) rfl;rw [ht,Qsu,Qh] at h;have:=Qsm (U.i 58);omega
theorem xo98 {U:Sig} (e:Eqs U 2 Ql) (hp:Pl U) (ht:U.tab=Qa):(U.i 97<64/\U.i 98=0)\/(64<=U.i 97/\U.i 97<16384/\U.i 98=1)\/(16384<=U.i 97/\U.i 97<1073741824/\U.i 98=2)\/(1073741824<=U.i 97/\U.i 98=3):=by
 have h:U.i 98=IntKind.i64.wrap (U.tab 0 [U.i 97]):=eqI (e.at 96 _ rfl rfl) rfl;rw [ht,Qsu,Qh] at h;have:=Qsm (U.i 97);omega
theorem E48 {g:Inj} {w:World} {U:Sig} {l:Asg} {hH:HRel (cx0 Qa) g sf48.pre w} {hg:g.sig.tab=Qa} (h:Qhw (asgS U l) g.sig [(3,.symi .u64 3),(4,.symi .i64 4),(5,.symi .i64 5),(0,.syms 0),(1,.symi .i64 1)]) (hx:U.ext=g.sig.ext):
  EndZ Qa 69 (Qu g w sf48.pre.length) (bodyPost Tryd.prog Tryd.f76 (MemR Qa sf48 g w)) .ret Qen (asgS U l):=
 Qb8 (M:=9) (vs:=[.symi .u64 3,.symi .i64 4,.symi .i64 5]) (by kernel_rfl) rfl rfl hH hg rfl rfl rfl (by kernel_rfl) (by kernel_rfl) h (Nat.le_refl _) hx (.inl rfl)
theorem g_num {g:Sig} (ht:g.tab=Qa) {e:SymF} (he:e.G=sf48.G) (h:Eqs g 2 e.G):g.i 3=IntKind.u64.wrap ((numL (g.s 0) (g.i 1)).getD 0 0)/\g.i 4=IntKind.i64.wrap ((numL (g.s 0) (g.i 1)).getD 1 0)/\g.i 5=IntKind.i64.wrap ((numL (g.s 0) (g.i 1)).getD 2 0):=by
 rw [he] at h;have h3:g.i 3=IntKind.u64.wrap (g.tab 128 [encB (g.s 0),g.i 1]):=eqI (h.at 1 _ rfl rfl) rfl;have h4:g.i 4=IntKind.i64.wrap (g.tab 129 [encB (g.s 0),g.i 1]):=eqI (h.at 2 _ rfl rfl) rfl;have h5:g.i 5=IntKind.i64.wrap (g.tab 130 [encB (g.s 0),g.i 1]):=eqI (h.at 3 _ rfl rfl) rfl;rw [ht,tab_num _ _ 0 (by decide)] at h3;rw [ht,tab_num _ _ 1 (by decide)] at h4;rw [ht,tab_num _ _ 2 (by decide)] at h5;exact ⟨h3,h4,h5⟩
theorem Quh {g:Sig} (ht:g.tab=Qa) {e:SymF} (he:e.G=sf48.G) (h:Eqs g 2 e.G):g.i 3=(numL (g.s 0) (g.i 1)).getD 0 0/\g.i 4=(numL (g.s 0) (g.i 1)).getD 1 0/\g.i 5=(numL (g.s 0) (g.i 1)).getD 2 0:=by
 obtain ⟨h1,h2,h3⟩:=g_num ht he h;have:=Qik (g.s 0) (g.i 1);rw [Qg] at h1;rw [Qh] at h2 h3;exact ⟨by omega,by omega,by omega⟩
theorem Qui {g:Sig} (ht:g.tab=Qa) {e:SymF} (he:e.G=sf48.G) (h:Eqs g 2 e.G):g.i 3=(numL (g.s 0) (g.i 1)).getD 0 0/\g.i 4=(numL (g.s 0) (g.i 1)).getD 1 0/\g.i 5=(numL (g.s 0) (g.i 1)).getD 2 0/\
  (Pl g->g.i 6=g.i 1+(numL (g.s 0) (g.i 1)).getD 1 0)/\g.i 8=if (numL (g.s 0) (g.i 1)).getD 2 0=0 then 0 else g.i 1:=by
 obtain ⟨h1,h2,h3⟩:=Quh ht he h;rw [he] at h;have h6:g.i 6=IntKind.i64.wrap (g.i 1+g.i 4):=eqI (h.at 4 _ rfl rfl) rfl;have h7:g.b 7=(g.i 5 !=0):=eqB (h.at 5 _ rfl rfl) rfl;have h8:g.i 8=(bif g.b 7 then g.i 1 else 0):=Qbcg (h.at 6 _ rfl rfl) rfl rfl rfl;have:=Qik (g.s 0) (g.i 1);refine ⟨h1,h2,h3,fun hp=> ?_,?_⟩;have:=hp.lo;have:=hp.hi;have:=hp.sz;rw [Qh] at h6;omega;rw [h8,h7,h3];by_cases hc:(numL (g.s 0) (g.i 1)).getD 2 0=0;rw [if_pos hc,hc];rfl;rw [if_neg hc,bne_iff_ne.2 hc];rfl
theorem g_pl {g:Sig} {e:SymF} (he:e.G=sf48.G/\e.pcs=sf48.pcs) (h:Eqs g 2 e.G) (hp: ∀d,d∈e.pcs->Qb g d=some (.bool true)):Pl g:=by
 obtain ⟨he,hq⟩:=he;rw [he] at h;rw [hq] at hp;have h2:g.i 2=_:=Qet (h.at 0 _ rfl rfl);have p1:=hp (.bin .leq (.int .i64 0) (.symi .i64 1)) (by simp [sf48,Qim]);have p2:=hp (.bin .leq (.symi .i64 1) (.symi .i64 2)) (by simp [sf48,Qim]);have p3:=hp (.bin .leq (.symi .i64 2) (.int .i64 1000000)) (by simp [sf48,Qim]);simp only [Qb,den,binS,intA,if_true,Option.some.injEq,AVal.bool.injEq,decide_eq_true_eq] at p1 p2 p3;rw [h2] at p2 p3;exact ⟨p1,p2,p3⟩
set_option maxHeartbeats 0 in
theorem wn48_contract:SymFOk Tryd.prog Qa (fun _=>True) sf48:=
  Qb5 Tryd.func76 rfl (n:=69) rfl (by decide) (by decide) rfl rfl (by kernel_rfl) (fun g w hg _ hE hI hpc hH=>by
    have hpg:Pl g.sig:=g_pl ⟨rfl,rfl⟩ hE hpc;refine Qf.last mixed Qbox ⟨rfl,rfl⟩ (fun V U ag h=>h.trans' ag) (fun U h=>Qv) (fun U e ht hi ag=> ?_) ?_
    . have hs0:AVal.str (U.s 0)=.str (g.sig.s 0):=by rw [(ag.val 0 (by decide)).2.2]
      have hs1:AVal.int .i64 (U.i 1)=.int .i64 (g.sig.i 1):=by rw [(ag.val 1 (by decide)).1]
      have hs1':g.sig.i 1=U.i 1:=(ag.val 1 (by decide)).1;have hx:U.ext=g.sig.ext:=ag.ext.symm;have hp:Pl U:=by
        have e1:=(ag.val 1 (by decide)).1;have e2:=(ag.val 0 (by decide)).2.2;exact ⟨by rw [<-e1];exact hpg.lo,by rw [<-e1,<-e2];exact hpg.hi,by rw [<-e2];exact hpg.sz⟩
      have gn:=Quh (e:=sf48) hg rfl hE;have gr:=Qui (e:=sf48) hg rfl hE;rw [(ag.val 1 (by decide)).1,(ag.val 0 (by decide)).2.2] at gn gr;have b:=Qot e hp;refine Qp ?_;exact ⟨fun f0=>have p0:=ob_rT (xo3 e) f0;⟨fun f1=>have p1:=ob_rT (xo4 e) f1;⟨fun f2=>have p2:=ob_rT (xo5 e) f2;⟨fun f3=>have p3:=ob_rT (xo6 e) f3;⟨fun f4=>have q4:=xo9 e;⟨fun f5=>have p5:=ob_rT (xo11 e) f5;(by have:=xo8 e;have:=xo9 e;have:=xo10 e;omega),
 fun f5=>have p5:=ob_rF (xo11 e) f5;⟨fun f6=>have p6:=ob_rT (xo12 e) f6;(by have:=xo8 e;have:=xo9 e;have:=xo10 e;omega),
 fun f6=>have p6:=ob_rF (xo12 e) f6;⟨fun f7=>have p7:=ob_rT (xo14 e) f7;⟨fun f8=>have p8:=ob_rT (xo15 e) f8;⟨fun f9=>have p9:=ob_rT (xo22 e) f9;(by have:=xo8 e;have:=xo9 e;have:=xo10 e;have:=xo13 e;have:=xo21 e hp ht;have:=xo21 e hp ht;have hv:=Q9y e hp (by omega) (by omega);omega),
 fun f9=>have p9:=ob_rF (xo22 e) f9;(by have:=xo8 e;have:=xo9 e;have:=xo10 e;have:=xo13 e;have:=xo21 e hp ht;have hv:=Q9y e hp (by omega) (by omega);have hL:numL (U.s 0) (U.i 1)=[U.i 20,1,0]:=(by unfold numL;(repeat (first|rw [if_pos (by omega)]|rw [if_neg (by omega)]));rw [show U.i 20=bAt (U.s 0) (U.i 1) by omega]);exact E48 (hH:=hH) (hg:=hg) ⟨(show AVal.int .u64 (U.i 20)=.int .u64 (g.sig.i 3) by rw [gn.1,hL];rfl),(show AVal.int .i64 (1)=.int .i64 (g.sig.i 4) by rw [gn.2.1,hL];rfl),(show AVal.int .i64 (0)=.int .i64 (g.sig.i 5) by rw [gn.2.2,hL];rfl),hs0,hs1,trivial⟩ hx)⟩,
 fun f8=>have p8:=ob_rF (xo15 e) f8;(by have:=xo8 e;have:=xo9 e;have:=xo10 e;have:=xo13 e;omega)⟩,
 fun f7=>have p7:=ob_rF (xo14 e) f7;(by have:=xo8 e;have:=xo9 e;have:=xo10 e;have:=xo13 e;omega)⟩⟩⟩,
 fun f4=>have q4:=xo9 e;⟨fun f5=>have q5:=xo9 e;⟨fun f6=>have p6:=ob_rT (xo11 e) f6;(by have:=xo8 e;have:=xo9 e;have:=xo10 e;omega),
 fun f6=>have p6:=ob_rF (xo11 e) f6;⟨fun f7=>have p7:=ob_rT (xo23 e) f7;(by have:=xo8 e;have:=xo9 e;have:=xo10 e;have:=Qd (U.s 0) (U.i 1+1);have hL:numL (U.s 0) (U.i 1)=[0,0,3]:=(by unfold numL;(repeat (first|rw [if_pos (by omega)]|rw [if_neg (by omega)])));exact E48 (hH:=hH) (hg:=hg) ⟨(show AVal.int .u64 (0)=.int .u64 (g.sig.i 3) by rw [gn.1,hL];rfl),(show AVal.int .i64 (0)=.int .i64 (g.sig.i 4) by rw [gn.2.1,hL];rfl),(show AVal.int .i64 (3)=.int .i64 (g.sig.i 5) by rw [gn.2.2,hL];rfl),hs0,hs1,trivial⟩ hx),
 fun f7=>have p7:=ob_rF (xo23 e) f7;⟨fun f8=>have p8:=ob_rT (xo25 e) f8;⟨fun f9=>have p9:=ob_rT (xo26 e) f9;⟨fun f10=>have p10:=ob_rT (xo37 e) f10;(by have:=xo8 e;have:=xo9 e;have:=xo10 e;have:=xo24 e;have:=xo36 e hp ht;have hv:=Q9z e hp (by omega) (by omega);have:=Qd (U.s 0) (U.i 1+1);have hL:numL (U.s 0) (U.i 1)=[0,0,5]:=(by unfold numL;(repeat (first|rw [if_pos (by omega)]|rw [if_neg (by omega)])));exact E48 (hH:=hH) (hg:=hg) ⟨(show AVal.int .u64 (0)=.int .u64 (g.sig.i 3) by rw [gn.1,hL];rfl),(show AVal.int .i64 (0)=.int .i64 (g.sig.i 4) by rw [gn.2.1,hL];rfl),(show AVal.int .i64 (5)=.int .i64 (g.sig.i 5) by rw [gn.2.2,hL];rfl),hs0,hs1,trivial⟩ hx),
 fun f10=>have p10:=ob_rF (xo37 e) f10;(by have:=xo8 e;have:=xo9 e;have:=xo10 e;have:=xo24 e;have:=xo36 e hp ht;have hv:=Q9z e hp (by omega) (by omega);have:=Qd (U.s 0) (U.i 1+1);have hL:numL (U.s 0) (U.i 1)=[U.i 35,2,0]:=(by unfold numL;(repeat (first|rw [if_pos (by omega)]|rw [if_neg (by omega)]));rw [hv]);exact E48 (hH:=hH) (hg:=hg) ⟨(show AVal.int .u64 (U.i 35)=.int .u64 (g.sig.i 3) by rw [gn.1,hL];rfl),(show AVal.int .i64 (2)=.int .i64 (g.sig.i 4) by rw [gn.2.1,hL];rfl),(show AVal.int .i64 (0)=.int .i64 (g.sig.i 5) by rw [gn.2.2,hL];rfl),hs0,hs1,trivial⟩ hx)⟩,
 fun f9=>have p9:=ob_rF (xo26 e) f9;(by have:=xo8 e;have:=xo9 e;have:=xo10 e;have:=xo24 e;omega)⟩,
 fun f8=>have p8:=ob_rF (xo25 e) f8;(by have:=xo8 e;have:=xo9 e;have:=xo10 e;have:=xo24 e;omega)⟩⟩⟩,
 fun f5=>have q5:=xo9 e;⟨fun f6=>have q6:=xo9 e;⟨fun f7=>have p7:=ob_rT (xo11 e) f7;(by have:=xo8 e;have:=xo9 e;have:=xo10 e;omega),
 fun f7=>have p7:=ob_rF (xo11 e) f7;⟨fun f8=>have p8:=ob_rT (xo38 e) f8;(by have:=xo8 e;have:=xo9 e;have:=xo10 e;have:=Qd (U.s 0) (U.i 1+1);have:=Qd (U.s 0) (U.i 1+2);have:=Qd (U.s 0) (U.i 1+3);have hL:numL (U.s 0) (U.i 1)=[0,0,3]:=(by unfold numL;(repeat (first|rw [if_pos (by omega)]|rw [if_neg (by omega)])));exact E48 (hH:=hH) (hg:=hg) ⟨(show AVal.int .u64 (0)=.int .u64 (g.sig.i 3) by rw [gn.1,hL];rfl),(show AVal.int .i64 (0)=.int .i64 (g.sig.i 4) by rw [gn.2.1,hL];rfl),(show AVal.int .i64 (3)=.int .i64 (g.sig.i 5) by rw [gn.2.2,hL];rfl),hs0,hs1,trivial⟩ hx),
 fun f8=>have p8:=ob_rF (xo38 e) f8;⟨fun f9=>have p9:=ob_rT (xo40 e) f9;⟨fun f10=>have p10:=ob_rT (xo41 e) f10;⟨fun f11=>have p11:=ob_rT (xo60 e) f11;(by have:=xo8 e;have:=xo9 e;have:=xo10 e;have:=xo39 e;have:=xo59 e hp ht;have hv:=Q90 e hp (by omega) (by omega);have:=Qd (U.s 0) (U.i 1+1);have:=Qd (U.s 0) (U.i 1+2);have:=Qd (U.s 0) (U.i 1+3);have hL:numL (U.s 0) (U.i 1)=[0,0,5]:=(by unfold numL;(repeat (first|rw [if_pos (by omega)]|rw [if_neg (by omega)])));exact E48 (hH:=hH) (hg:=hg) ⟨(show AVal.int .u64 (0)=.int .u64 (g.sig.i 3) by rw [gn.1,hL];rfl),(show AVal.int .i64 (0)=.int .i64 (g.sig.i 4) by rw [gn.2.1,hL];rfl),(show AVal.int .i64 (5)=.int .i64 (g.sig.i 5) by rw [gn.2.2,hL];rfl),hs0,hs1,trivial⟩ hx),
 fun f11=>have p11:=ob_rF (xo60 e) f11;(by have:=xo8 e;have:=xo9 e;have:=xo10 e;have:=xo39 e;have:=xo59 e hp ht;have hv:=Q90 e hp (by omega) (by omega);have:=Qd (U.s 0) (U.i 1+1);have:=Qd (U.s 0) (U.i 1+2);have:=Qd (U.s 0) (U.i 1+3);have hL:numL (U.s 0) (U.i 1)=[U.i 58,4,0]:=(by unfold numL;(repeat (first|rw [if_pos (by omega)]|rw [if_neg (by omega)]));rw [hv]);exact E48 (hH:=hH) (hg:=hg) ⟨(show AVal.int .u64 (U.i 58)=.int .u64 (g.sig.i 3) by rw [gn.1,hL];rfl),(show AVal.int .i64 (4)=.int .i64 (g.sig.i 4) by rw [gn.2.1,hL];rfl),(show AVal.int .i64 (0)=.int .i64 (g.sig.i 5) by rw [gn.2.2,hL];rfl),hs0,hs1,trivial⟩ hx)⟩,
 fun f10=>have p10:=ob_rF (xo41 e) f10;(by have:=xo8 e;have:=xo9 e;have:=xo10 e;have:=xo39 e;omega)⟩,
 fun f9=>have p9:=ob_rF (xo40 e) f9;(by have:=xo8 e;have:=xo9 e;have:=xo10 e;have:=xo39 e;omega)⟩⟩⟩,
 fun f6=>have q6:=xo9 e;⟨fun f7=>have q7:=xo9 e;⟨fun f8=>have p8:=ob_rT (xo11 e) f8;(by have:=xo8 e;have:=xo9 e;have:=xo10 e;omega),
 fun f8=>have p8:=ob_rF (xo11 e) f8;⟨fun f9=>have p9:=ob_rT (xo61 e) f9;(by have:=xo8 e;have:=xo9 e;have:=xo10 e;have:=Qd (U.s 0) (U.i 1+1);have:=Qd (U.s 0) (U.i 1+2);have:=Qd (U.s 0) (U.i 1+3);have:=Qd (U.s 0) (U.i 1+4);have:=Qd (U.s 0) (U.i 1+5);have:=Qd (U.s 0) (U.i 1+6);have:=Qd (U.s 0) (U.i 1+7);have hL:numL (U.s 0) (U.i 1)=[0,0,3]:=(by unfold numL;(repeat (first|rw [if_pos (by omega)]|rw [if_neg (by omega)])));exact E48 (hH:=hH) (hg:=hg) ⟨(show AVal.int .u64 (0)=.int .u64 (g.sig.i 3) by rw [gn.1,hL];rfl),(show AVal.int .i64 (0)=.int .i64 (g.sig.i 4) by rw [gn.2.1,hL];rfl),(show AVal.int .i64 (3)=.int .i64 (g.sig.i 5) by rw [gn.2.2,hL];rfl),hs0,hs1,trivial⟩ hx),
 fun f9=>have p9:=ob_rF (xo61 e) f9;⟨fun f10=>have p10:=ob_rT (xo63 e) f10;⟨fun f11=>have p11:=ob_rT (xo64 e) f11;⟨fun f12=>have p12:=ob_rT (xo99 e) f12;(by have:=xo8 e;have:=xo9 e;have:=xo10 e;have:=xo62 e;have:=xo98 e hp ht;have hv:=Q91 e hp (by omega) (by omega);have:=Qd (U.s 0) (U.i 1+1);have:=Qd (U.s 0) (U.i 1+2);have:=Qd (U.s 0) (U.i 1+3);have:=Qd (U.s 0) (U.i 1+4);have:=Qd (U.s 0) (U.i 1+5);have:=Qd (U.s 0) (U.i 1+6);have:=Qd (U.s 0) (U.i 1+7);have hL:numL (U.s 0) (U.i 1)=[0,0,5]:=(by unfold numL;(repeat (first|rw [if_pos (by omega)]|rw [if_neg (by omega)])));exact E48 (hH:=hH) (hg:=hg) ⟨(show AVal.int .u64 (0)=.int .u64 (g.sig.i 3) by rw [gn.1,hL];rfl),(show AVal.int .i64 (0)=.int .i64 (g.sig.i 4) by rw [gn.2.1,hL];rfl),(show AVal.int .i64 (5)=.int .i64 (g.sig.i 5) by rw [gn.2.2,hL];rfl),hs0,hs1,trivial⟩ hx),
 fun f12=>have p12:=ob_rF (xo99 e) f12;(by have:=xo8 e;have:=xo9 e;have:=xo10 e;have:=xo62 e;have:=xo98 e hp ht;have hv:=Q91 e hp (by omega) (by omega);have:=Qd (U.s 0) (U.i 1+1);have:=Qd (U.s 0) (U.i 1+2);have:=Qd (U.s 0) (U.i 1+3);have:=Qd (U.s 0) (U.i 1+4);have:=Qd (U.s 0) (U.i 1+5);have:=Qd (U.s 0) (U.i 1+6);have:=Qd (U.s 0) (U.i 1+7);have hL:numL (U.s 0) (U.i 1)=[U.i 97,8,0]:=(by unfold numL;(repeat (first|rw [if_pos (by omega)]|rw [if_neg (by omega)]));rw [hv]);exact E48 (hH:=hH) (hg:=hg) ⟨(show AVal.int .u64 (U.i 97)=.int .u64 (g.sig.i 3) by rw [gn.1,hL];rfl),(show AVal.int .i64 (8)=.int .i64 (g.sig.i 4) by rw [gn.2.1,hL];rfl),(show AVal.int .i64 (0)=.int .i64 (g.sig.i 5) by rw [gn.2.2,hL];rfl),hs0,hs1,trivial⟩ hx)⟩,
 fun f11=>have p11:=ob_rF (xo64 e) f11;(by have:=xo8 e;have:=xo9 e;have:=xo10 e;have:=xo62 e;omega)⟩,
 fun f10=>have p10:=ob_rF (xo63 e) f10;(by have:=xo8 e;have:=xo9 e;have:=xo10 e;have:=xo62 e;omega)⟩⟩⟩,
 fun f7=>have q7:=xo9 e;(by have:=xo8 e;have:=xo9 e;omega)⟩⟩⟩⟩,
 fun f3=>have p3:=ob_rF (xo6 e) f3;⟨fun f4=>have p4:=ob_rT (xo11 e) f4;(by have:=xo8 e;have:=xo9 e;have:=xo10 e;have hL:numL (U.s 0) (U.i 1)=[0,0,3]:=(by unfold numL;(repeat (first|rw [if_pos (by omega)]|rw [if_neg (by omega)])));exact E48 (hH:=hH) (hg:=hg) ⟨(show AVal.int .u64 (0)=.int .u64 (g.sig.i 3) by rw [gn.1,hL];rfl),(show AVal.int .i64 (0)=.int .i64 (g.sig.i 4) by rw [gn.2.1,hL];rfl),(show AVal.int .i64 (3)=.int .i64 (g.sig.i 5) by rw [gn.2.2,hL];rfl),hs0,hs1,trivial⟩ hx),
 fun f4=>have p4:=ob_rF (xo11 e) f4;(by have:=xo8 e;have:=xo9 e;have:=xo10 e;omega)⟩⟩,
 fun f2=>have p2:=ob_rF (xo5 e) f2;(by have:=xo8 e;have:=xo9 e;omega)⟩,
 fun f1=>have p1:=ob_rF (xo4 e) f1;(by have:=xo8 e;have:=xo9 e;omega)⟩,
 fun f0=>have p0:=ob_rF (xo3 e) f0;(by have:=xo8 e;have:=xo9 e;omega)⟩
    . exact pin0 (by kernel_rfl))
end Go.Proofs.YtelimhjceiamcaaDoor.lgn
set_option maxRecDepth 100000
namespace Go.Proofs.YtelimhjceiamcaaDoor.lg
open Go.Ev Go.RowKit Go.Wbp Go.Lgp
open Go.Proofs.YtelimhjceiamcaaDoor.lgn (mixed sf48 Qbu)
def Qs:List (Nat×List (Option IntKind)):=[(5,[some .u8]),(61,cl4),(67,cl4),(33,cl4d)]
def bl (s n:Nat):Blk:=.lst (.syms s) (.symi .i64 n) [some .u8] 5
def wbK9:List (Option IntKind):=[some .u64,some .i64,none]
def wbS9:Shape:=⟨argT 0 [.lsl 0 1 false (.z 0) (.i 1),.u 0],[bl 2 1]⟩
def wbE9:Shape:=⟨[(20,.lsl 0 1 false (.z 0) (.i 1)),(4,.lsl 1 1 true (.z 0) (.i 6))],[.gone,bl 4 6]⟩
def sf9:SymF:=
 {f:=28,m:=3,ins:=wbK9,args:=[.lsl 0 1 false (.z 0) (.i 1),.u 0],pre:=[bl 2 1],pcs:=[.q .leq (.z 0) (.i 1),.q .leq (.i 1) (.z 1000000)],
  G:=[.sop (.fs 192) [.u 0],.sop .cat [.s 2,.s 3],.fn 193 .i64 [.u 0],.q .add (.i 1) (.i 5)],v:=.lsl 1 1 true (.z 0) (.i 6),post:=[.gone,bl 4 6]}
namespace p9
theorem Qbx {V:Sig} {i:Nat} {a:AVal} {n:Int} (h:Qb V (.sop (.row [.some .u8]) [a])=some (den V (.syms i))) (ha:den V a=.int .u8 n) (h0:0<=n) (h1:n<256):V.s i=bs [n]:=by
 simp only [Qb,List.map,ha] at h;simp only [den,sopA,rowB,encK,csz,beB,List.nil_append,List.append_nil,Option.some.injEq,AVal.str.injEq] at h;rw [<-h];simp only [bs,List.map_cons,List.map_nil]
 congr 3
 have:(n%((2^(8*1):Nat):Int)).toNat%256=n.toNat:=by omega
 rw [this]
theorem eqText {V:Sig} {i:Nat} {l:List AVal} (h:Qb V (.text l)=some (den V (.syms i))):V.s i=⟨(l.map fun a=>Qcr (den V a)).toArray⟩:=by
 simp only [Qb,den,Option.some.injEq,AVal.str.injEq] at h;exact h.symm
theorem Qbaf {n:Int} (h0:0<=n) (h1:n<18446744073709551616):IntKind.u64.wrap ((BitVec.ofInt IntKind.u64.bits n&&&BitVec.ofInt IntKind.u64.bits 4611686018427387903).toNat:Int)=n%4611686018427387904:=by
 show IntKind.u64.wrap ((BitVec.ofInt 64 n&&&BitVec.ofInt 64 4611686018427387903:BitVec 64).toNat:Int)=_;rw [Qg,BitVec.toNat_and,BitVec.toNat_ofInt,BitVec.toNat_ofInt];have e1:((4611686018427387903:Int)%(2^64:Nat)).toNat=2^62-1:=by decide
 rw [e1,Nat.and_two_pow_sub_one_eq_mod];omega
theorem Qry {x c:Int} (i s:Nat) (hc:c=((2^i*s:Nat):Int)) (h0:0<=x) (h1:x<((2^i:Nat):Int)) (h64:2^i*s+2^i<=18446744073709551616):IntKind.u64.wrap ((BitVec.ofInt IntKind.u64.bits x|||BitVec.ofInt IntKind.u64.bits c).toNat:Int)=x+c:=by
 show IntKind.u64.wrap ((BitVec.ofInt 64 x|||BitVec.ofInt 64 c:BitVec 64).toNat:Int)=_;rw [Qg,BitVec.toNat_or,BitVec.toNat_ofInt,BitVec.toNat_ofInt];have e1:(x%(2^64:Nat)).toNat=x.toNat:=by omega
 have e2:(c%(2^64:Nat)).toNat=2^i*s:=by omega
 rw [e1,e2,Nat.or_comm,<-Nat.two_pow_add_eq_or_of_lt (by omega:x.toNat<2^i)];omega
def wb9G:List SDef:=[.q .and (.u 0) (.o 4611686018427387903),
 .q .shr (.u 3) (.z 6),
 .q .gtr (.u 4) (.o 0),
 .q .shr (.u 3) (.z 14),
 .q .gtr (.u 6) (.o 0),
 .q .shr (.u 3) (.z 30),
 .q .gtr (.u 8) (.o 0),
 .q .or (.u 3) (.o 13835058055282163712),
 .q .leq (.z 0) (.i 1),
 .q .leq (.i 1) (.i 1),
 .q .shr (.u 10) (.z 56),
 .conv .u8 (.u 13),
 .sop (.row [.some .u8]) [.c 14],
 .sop .cat [.s 2,.s 15],
 .q .add (.i 1) (.z 1),
 .q .leq (.z 0) (.i 17),
 .q .leq (.i 17) (.z 140737488355328),
 .q .shr (.u 10) (.z 48),
 .conv .u8 (.u 20),
 .sop (.row [.some .u8]) [.c 21],
 .sop .cat [.s 16,.s 22],
 .q .add (.i 17) (.z 1),
 .q .leq (.z 0) (.i 24),
 .q .leq (.i 24) (.z 140737488355328),
 .q .shr (.u 10) (.z 40),
 .conv .u8 (.u 27),
 .sop (.row [.some .u8]) [.c 28],
 .sop .cat [.s 23,.s 29],
 .q .add (.i 24) (.z 1),
 .q .leq (.z 0) (.i 31),
 .q .leq (.i 31) (.z 140737488355328),
 .q .shr (.u 10) (.z 32),
 .conv .u8 (.u 34),
 .sop (.row [.some .u8]) [.c 35],
 .sop .cat [.s 30,.s 36],
 .q .add (.i 31) (.z 1),
 .q .leq (.z 0) (.i 38),
 .q .leq (.i 38) (.z 140737488355328),
 .q .shr (.u 10) (.z 24),
 .conv .u8 (.u 41),
 .sop (.row [.some .u8]) [.c 42],
 .sop .cat [.s 37,.s 43],
 .q .add (.i 38) (.z 1),
 .q .leq (.z 0) (.i 45),
 .q .leq (.i 45) (.z 140737488355328),
 .q .shr (.u 10) (.z 16),
 .conv .u8 (.u 48),
 .sop (.row [.some .u8]) [.c 49],
 .sop .cat [.s 44,.s 50],
 .q .add (.i 45) (.z 1),
 .q .leq (.z 0) (.i 52),
 .q .leq (.i 52) (.z 140737488355328),
 .q .shr (.u 10) (.z 8),
 .conv .u8 (.u 55),
 .sop (.row [.some .u8]) [.c 56],
 .sop .cat [.s 51,.s 57],
 .q .add (.i 52) (.z 1),
 .q .leq (.z 0) (.i 59),
 .q .leq (.i 59) (.z 140737488355328),
 .q .shr (.u 10) (.z 0),
 .conv .u8 (.u 62),
 .sop (.row [.some .u8]) [.c 63],
 .sop .cat [.s 58,.s 64],
 .q .add (.i 59) (.z 1),
 .q .leq (.z 0) (.i 66),
 .q .leq (.i 66) (.z 140737488355328),
 .q .or (.u 3) (.o 2147483648),
 .q .shr (.u 69) (.z 24),
 .conv .u8 (.u 70),
 .sop (.row [.some .u8]) [.c 71],
 .sop .cat [.s 2,.s 72],
 .q .shr (.u 69) (.z 16),
 .conv .u8 (.u 74),
 .sop (.row [.some .u8]) [.c 75],
 .sop .cat [.s 73,.s 76],
 .q .shr (.u 69) (.z 8),
 .conv .u8 (.u 78),
 .sop (.row [.some .u8]) [.c 79],
 .sop .cat [.s 77,.s 80],
 .q .shr (.u 69) (.z 0),
 .conv .u8 (.u 82),
 .sop (.row [.some .u8]) [.c 83],
 .sop .cat [.s 81,.s 84],
 .q .or (.u 3) (.o 16384),
 .q .shr (.u 86) (.z 8),
 .conv .u8 (.u 87),
 .sop (.row [.some .u8]) [.c 88],
 .sop .cat [.s 2,.s 89],
 .q .shr (.u 86) (.z 0),
 .conv .u8 (.u 91),
 .sop (.row [.some .u8]) [.c 92],
 .sop .cat [.s 90,.s 93],
 .q .or (.u 3) (.o 0),
 .q .shr (.u 95) (.z 0),
 .conv .u8 (.u 96),
 .sop (.row [.some .u8]) [.c 97],
 .sop .cat [.s 2,.s 98]]
def wb9T:LT:=Go.Wbp.fT 3 wb9G (.n (.n (.n (.n (.n (.n (.n .e 1761577 3 .e) 45881228 72 (.n .e 49042881 86 .e)) 91675425 44 (.n (.n .e 92926946 98 .e) 96101822 91 .e)) 96502102 87 (.n (.n (.n .e 101060655 17 .e) 105830409 75 .e) 112788008 67 (.n (.n .e 162564267 39 .e) 190529114 15 .e))) 224353553 97 (.n (.n (.n (.n .e 243109483 61 .e) 250106679 52 .e) 263255274 37 (.n (.n .e 265262522 14 .e) 269586774 40 .e)) 276583970 31 (.n (.n (.n .e 280785357 35 .e) 285790794 22 .e) 296064065 19 (.n (.n .e 296308192 56 .e) 302711058 69 .e)))) 303011268 95 (.n (.n (.n (.n (.n .e 303311499 4 .e) 303711779 6 .e) 304512339 8 (.n (.n .e 308143409 80 .e) 308415048 10 .e)) 331666268 93 (.n (.n (.n .e 343383805 11 .e) 371092599 88 .e) 381052474 29 (.n (.n .e 404011634 5 .e) 418555659 46 .e))) 434835123 30 (.n (.n (.n (.n .e 440865439 94 .e) 444384310 12 .e) 468331918 18 (.n (.n .e 469035782 90 .e) 476314154 36 .e)) 503609263 73 (.n (.n (.n .e 517831645 79 .e) 526580325 82 .e) 526980605 78 (.n (.n .e 527380885 74 .e) 527781165 70 .e))))) 571575834 43 (.n (.n (.n (.n (.n (.n .e 590369094 66 .e) 606012240 7 (.n .e 606414972 23 .e)) 609849189 54 (.n (.n .e 616846385 45 .e) 633525021 28 .e)) 636326480 33 (.n (.n (.n .e 643323676 24 .e) 649047856 49 .e) 650677705 65 (.n (.n .e 661468102 85 .e) 666837514 50 .e))) 674547051 53 (.n (.n (.n (.n .e 682693395 16 .e) 713883232 76 .e) 724323310 25 (.n (.n .e 737406091 89 .e) 759513730 81 .e)) 762099194 57 (.n (.n (.n .e 767571000 71 .e) 783093835 92 .e) 808012846 9 (.n (.n .e 822257554 58 .e) 857360874 64 .e)))) 857559358 77 (.n (.n (.n (.n (.n .e 892861162 99 .e) 929832881 83 .e) 930538443 60 (.n (.n .e 950111604 68 .e) 957108800 59 .e)) 976145413 84 (.n (.n (.n .e 976588895 47 .e) 980314702 32 .e) 983586091 38 (.n (.n .e 986264685 21 .e) 993837403 51 .e))) 1001787520 42 (.n (.n (.n (.n .e 1003066186 26 .e) 1005104549 96 .e) 1010013410 62 (.n (.n .e 1010413690 55 .e) 1010813970 48 .e)) 1011214250 41 (.n (.n (.n .e 1011614530 34 .e) 1012014810 27 .e) 1012415090 20 (.n (.n .e 1012815370 13 .e) 1017310355 63 .e))))))
def wb9W:Sw:=.n 5 (.n 7 (.n 9 (.run (.node 11 (.node 12 (.node 18 (.node 19 (.node 25 (.node 26 (.node 32 (.node 33 (.node 39 (.node 40 (.node 46 (.node 47 (.node 53 (.node 54 (.node 60 (.node 61 (.node 67 (.node 68 (.leaf .ret wbE9 [(0,0),(16,0)] [(1,.i 1),(6,.i 66),(4,.s 65),(6,.i 66)] []) (.dead)) (.dead)) (.dead)) (.dead)) (.dead)) (.dead)) (.dead)) (.dead)) (.dead)) (.dead)) (.dead)) (.dead)) (.dead)) (.dead)) (.dead)) (.dead)) (.dead)) (.dead))) (.run (.node 11 (.node 12 (.node 18 (.node 19 (.node 25 (.node 26 (.node 32 (.node 33 (.node 39 (.node 40 (.leaf .ret wbE9 [(0,0),(8,0)] [(1,.i 1),(6,.i 38),(4,.s 85),(6,.i 38)] []) (.dead)) (.dead)) (.dead)) (.dead)) (.dead)) (.dead)) (.dead)) (.dead)) (.dead)) (.dead)))) (.run (.node 11 (.node 12 (.node 18 (.node 19 (.node 25 (.node 26 (.leaf .ret wbE9 [(0,0),(4,0)] [(1,.i 1),(6,.i 24),(4,.s 94),(6,.i 24)] []) (.dead)) (.dead)) (.dead)) (.dead)) (.dead)) (.dead)))) (.run (.node 11 (.node 12 (.node 18 (.node 19 (.leaf .ret wbE9 [(0,0),(2,0)] [(1,.i 1),(6,.i 17),(4,.s 99),(6,.i 17)] []) (.dead)) (.dead)) (.dead)) (.dead)))
def Qboj:KdT:=kdN 0x32200320032200320032003200322001003200100320010032001003200100320010032001003200100320020202022012 7 1 0
noncomputable def wb9X:Ing:={m:=3,ins:=wbK9,G:=wb9G,T:=wb9T,tab:=Qa,lsts:=Qs,kb:=100,kt:=Qboj}
theorem Qbok:okLT 3 wb9G wb9T=true:=by kernel_rfl
theorem Qbol:SegOk Tryd.prog Qa 42 (Qe (Qc Tryd.f28)) wbS9 wb9X wb9W:=
  ⟨Qbok,by kernel_rfl,fun F=>Qbw rfl F,rfl,by kernel_rfl,by kernel_rfl,rfl,rfl,fun _=>trivial,by kernel_rfl⟩
structure Pl (U:Sig):Prop where
 n0:0<=U.i 0
 n1:U.i 0<18446744073709551616
 lo:0<=U.i 1
 hi:U.i 1<=1000000
theorem p3 {U:Sig} (e:Eqs U 3 wb9G) (h:Pl U):U.i 3=U.i 0%4611686018427387904:=by
 have h3:U.i 3=IntKind.u64.wrap (BitVec.ofInt IntKind.u64.bits (U.i 0)&&&BitVec.ofInt IntKind.u64.bits (4611686018427387903)).toNat:=eqI (e.at 0 _ rfl rfl) rfl;rw [h3];exact Qbaf h.n0 h.n1
theorem p5 {U:Sig} (e:Eqs U 3 wb9G) (h:Pl U):U.b 5=decide (U.i 0%4611686018427387904>=64):=by
 have a:U.i 4=((U.i 3:Int).fdiv (2^(min (6:Int).toNat IntKind.u64.bits))):=eqI (e.at 1 _ rfl rfl) rfl;have b:U.b 5=decide (U.i 4>0):=eqB (e.at 2 _ rfl rfl) rfl;have c:=p3 e h;rw [show (2:Int)^(min (6:Int).toNat IntKind.u64.bits)=64 by decide,Qbf (by decide)] at a;rw [b,decide_eq_decide];omega
theorem p7 {U:Sig} (e:Eqs U 3 wb9G) (h:Pl U):U.b 7=decide (U.i 0%4611686018427387904>=16384):=by
 have a:U.i 6=((U.i 3:Int).fdiv (2^(min (14:Int).toNat IntKind.u64.bits))):=eqI (e.at 3 _ rfl rfl) rfl;have b:U.b 7=decide (U.i 6>0):=eqB (e.at 4 _ rfl rfl) rfl;have c:=p3 e h;rw [show (2:Int)^(min (14:Int).toNat IntKind.u64.bits)=16384 by decide,Qbf (by decide)] at a;rw [b,decide_eq_decide];omega
theorem p9 {U:Sig} (e:Eqs U 3 wb9G) (h:Pl U):U.b 9=decide (U.i 0%4611686018427387904>=1073741824):=by
 have a:U.i 8=((U.i 3:Int).fdiv (2^(min (30:Int).toNat IntKind.u64.bits))):=eqI (e.at 5 _ rfl rfl) rfl;have b:U.b 9=decide (U.i 8>0):=eqB (e.at 6 _ rfl rfl) rfl;have c:=p3 e h;rw [show (2:Int)^(min (30:Int).toNat IntKind.u64.bits)=1073741824 by decide,Qbf (by decide)] at a;rw [b,decide_eq_decide];omega
theorem s17 {U:Sig} (e:Eqs U 3 wb9G) (h:Pl U):U.i 17=U.i 1+1:=by
 have b:U.i 17=IntKind.i64.wrap (U.i 1+1):=eqI (e.at 14 _ rfl rfl) rfl;have c:=h.lo;have d:=h.hi;rw [Qh] at b;omega
theorem s24 {U:Sig} (e:Eqs U 3 wb9G) (h:Pl U):U.i 24=U.i 1+2:=by
 have b:U.i 24=IntKind.i64.wrap (U.i 17+1):=eqI (e.at 21 _ rfl rfl) rfl;have a:=s17 e h;have c:=h.lo;have d:=h.hi;rw [Qh] at b;omega
theorem s31 {U:Sig} (e:Eqs U 3 wb9G) (h:Pl U):U.i 31=U.i 1+3:=by
 have b:U.i 31=IntKind.i64.wrap (U.i 24+1):=eqI (e.at 28 _ rfl rfl) rfl;have a:=s24 e h;have c:=h.lo;have d:=h.hi;rw [Qh] at b;omega
theorem s38 {U:Sig} (e:Eqs U 3 wb9G) (h:Pl U):U.i 38=U.i 1+4:=by
 have b:U.i 38=IntKind.i64.wrap (U.i 31+1):=eqI (e.at 35 _ rfl rfl) rfl;have a:=s31 e h;have c:=h.lo;have d:=h.hi;rw [Qh] at b;omega
theorem s45 {U:Sig} (e:Eqs U 3 wb9G) (h:Pl U):U.i 45=U.i 1+5:=by
 have b:U.i 45=IntKind.i64.wrap (U.i 38+1):=eqI (e.at 42 _ rfl rfl) rfl;have a:=s38 e h;have c:=h.lo;have d:=h.hi;rw [Qh] at b;omega
theorem s52 {U:Sig} (e:Eqs U 3 wb9G) (h:Pl U):U.i 52=U.i 1+6:=by
 have b:U.i 52=IntKind.i64.wrap (U.i 45+1):=eqI (e.at 49 _ rfl rfl) rfl;have a:=s45 e h;have c:=h.lo;have d:=h.hi;rw [Qh] at b;omega
theorem s59 {U:Sig} (e:Eqs U 3 wb9G) (h:Pl U):U.i 59=U.i 1+7:=by
 have b:U.i 59=IntKind.i64.wrap (U.i 52+1):=eqI (e.at 56 _ rfl rfl) rfl;have a:=s52 e h;have c:=h.lo;have d:=h.hi;rw [Qh] at b;omega
theorem s66 {U:Sig} (e:Eqs U 3 wb9G) (h:Pl U):U.i 66=U.i 1+8:=by
 have b:U.i 66=IntKind.i64.wrap (U.i 59+1):=eqI (e.at 63 _ rfl rfl) rfl;have a:=s59 e h;have c:=h.lo;have d:=h.hi;rw [Qh] at b;omega
theorem t11 {U:Sig} (e:Eqs U 3 wb9G) (h:Pl U) (f:U.b 11=false):False:=by
 have b:U.b 11=decide (0<=U.i 1):=eqB (e.at 8 _ rfl rfl) rfl;have c:=h.lo;have d:=h.hi;rw [f] at b;have:=of_decide_eq_false b.symm;omega
theorem t12 {U:Sig} (e:Eqs U 3 wb9G) (h:Pl U) (f:U.b 12=false):False:=by
 have b:U.b 12=decide (U.i 1<=U.i 1):=eqB (e.at 9 _ rfl rfl) rfl;have c:=h.lo;have d:=h.hi;rw [f] at b;have:=of_decide_eq_false b.symm;omega
theorem t18 {U:Sig} (e:Eqs U 3 wb9G) (h:Pl U) (f:U.b 18=false):False:=by
 have b:U.b 18=decide (0<=U.i 17):=eqB (e.at 15 _ rfl rfl) rfl;have a17:=s17 e h;have c:=h.lo;have d:=h.hi;rw [f] at b;have:=of_decide_eq_false b.symm;omega
theorem t19 {U:Sig} (e:Eqs U 3 wb9G) (h:Pl U) (f:U.b 19=false):False:=by
 have b:U.b 19=decide (U.i 17<=140737488355328):=eqB (e.at 16 _ rfl rfl) rfl;have a17:=s17 e h;have c:=h.lo;have d:=h.hi;rw [f] at b;have:=of_decide_eq_false b.symm;omega
theorem t25 {U:Sig} (e:Eqs U 3 wb9G) (h:Pl U) (f:U.b 25=false):False:=by
 have b:U.b 25=decide (0<=U.i 24):=eqB (e.at 22 _ rfl rfl) rfl;have a24:=s24 e h;have c:=h.lo;have d:=h.hi;rw [f] at b;have:=of_decide_eq_false b.symm;omega
theorem t26 {U:Sig} (e:Eqs U 3 wb9G) (h:Pl U) (f:U.b 26=false):False:=by
 have b:U.b 26=decide (U.i 24<=140737488355328):=eqB (e.at 23 _ rfl rfl) rfl;have a24:=s24 e h;have c:=h.lo;have d:=h.hi;rw [f] at b;have:=of_decide_eq_false b.symm;omega
theorem t32 {U:Sig} (e:Eqs U 3 wb9G) (h:Pl U) (f:U.b 32=false):False:=by
 have b:U.b 32=decide (0<=U.i 31):=eqB (e.at 29 _ rfl rfl) rfl;have a31:=s31 e h;have c:=h.lo;have d:=h.hi;rw [f] at b;have:=of_decide_eq_false b.symm;omega
theorem t33 {U:Sig} (e:Eqs U 3 wb9G) (h:Pl U) (f:U.b 33=false):False:=by
 have b:U.b 33=decide (U.i 31<=140737488355328):=eqB (e.at 30 _ rfl rfl) rfl;have a31:=s31 e h;have c:=h.lo;have d:=h.hi;rw [f] at b;have:=of_decide_eq_false b.symm;omega
theorem t39 {U:Sig} (e:Eqs U 3 wb9G) (h:Pl U) (f:U.b 39=false):False:=by
 have b:U.b 39=decide (0<=U.i 38):=eqB (e.at 36 _ rfl rfl) rfl;have a38:=s38 e h;have c:=h.lo;have d:=h.hi;rw [f] at b;have:=of_decide_eq_false b.symm;omega
theorem t40 {U:Sig} (e:Eqs U 3 wb9G) (h:Pl U) (f:U.b 40=false):False:=by
 have b:U.b 40=decide (U.i 38<=140737488355328):=eqB (e.at 37 _ rfl rfl) rfl;have a38:=s38 e h;have c:=h.lo;have d:=h.hi;rw [f] at b;have:=of_decide_eq_false b.symm;omega
theorem t46 {U:Sig} (e:Eqs U 3 wb9G) (h:Pl U) (f:U.b 46=false):False:=by
 have b:U.b 46=decide (0<=U.i 45):=eqB (e.at 43 _ rfl rfl) rfl;have a45:=s45 e h;have c:=h.lo;have d:=h.hi;rw [f] at b;have:=of_decide_eq_false b.symm;omega
theorem t47 {U:Sig} (e:Eqs U 3 wb9G) (h:Pl U) (f:U.b 47=false):False:=by
 have b:U.b 47=decide (U.i 45<=140737488355328):=eqB (e.at 44 _ rfl rfl) rfl;have a45:=s45 e h;have c:=h.lo;have d:=h.hi;rw [f] at b;have:=of_decide_eq_false b.symm;omega
theorem t53 {U:Sig} (e:Eqs U 3 wb9G) (h:Pl U) (f:U.b 53=false):False:=by
 have b:U.b 53=decide (0<=U.i 52):=eqB (e.at 50 _ rfl rfl) rfl;have a52:=s52 e h;have c:=h.lo;have d:=h.hi;rw [f] at b;have:=of_decide_eq_false b.symm;omega
theorem t54 {U:Sig} (e:Eqs U 3 wb9G) (h:Pl U) (f:U.b 54=false):False:=by
 have b:U.b 54=decide (U.i 52<=140737488355328):=eqB (e.at 51 _ rfl rfl) rfl;have a52:=s52 e h;have c:=h.lo;have d:=h.hi;rw [f] at b;have:=of_decide_eq_false b.symm;omega
theorem t60 {U:Sig} (e:Eqs U 3 wb9G) (h:Pl U) (f:U.b 60=false):False:=by
 have b:U.b 60=decide (0<=U.i 59):=eqB (e.at 57 _ rfl rfl) rfl;have a59:=s59 e h;have c:=h.lo;have d:=h.hi;rw [f] at b;have:=of_decide_eq_false b.symm;omega
theorem t61 {U:Sig} (e:Eqs U 3 wb9G) (h:Pl U) (f:U.b 61=false):False:=by
 have b:U.b 61=decide (U.i 59<=140737488355328):=eqB (e.at 58 _ rfl rfl) rfl;have a59:=s59 e h;have c:=h.lo;have d:=h.hi;rw [f] at b;have:=of_decide_eq_false b.symm;omega
theorem t67 {U:Sig} (e:Eqs U 3 wb9G) (h:Pl U) (f:U.b 67=false):False:=by
 have b:U.b 67=decide (0<=U.i 66):=eqB (e.at 64 _ rfl rfl) rfl;have a66:=s66 e h;have c:=h.lo;have d:=h.hi;rw [f] at b;have:=of_decide_eq_false b.symm;omega
theorem t68 {U:Sig} (e:Eqs U 3 wb9G) (h:Pl U) (f:U.b 68=false):False:=by
 have b:U.b 68=decide (U.i 66<=140737488355328):=eqB (e.at 65 _ rfl rfl) rfl;have a66:=s66 e h;have c:=h.lo;have d:=h.hi;rw [f] at b;have:=of_decide_eq_false b.symm;omega
theorem o10 {U:Sig} (e:Eqs U 3 wb9G) (h:Pl U) (h1:1073741824<=U.i 0%4611686018427387904) (h2:U.i 0%4611686018427387904<4611686018427387904):U.i 10=U.i 0%4611686018427387904+13835058055282163712:=by
 have b:U.i 10=IntKind.u64.wrap (BitVec.ofInt IntKind.u64.bits (U.i 3)|||BitVec.ofInt IntKind.u64.bits (13835058055282163712)).toNat:=eqI (e.at 7 _ rfl rfl) rfl;rw [b,p3 e h];exact Qry 62 3 (by decide) (by omega) (by omega) (by decide)
theorem c10 {U:Sig} (e:Eqs U 3 wb9G) (h:Pl U) (h1:1073741824<=U.i 0%4611686018427387904) (h2:U.i 0%4611686018427387904<4611686018427387904):U.s 65=U.s 2++bs (pbL (U.i 0)):=by
 have a:=o10 e h h1 h2;have u0:U.i 13=U.i 10/72057594037927936:=(eqI (x:=(U.i 10:Int).fdiv (2^(min (56:Int).toNat IntKind.u64.bits))) (e.at 10 _ rfl rfl) rfl).trans (by rw [show (2:Int)^(min (56:Int).toNat IntKind.u64.bits)=72057594037927936 by decide];exact Qbf (by decide));have v0:U.i 14=(U.i 0%4611686018427387904)/72057594037927936+192:=by
  have w:U.i 14=IntKind.u8.wrap (U.i 13):=eqI (e.at 11 _ rfl rfl) rfl;rw [wr_u8] at w;omega
 have r0:U.s 15=bs [(U.i 0%4611686018427387904)/72057594037927936+192]:=by rw [Qbx (n:=U.i 14) (e.at 12 _ rfl rfl) rfl (by omega) (by omega),v0]
 have k0:U.s 16=U.s 2++U.s 15:=Qct (e.at 13 _ rfl rfl) rfl rfl;have u1:U.i 20=U.i 10/281474976710656:=(eqI (x:=(U.i 10:Int).fdiv (2^(min (48:Int).toNat IntKind.u64.bits))) (e.at 17 _ rfl rfl) rfl).trans (by rw [show (2:Int)^(min (48:Int).toNat IntKind.u64.bits)=281474976710656 by decide];exact Qbf (by decide));have v1:U.i 21=(U.i 0%4611686018427387904)/281474976710656%256:=by
  have w:U.i 21=IntKind.u8.wrap (U.i 20):=eqI (e.at 18 _ rfl rfl) rfl;rw [wr_u8] at w;omega
 have r1:U.s 22=bs [(U.i 0%4611686018427387904)/281474976710656%256]:=by rw [Qbx (n:=U.i 21) (e.at 19 _ rfl rfl) rfl (by omega) (by omega),v1]
 have k1:U.s 23=U.s 16++U.s 22:=Qct (e.at 20 _ rfl rfl) rfl rfl;have u2:U.i 27=U.i 10/1099511627776:=(eqI (x:=(U.i 10:Int).fdiv (2^(min (40:Int).toNat IntKind.u64.bits))) (e.at 24 _ rfl rfl) rfl).trans (by rw [show (2:Int)^(min (40:Int).toNat IntKind.u64.bits)=1099511627776 by decide];exact Qbf (by decide));have v2:U.i 28=(U.i 0%4611686018427387904)/1099511627776%256:=by
  have w:U.i 28=IntKind.u8.wrap (U.i 27):=eqI (e.at 25 _ rfl rfl) rfl;rw [wr_u8] at w;omega
 have r2:U.s 29=bs [(U.i 0%4611686018427387904)/1099511627776%256]:=by rw [Qbx (n:=U.i 28) (e.at 26 _ rfl rfl) rfl (by omega) (by omega),v2]
 have k2:U.s 30=U.s 23++U.s 29:=Qct (e.at 27 _ rfl rfl) rfl rfl;have u3:U.i 34=U.i 10/4294967296:=(eqI (x:=(U.i 10:Int).fdiv (2^(min (32:Int).toNat IntKind.u64.bits))) (e.at 31 _ rfl rfl) rfl).trans (by rw [show (2:Int)^(min (32:Int).toNat IntKind.u64.bits)=4294967296 by decide];exact Qbf (by decide));have v3:U.i 35=(U.i 0%4611686018427387904)/4294967296%256:=by
  have w:U.i 35=IntKind.u8.wrap (U.i 34):=eqI (e.at 32 _ rfl rfl) rfl;rw [wr_u8] at w;omega
 have r3:U.s 36=bs [(U.i 0%4611686018427387904)/4294967296%256]:=by rw [Qbx (n:=U.i 35) (e.at 33 _ rfl rfl) rfl (by omega) (by omega),v3]
 have k3:U.s 37=U.s 30++U.s 36:=Qct (e.at 34 _ rfl rfl) rfl rfl;have u4:U.i 41=U.i 10/16777216:=(eqI (x:=(U.i 10:Int).fdiv (2^(min (24:Int).toNat IntKind.u64.bits))) (e.at 38 _ rfl rfl) rfl).trans (by rw [show (2:Int)^(min (24:Int).toNat IntKind.u64.bits)=16777216 by decide];exact Qbf (by decide));have v4:U.i 42=(U.i 0%4611686018427387904)/16777216%256:=by
  have w:U.i 42=IntKind.u8.wrap (U.i 41):=eqI (e.at 39 _ rfl rfl) rfl;rw [wr_u8] at w;omega
 have r4:U.s 43=bs [(U.i 0%4611686018427387904)/16777216%256]:=by rw [Qbx (n:=U.i 42) (e.at 40 _ rfl rfl) rfl (by omega) (by omega),v4]
 have k4:U.s 44=U.s 37++U.s 43:=Qct (e.at 41 _ rfl rfl) rfl rfl;have u5:U.i 48=U.i 10/65536:=(eqI (x:=(U.i 10:Int).fdiv (2^(min (16:Int).toNat IntKind.u64.bits))) (e.at 45 _ rfl rfl) rfl).trans (by rw [show (2:Int)^(min (16:Int).toNat IntKind.u64.bits)=65536 by decide];exact Qbf (by decide));have v5:U.i 49=(U.i 0%4611686018427387904)/65536%256:=by
  have w:U.i 49=IntKind.u8.wrap (U.i 48):=eqI (e.at 46 _ rfl rfl) rfl;rw [wr_u8] at w;omega
 have r5:U.s 50=bs [(U.i 0%4611686018427387904)/65536%256]:=by rw [Qbx (n:=U.i 49) (e.at 47 _ rfl rfl) rfl (by omega) (by omega),v5]
 have k5:U.s 51=U.s 44++U.s 50:=Qct (e.at 48 _ rfl rfl) rfl rfl;have u6:U.i 55=U.i 10/256:=(eqI (x:=(U.i 10:Int).fdiv (2^(min (8:Int).toNat IntKind.u64.bits))) (e.at 52 _ rfl rfl) rfl).trans (by rw [show (2:Int)^(min (8:Int).toNat IntKind.u64.bits)=256 by decide];exact Qbf (by decide));have v6:U.i 56=(U.i 0%4611686018427387904)/256%256:=by
  have w:U.i 56=IntKind.u8.wrap (U.i 55):=eqI (e.at 53 _ rfl rfl) rfl;rw [wr_u8] at w;omega
 have r6:U.s 57=bs [(U.i 0%4611686018427387904)/256%256]:=by rw [Qbx (n:=U.i 56) (e.at 54 _ rfl rfl) rfl (by omega) (by omega),v6]
 have k6:U.s 58=U.s 51++U.s 57:=Qct (e.at 55 _ rfl rfl) rfl rfl;have u7:U.i 62=U.i 10/1:=(eqI (x:=(U.i 10:Int).fdiv (2^(min (0:Int).toNat IntKind.u64.bits))) (e.at 59 _ rfl rfl) rfl).trans (by rw [show (2:Int)^(min (0:Int).toNat IntKind.u64.bits)=1 by decide];exact Qbf (by decide));have v7:U.i 63=(U.i 0%4611686018427387904)%256:=by
  have w:U.i 63=IntKind.u8.wrap (U.i 62):=eqI (e.at 60 _ rfl rfl) rfl;rw [wr_u8] at w;omega
 have r7:U.s 64=bs [(U.i 0%4611686018427387904)%256]:=by rw [Qbx (n:=U.i 63) (e.at 61 _ rfl rfl) rfl (by omega) (by omega),v7]
 have k7:U.s 65=U.s 58++U.s 64:=Qct (e.at 62 _ rfl rfl) rfl rfl;rw [k7,k6,k5,k4,k3,k2,k1,k0,r0,r1,r2,r3,r4,r5,r6,r7]
 try simp only [ByteArray.append_assoc,Qdu,List.cons_append,List.nil_append]
 unfold pbL pbM;rw [if_neg (by omega),if_neg (by omega),if_neg (by omega)]
theorem l10 {U:Sig} (h1:1073741824<=U.i 0%4611686018427387904) (h2:U.i 0%4611686018427387904<4611686018427387904):(pbL (U.i 0)).length=8:=by
 unfold pbL pbM;rw [if_neg (by omega),if_neg (by omega),if_neg (by omega)];rfl
theorem o69 {U:Sig} (e:Eqs U 3 wb9G) (h:Pl U) (h1:16384<=U.i 0%4611686018427387904) (h2:U.i 0%4611686018427387904<1073741824):U.i 69=U.i 0%4611686018427387904+2147483648:=by
 have b:U.i 69=IntKind.u64.wrap (BitVec.ofInt IntKind.u64.bits (U.i 3)|||BitVec.ofInt IntKind.u64.bits (2147483648)).toNat:=eqI (e.at 66 _ rfl rfl) rfl;rw [b,p3 e h];exact Qry 30 2 (by decide) (by omega) (by omega) (by decide)
theorem c69 {U:Sig} (e:Eqs U 3 wb9G) (h:Pl U) (h1:16384<=U.i 0%4611686018427387904) (h2:U.i 0%4611686018427387904<1073741824):U.s 85=U.s 2++bs (pbL (U.i 0)):=by
 have a:=o69 e h h1 h2;have u0:U.i 70=U.i 69/16777216:=(eqI (x:=(U.i 69:Int).fdiv (2^(min (24:Int).toNat IntKind.u64.bits))) (e.at 67 _ rfl rfl) rfl).trans (by rw [show (2:Int)^(min (24:Int).toNat IntKind.u64.bits)=16777216 by decide];exact Qbf (by decide));have v0:U.i 71=(U.i 0%4611686018427387904)/16777216+128:=by
  have w:U.i 71=IntKind.u8.wrap (U.i 70):=eqI (e.at 68 _ rfl rfl) rfl;rw [wr_u8] at w;omega
 have r0:U.s 72=bs [(U.i 0%4611686018427387904)/16777216+128]:=by rw [Qbx (n:=U.i 71) (e.at 69 _ rfl rfl) rfl (by omega) (by omega),v0]
 have k0:U.s 73=U.s 2++U.s 72:=Qct (e.at 70 _ rfl rfl) rfl rfl;have u1:U.i 74=U.i 69/65536:=(eqI (x:=(U.i 69:Int).fdiv (2^(min (16:Int).toNat IntKind.u64.bits))) (e.at 71 _ rfl rfl) rfl).trans (by rw [show (2:Int)^(min (16:Int).toNat IntKind.u64.bits)=65536 by decide];exact Qbf (by decide));have v1:U.i 75=(U.i 0%4611686018427387904)/65536%256:=by
  have w:U.i 75=IntKind.u8.wrap (U.i 74):=eqI (e.at 72 _ rfl rfl) rfl;rw [wr_u8] at w;omega
 have r1:U.s 76=bs [(U.i 0%4611686018427387904)/65536%256]:=by rw [Qbx (n:=U.i 75) (e.at 73 _ rfl rfl) rfl (by omega) (by omega),v1]
 have k1:U.s 77=U.s 73++U.s 76:=Qct (e.at 74 _ rfl rfl) rfl rfl;have u2:U.i 78=U.i 69/256:=(eqI (x:=(U.i 69:Int).fdiv (2^(min (8:Int).toNat IntKind.u64.bits))) (e.at 75 _ rfl rfl) rfl).trans (by rw [show (2:Int)^(min (8:Int).toNat IntKind.u64.bits)=256 by decide];exact Qbf (by decide));have v2:U.i 79=(U.i 0%4611686018427387904)/256%256:=by
  have w:U.i 79=IntKind.u8.wrap (U.i 78):=eqI (e.at 76 _ rfl rfl) rfl;rw [wr_u8] at w;omega
 have r2:U.s 80=bs [(U.i 0%4611686018427387904)/256%256]:=by rw [Qbx (n:=U.i 79) (e.at 77 _ rfl rfl) rfl (by omega) (by omega),v2]
 have k2:U.s 81=U.s 77++U.s 80:=Qct (e.at 78 _ rfl rfl) rfl rfl;have u3:U.i 82=U.i 69/1:=(eqI (x:=(U.i 69:Int).fdiv (2^(min (0:Int).toNat IntKind.u64.bits))) (e.at 79 _ rfl rfl) rfl).trans (by rw [show (2:Int)^(min (0:Int).toNat IntKind.u64.bits)=1 by decide];exact Qbf (by decide));have v3:U.i 83=(U.i 0%4611686018427387904)%256:=by
  have w:U.i 83=IntKind.u8.wrap (U.i 82):=eqI (e.at 80 _ rfl rfl) rfl;rw [wr_u8] at w;omega
 have r3:U.s 84=bs [(U.i 0%4611686018427387904)%256]:=by rw [Qbx (n:=U.i 83) (e.at 81 _ rfl rfl) rfl (by omega) (by omega),v3]
 have k3:U.s 85=U.s 81++U.s 84:=Qct (e.at 82 _ rfl rfl) rfl rfl;rw [k3,k2,k1,k0,r0,r1,r2,r3]
 try simp only [ByteArray.append_assoc,Qdu,List.cons_append,List.nil_append]
 unfold pbL pbM
 repeat (first|rw [if_pos (by omega)]|rw [if_neg (by omega)])
theorem l69 {U:Sig} (h1:16384<=U.i 0%4611686018427387904) (h2:U.i 0%4611686018427387904<1073741824):(pbL (U.i 0)).length=4:=by
 unfold pbL pbM
 repeat (first|rw [if_pos (by omega)]|rw [if_neg (by omega)])
 rfl
theorem o86 {U:Sig} (e:Eqs U 3 wb9G) (h:Pl U) (h1:64<=U.i 0%4611686018427387904) (h2:U.i 0%4611686018427387904<16384):U.i 86=U.i 0%4611686018427387904+16384:=by
 have b:U.i 86=IntKind.u64.wrap (BitVec.ofInt IntKind.u64.bits (U.i 3)|||BitVec.ofInt IntKind.u64.bits (16384)).toNat:=eqI (e.at 83 _ rfl rfl) rfl;rw [b,p3 e h];exact Qry 14 1 (by decide) (by omega) (by omega) (by decide)
theorem c86 {U:Sig} (e:Eqs U 3 wb9G) (h:Pl U) (h1:64<=U.i 0%4611686018427387904) (h2:U.i 0%4611686018427387904<16384):U.s 94=U.s 2++bs (pbL (U.i 0)):=by
 have a:=o86 e h h1 h2;have u0:U.i 87=U.i 86/256:=(eqI (x:=(U.i 86:Int).fdiv (2^(min (8:Int).toNat IntKind.u64.bits))) (e.at 84 _ rfl rfl) rfl).trans (by rw [show (2:Int)^(min (8:Int).toNat IntKind.u64.bits)=256 by decide];exact Qbf (by decide));have v0:U.i 88=(U.i 0%4611686018427387904)/256+64:=by
  have w:U.i 88=IntKind.u8.wrap (U.i 87):=eqI (e.at 85 _ rfl rfl) rfl;rw [wr_u8] at w;omega
 have r0:U.s 89=bs [(U.i 0%4611686018427387904)/256+64]:=by rw [Qbx (n:=U.i 88) (e.at 86 _ rfl rfl) rfl (by omega) (by omega),v0]
 have k0:U.s 90=U.s 2++U.s 89:=Qct (e.at 87 _ rfl rfl) rfl rfl;have u1:U.i 91=U.i 86/1:=(eqI (x:=(U.i 86:Int).fdiv (2^(min (0:Int).toNat IntKind.u64.bits))) (e.at 88 _ rfl rfl) rfl).trans (by rw [show (2:Int)^(min (0:Int).toNat IntKind.u64.bits)=1 by decide];exact Qbf (by decide));have v1:U.i 92=(U.i 0%4611686018427387904)%256:=by
  have w:U.i 92=IntKind.u8.wrap (U.i 91):=eqI (e.at 89 _ rfl rfl) rfl;rw [wr_u8] at w;omega
 have r1:U.s 93=bs [(U.i 0%4611686018427387904)%256]:=by rw [Qbx (n:=U.i 92) (e.at 90 _ rfl rfl) rfl (by omega) (by omega),v1]
 have k1:U.s 94=U.s 90++U.s 93:=Qct (e.at 91 _ rfl rfl) rfl rfl;rw [k1,k0,r0,r1]
 try simp only [ByteArray.append_assoc,Qdu,List.cons_append,List.nil_append]
 unfold pbL pbM
 repeat (first|rw [if_pos (by omega)]|rw [if_neg (by omega)])
theorem l86 {U:Sig} (h1:64<=U.i 0%4611686018427387904) (h2:U.i 0%4611686018427387904<16384):(pbL (U.i 0)).length=2:=by
 unfold pbL pbM
 repeat (first|rw [if_pos (by omega)]|rw [if_neg (by omega)])
 rfl
theorem o95 {U:Sig} (e:Eqs U 3 wb9G) (h:Pl U) (h1:0<=U.i 0%4611686018427387904) (h2:U.i 0%4611686018427387904<64):U.i 95=U.i 0%4611686018427387904+0:=by
 have b:U.i 95=IntKind.u64.wrap (BitVec.ofInt IntKind.u64.bits (U.i 3)|||BitVec.ofInt IntKind.u64.bits (0)).toNat:=eqI (e.at 92 _ rfl rfl) rfl;rw [b,p3 e h];exact Qry 6 0 (by decide) (by omega) (by omega) (by decide)
theorem c95 {U:Sig} (e:Eqs U 3 wb9G) (h:Pl U) (h1:0<=U.i 0%4611686018427387904) (h2:U.i 0%4611686018427387904<64):U.s 99=U.s 2++bs (pbL (U.i 0)):=by
 have a:=o95 e h h1 h2;have u0:U.i 96=U.i 95/1:=(eqI (x:=(U.i 95:Int).fdiv (2^(min (0:Int).toNat IntKind.u64.bits))) (e.at 93 _ rfl rfl) rfl).trans (by rw [show (2:Int)^(min (0:Int).toNat IntKind.u64.bits)=1 by decide];exact Qbf (by decide));have v0:U.i 97=U.i 0%4611686018427387904:=by
  have w:U.i 97=IntKind.u8.wrap (U.i 96):=eqI (e.at 94 _ rfl rfl) rfl;rw [wr_u8] at w;omega
 have r0:U.s 98=bs [U.i 0%4611686018427387904]:=by rw [Qbx (n:=U.i 97) (e.at 95 _ rfl rfl) rfl (by omega) (by omega),v0]
 have k0:U.s 99=U.s 2++U.s 98:=Qct (e.at 96 _ rfl rfl) rfl rfl;rw [k0,r0]
 try simp only [ByteArray.append_assoc,Qdu,List.cons_append,List.nil_append]
 unfold pbL pbM
 repeat (first|rw [if_pos (by omega)]|rw [if_neg (by omega)])
theorem l95 {U:Sig} (h1:0<=U.i 0%4611686018427387904) (h2:U.i 0%4611686018427387904<64):(pbL (U.i 0)).length=1:=by
 unfold pbL pbM
 repeat (first|rw [if_pos (by omega)]|rw [if_neg (by omega)])
 rfl
theorem E9 {g:Inj} {w:World} {U:Sig} {l:Asg} {hH:HRel (cx0 Qa) g sf9.pre w} {hg:g.sig.tab=Qa} (h:Qhw (asgS U l) g.sig [(6,.symi .i64 6),(4,.syms 4),(6,.symi .i64 6)]) (hx:U.ext=g.sig.ext):
  EndZ Qa 42 (Qu g w sf9.pre.length) (bodyPost Tryd.prog Tryd.f28 (MemR Qa sf9 g w)) .ret wbE9 (asgS U l):=
 Qb8 (M:=7) (l:=[(6,.symi .i64 6),(4,.syms 4),(6,.symi .i64 6)]) (vs:=[.lsl 1 1 true (.int .i64 0) (.symi .i64 6)]) (by kernel_rfl) rfl rfl hH hg rfl rfl rfl (by kernel_rfl) (by kernel_rfl) h (by decide) hx (.inl rfl)
set_option maxHeartbeats 0 in
theorem c9:SymFOk Tryd.prog Qa (fun _=>True) sf9:=
  Qb5 Tryd.func28 rfl (n:=42) rfl (by decide) (by decide) rfl rfl (by kernel_rfl) (fun g w hg _ hE hI hpc hH=>by
    refine Qf.last mixed Qbol ⟨rfl,rfl⟩ (fun V U ag h=>h.trans' ag) (fun U h=>Qv) (fun U e ht hi ag=> ?_) (pin0 (by kernel_rfl))
    . have hx:U.ext=g.sig.ext:=ag.ext.symm
      have q0:=hpc (.bin .leq (.int .i64 0) (.symi .i64 1)) (by simp [sf9]);have q1:=hpc (.bin .leq (.symi .i64 1) (.int .i64 1000000)) (by simp [sf9]);simp only [Qb,den,binS,intA,if_true,Option.some.injEq,AVal.bool.injEq,decide_eq_true_eq] at q0 q1;have i0:=hi 0 .u64 (by decide) rfl;rw [Qg] at i0;have a0:=(ag.val 0 (by decide)).1;have a1:=(ag.val 1 (by decide)).1;have a2:=(ag.val 2 (by decide)).2.2;have hp:Pl U:=⟨by omega,by omega,by omega,by omega⟩;have g3:g.sig.s 3=bs (pbL (U.i 0)):=by
        have h3:g.sig.s 3=decS (g.sig.tab 192 [g.sig.i 0]):=eqFs (hE.at 0 _ rfl rfl);rw [hg,lg_pb,a0] at h3;exact h3
      have g4:g.sig.s 4=U.s 2++bs (pbL (U.i 0)):=by
        have h4:g.sig.s 4=g.sig.s 2++g.sig.s 3:=Qct (hE.at 1 _ rfl rfl) rfl rfl;rw [a2,g3] at h4;exact h4
      have g6:g.sig.i 6=U.i 1+((pbL (U.i 0)).length:Int):=by
        have h5:g.sig.i 5=IntKind.i64.wrap (g.sig.tab 193 [g.sig.i 0]):=eqI (hE.at 2 _ rfl rfl) rfl;have h6:g.sig.i 6=IntKind.i64.wrap (g.sig.i 1+g.sig.i 5):=eqI (hE.at 3 _ rfl rfl) rfl;have hl:=Qcc (U.i 0);rw [hg,lg_pl,a0,Qh] at h5;rw [Qh] at h6;omega
      refine Qp ?_;exact ⟨fun f0=>⟨fun f1=>⟨fun f2=>⟨fun f3=>⟨fun f4=>⟨fun f5=>⟨fun f6=>⟨fun f7=>⟨fun f8=>⟨fun f9=>⟨fun f10=>⟨fun f11=>⟨fun f12=>⟨fun f13=>⟨fun f14=>⟨fun f15=>⟨fun f16=>⟨fun f17=>⟨fun f18=>⟨fun f19=>⟨fun f20=>(by have g5:=p5 e hp;rw [f0] at g5;have g5:=of_decide_eq_true g5.symm;have g7:=p7 e hp;rw [f1] at g7;have g7:=of_decide_eq_true g7.symm;have g9:=p9 e hp;rw [f2] at g9;have g9:=of_decide_eq_true g9.symm;have cc:=c10 e hp (by omega) (by omega);have ll:=l10 (U:=U) (by omega) (by omega);have ss:=s66 e hp;exact E9 (hH:=hH) (hg:=hg) ⟨(show AVal.int .i64 (U.i 66)=.int .i64 (g.sig.i 6) by rw [g6,ss,ll];rfl),(show AVal.str (U.s 65)=.str (g.sig.s 4) by rw [g4,cc]),(show AVal.int .i64 (U.i 66)=.int .i64 (g.sig.i 6) by rw [g6,ss,ll];rfl),trivial⟩ hx),
 fun f20=>(by exact t68 e hp f20)⟩,
 fun f19=>(by exact t67 e hp f19)⟩,
 fun f18=>(by exact t61 e hp f18)⟩,
 fun f17=>(by exact t60 e hp f17)⟩,
 fun f16=>(by exact t54 e hp f16)⟩,
 fun f15=>(by exact t53 e hp f15)⟩,
 fun f14=>(by exact t47 e hp f14)⟩,
 fun f13=>(by exact t46 e hp f13)⟩,
 fun f12=>(by exact t40 e hp f12)⟩,
 fun f11=>(by exact t39 e hp f11)⟩,
 fun f10=>(by exact t33 e hp f10)⟩,
 fun f9=>(by exact t32 e hp f9)⟩,
 fun f8=>(by exact t26 e hp f8)⟩,
 fun f7=>(by exact t25 e hp f7)⟩,
 fun f6=>(by exact t19 e hp f6)⟩,
 fun f5=>(by exact t18 e hp f5)⟩,
 fun f4=>(by exact t12 e hp f4)⟩,
 fun f3=>(by exact t11 e hp f3)⟩,
 fun f2=>⟨fun f3=>⟨fun f4=>⟨fun f5=>⟨fun f6=>⟨fun f7=>⟨fun f8=>⟨fun f9=>⟨fun f10=>⟨fun f11=>⟨fun f12=>(by have g5:=p5 e hp;rw [f0] at g5;have g5:=of_decide_eq_true g5.symm;have g7:=p7 e hp;rw [f1] at g7;have g7:=of_decide_eq_true g7.symm;have g9:=p9 e hp;rw [f2] at g9;have g9:=of_decide_eq_false g9.symm;have cc:=c69 e hp (by omega) (by omega);have ll:=l69 (U:=U) (by omega) (by omega);have ss:=s38 e hp;exact E9 (hH:=hH) (hg:=hg) ⟨(show AVal.int .i64 (U.i 38)=.int .i64 (g.sig.i 6) by rw [g6,ss,ll];rfl),(show AVal.str (U.s 85)=.str (g.sig.s 4) by rw [g4,cc]),(show AVal.int .i64 (U.i 38)=.int .i64 (g.sig.i 6) by rw [g6,ss,ll];rfl),trivial⟩ hx),
 fun f12=>(by exact t40 e hp f12)⟩,
 fun f11=>(by exact t39 e hp f11)⟩,
 fun f10=>(by exact t33 e hp f10)⟩,
 fun f9=>(by exact t32 e hp f9)⟩,
 fun f8=>(by exact t26 e hp f8)⟩,
 fun f7=>(by exact t25 e hp f7)⟩,
 fun f6=>(by exact t19 e hp f6)⟩,
 fun f5=>(by exact t18 e hp f5)⟩,
 fun f4=>(by exact t12 e hp f4)⟩,
 fun f3=>(by exact t11 e hp f3)⟩⟩,
 fun f1=>⟨fun f2=>⟨fun f3=>⟨fun f4=>⟨fun f5=>⟨fun f6=>⟨fun f7=>(by have g5:=p5 e hp;rw [f0] at g5;have g5:=of_decide_eq_true g5.symm;have g7:=p7 e hp;rw [f1] at g7;have g7:=of_decide_eq_false g7.symm;have cc:=c86 e hp (by omega) (by omega);have ll:=l86 (U:=U) (by omega) (by omega);have ss:=s24 e hp;exact E9 (hH:=hH) (hg:=hg) ⟨(show AVal.int .i64 (U.i 24)=.int .i64 (g.sig.i 6) by rw [g6,ss,ll];rfl),(show AVal.str (U.s 94)=.str (g.sig.s 4) by rw [g4,cc]),(show AVal.int .i64 (U.i 24)=.int .i64 (g.sig.i 6) by rw [g6,ss,ll];rfl),trivial⟩ hx),
 fun f7=>(by exact t26 e hp f7)⟩,
 fun f6=>(by exact t25 e hp f6)⟩,
 fun f5=>(by exact t19 e hp f5)⟩,
 fun f4=>(by exact t18 e hp f4)⟩,
 fun f3=>(by exact t12 e hp f3)⟩,
 fun f2=>(by exact t11 e hp f2)⟩⟩,
 fun f0=>⟨fun f1=>⟨fun f2=>⟨fun f3=>⟨fun f4=>(by have g5:=p5 e hp;rw [f0] at g5;have g5:=of_decide_eq_false g5.symm;have cc:=c95 e hp (by omega) (by omega);have ll:=l95 (U:=U) (by omega) (by omega);have ss:=s17 e hp;exact E9 (hH:=hH) (hg:=hg) ⟨(show AVal.int .i64 (U.i 17)=.int .i64 (g.sig.i 6) by rw [g6,ss,ll];rfl),(show AVal.str (U.s 99)=.str (g.sig.s 4) by rw [g4,cc]),(show AVal.int .i64 (U.i 17)=.int .i64 (g.sig.i 6) by rw [g6,ss,ll];rfl),trivial⟩ hx),
 fun f4=>(by exact t19 e hp f4)⟩,
 fun f3=>(by exact t18 e hp f3)⟩,
 fun f2=>(by exact t12 e hp f2)⟩,
 fun f1=>(by exact t11 e hp f1)⟩⟩)
end p9
end Go.Proofs.YtelimhjceiamcaaDoor.lg
namespace Go.Lgp
open Go.Ev Go.RowKit Go.Wbp
theorem Qbl {V:Sig} {i a j:Nat} {b:AVal} {k kk:IntKind} {n:Int} {cl:List (Option IntKind)} (h:Qb V (.sop (.cell cl j) [.syms a,b])=some (den V (.symi k i))) (hb:den V b=.int kk n):V.i i=iOf (Qm cl (V.s a) n.toNat j):=by
 simp only [Qb,List.map,hb] at h;have h:some (Qm cl (V.s a) n.toNat j)=some (.int k (V.i i)):=h;rw [Option.some.injEq] at h;rw [h];rfl
theorem Qbbf {c x y:Bool}:((bif c then x else y)=true)↔((c=true/\x=true)\/(¬c=true/\y=true)):=by cases c<;>simp
theorem Qbkd {b:Bool}:((!b)=true)↔ ¬(b=true):=by cases b<;>simp
theorem Qbct {b:Bool}:(b=false)↔ ¬(b=true):=by cases b<;>simp
theorem Q9h:(false=true)↔False:=by simp
theorem Qbn9:(true=true)↔True:=by simp
theorem sb:(∀{c x y:Bool},((bif c then x else y)=true)↔((c=true/\x=true)\/(¬c=true/\y=true)))/\(∀{b:Bool},((!b)=true)↔ ¬(b=true))/\(∀{b:Bool},(b=false)↔ ¬(b=true))/\((false=true)↔False)/\((true=true)↔True)/\
  (∀(p:Prop) [Decidable p],(decide p=true)=p)/\(∀p:Prop,(p/\True)=p)/\(∀p:Prop,(True/\p)=p)/\(∀p:Prop,(p/\False)=False)/\(∀p:Prop,(False/\p)=False)/\(∀p:Prop,(p\/False)=p)/\(∀p:Prop,(False\/p)=p)/\((¬True)=False)/\((¬False)=True)/\(∀{p:Prop},¬¬p↔p)/\(∀{α:Type} [BEq α] [LawfulBEq α] {x y:α},((x==y)=true)↔x=y):=
 ⟨Qbbf,Qbkd,Qbct,Q9h,Qbn9,fun p _=>decide_eq_true_eq,and_true,true_and,and_false,false_and,or_false,false_or,not_true_eq_false,not_false_eq_true,Classical.not_not,beq_iff_eq⟩
theorem Qll {a b:En}:behind a b=true↔(b.r<=1099511627776/\b.b<=b.r/\a.b<=b.b/\((b.k=255/\a.r<=b.r)\/(¬b.k=255/\b.r=a.r/\a.k<b.k/\b.b=a.b)\/(¬b.k=255/\ ¬b.r=a.r/\a.r<b.r))):=by
 unfold behind most;split;simp only [Q9h,false_iff];omega;split;simp only [decide_eq_true_eq];omega;split;simp only [decide_eq_true_eq];omega;simp only [decide_eq_true_eq];omega
theorem Qso {a b:En}:Qcx a b=true↔(0<=b.k/\b.k<=2/\b.r<=1099511627776/\b.b<=b.r/\a.b<=b.b/\((b.r=a.r/\a.k<b.k/\b.b=a.b)\/a.r<b.r)):=by
 unfold Qcx;rw [Bool.and_eq_true,Qll,decide_eq_true_eq];omega
theorem Qhl {l:Lg}:right l=true↔(Qc9 noE l.es l.fin=true/\0<=l.cyc/\l.cyc<=1073741824/\0<=l.out/\l.out<=6):=by
 unfold right;rw [Bool.and_eq_true,decide_eq_true_eq]
def Qj (d:En) (C:ByteArray):Nat->En
 |0=>d
 |i+1=>rowE C i
theorem Q8b {C:ByteArray} {N i:Nat} {e:En} (d:En) (h:i<N):Qc9 (Qj d C i) ((lstE C N).drop i) e=(Qcx (Qj d C i) (rowE C i)&&Qc9 (Qj d C (i+1)) ((lstE C N).drop (i+1)) e):=by
 rw [Qbjg h];rfl
theorem Q8a {C:ByteArray} {N:Nat} {d e:En}:Qc9 (Qj d C N) ((lstE C N).drop N) e=behind (Qj d C N) e:=by
 rw [List.drop_of_length_le (by rw [Qwb];exact Nat.le_refl _)];rfl
theorem Qhc (a b:List Int):(a++b).length=a.length+b.length:=List.length_append
theorem Q19: ∀(d:En) (l:List En) (x:En),Qk d (l++[x])=x
 |_,[],_=>rfl
 |_,y::l,x=>Q19 y l x
theorem Qtt (C:ByteArray): ∀n,(draL C n).length=n
 |0=>rfl
 |n+1=>by simp [draL,Qtt C n]
structure DrOk (a:En) (n:Nat):Prop where
 b0:0<=a.b
 br:a.b<=a.r
 r:a.r<=65536*(n:Int)
 k0: -1<=a.k
 k2:a.k<=2
 v0:0<=a.v
 v1:a.v<256
theorem Qts {a:En} {n:Nat} (h:DrOk a n) (C:ByteArray) (j:Nat):DrOk (Qc3 a (rowD C j)) (n+1)/\(n<1000000->Qcx a (Qc3 a (rowD C j))=true):=by
 obtain ⟨⟨m0,m1⟩,⟨t0,t1⟩,⟨k0,k1⟩,v0,v1⟩:=Q8d C j;obtain ⟨h1,h2,h3,h4,h5,_,_⟩:=h;generalize rowD C j=d at m0 m1 t0 t1 k0 k1 v0 v1;have q: ∃r b:Int,Qc3 a d=⟨r,b,d.k%3,d.v⟩/\((r=a.r+d.m+1/\d.m=0/\d.k%3<=a.k)\/(r=a.r+d.m/\ ¬(d.m=0/\d.k%3<=a.k)))/\((a.r<r/\b<=r/\a.b<=b)\/(¬a.r<r/\b=a.b)):=by
  refine ⟨_,_,rfl,?_,?_⟩;split;rename_i c;exact .inl ⟨rfl,c⟩;rename_i c;exact .inr ⟨rfl,c⟩;generalize (if d.m=0/\d.k%3<=a.k then a.r+d.m+1 else a.r+d.m)=r at*;split;rename_i c;refine .inl ⟨c,Int.min_le_left _ _,?_⟩;omega;rename_i c;exact .inr ⟨c,rfl⟩
 obtain ⟨r,b,e,q1,q2⟩:=q;rw [e];refine ⟨⟨by show 0<=b;omega,by show b<=r;omega,?_,by show-1<=d.k%3;omega,by show d.k%3<=2;omega,v0,v1⟩,fun hn=> ?_⟩;show r<=_
 push_cast
 omega;rw [Qso];show 0<=d.k%3/\d.k%3<=2/\r<=1099511627776/\b<=r/\a.b<=b/\((r=a.r/\a.k<d.k%3/\b=a.b)\/a.r<r);omega
theorem Qbj5:DrOk noE 0:=⟨by decide,by decide,by decide,by decide,by decide,by decide,by decide⟩
theorem Qh0 (C:ByteArray): ∀n,DrOk (Qk noE (draL C n)) n
 |0=>Qbj5
 |n+1=>by
  rw [draL,Q19];exact (Qts (Qh0 C n) C n).1
theorem DrOk.val {a:En} {n:Nat} (h:DrOk a n) (hn:n<1000000):okV a:=by
 obtain ⟨h1,h2,h3,h4,h5,h6,h7⟩:=h;refine ⟨?_,?_,?_,?_⟩;rw [Qg];omega;rw [Qg];omega;rw [Qh];omega;rw [wr_u8];omega
theorem Qz0 (C:ByteArray): ∀n,n<1000000-> ∀x,x∈draL C n->okV x
 |0,_,x,hx=>by simp [draL] at hx
 |n+1,hn,x,hx=>by
  rw [draL,List.mem_append] at hx;rcases hx with hx|hx
  exact Qz0 C n (by omega) x hx;simp only [List.mem_singleton] at hx;subst hx;exact (Qts (Qh0 C n) C n).1.val hn
def Qd9:En->List En->Bool
 |_,[]=>true
 |d,x::l=>Qcx d x&&Qd9 x l
theorem Qxa: ∀(d:En) (l:List En) (e:En),Qc9 d l e=(Qd9 d l&&behind (Qk d l) e)
 |_,[],_=>rfl
 |d,x::l,e=>by
  show (Qcx d x&&Qc9 x l e)=(Qcx d x&&Qd9 x l&&behind (Qk x l) e);rw [Qxa x l e,Bool.and_assoc]
theorem Qs7: ∀(d:En) (l:List En) (x:En),Qd9 d (l++[x])=(Qd9 d l&&Qcx (Qk d l) x)
 |d,[],x=>by show (Qcx d x&&true)=(true&&Qcx d x);simp
 |d,y::l,x=>by
  show (Qcx d y&&Qd9 y (l++[x]))=(Qcx d y&&Qd9 y l&&Qcx (Qk y l) x);rw [Qs7 y l x,Bool.and_assoc]
theorem Qzz (C:ByteArray): ∀n,n<1000000->Qd9 noE (draL C n)=true
 |0,_=>rfl
 |n+1,hn=>by
  rw [draL,Qs7,Qzz C n (by omega),(Qts (Qh0 C n) C n).2 (by omega)];rfl
theorem Qbbu {img:Int} {C:ByteArray} {n:Nat} {m t k:Int} (hm:0<=m/\m<65536) (ht:0<=t/\t<65536) (hk:0<=k/\k<256):right (draG img C n m t k)=true:=by
 have h:=Qh0 C (min n 60);obtain ⟨h1,h2,h3,h4,h5,h6,h7⟩:=h;have hn:min n 60<=60:=by omega
 rw [Qhl,Qxa];show (Qd9 noE (draL C (min n 60))&&behind (Qk noE (draL C (min n 60))) ⟨(Qk noE (draL C (min n 60))).r+m,min ((Qk noE (draL C (min n 60))).r+m) ((Qk noE (draL C (min n 60))).b+t),255,0⟩)=true/\0<=m*100/\m*100<=1073741824/\0<=k%7/\k%7<=6;rw [Qzz C _ (by omega),Bool.true_and,Qll];generalize Qk noE (draL C (min n 60))=a at*;show (a.r+m<=1099511627776/\min (a.r+m) (a.b+t)<=a.r+m/\a.b<=min (a.r+m) (a.b+t)/\((255:Int)=255/\a.r<=a.r+m\/_))/\_;omega
theorem Qt6: ∀(P:List Int) (d:En) (l:List En) (x:En),encS P d (l++[x])=encS P d l++entB (Qk d l) x++[sumL (encS P d l++entB (Qk d l) x)]
 |_,_,[],_=>rfl
 |P,d,y::l,x=>by
  show encS (P++entB d y++[sumL (P++entB d y)]) y (l++[x])=_;rw [Qt6];rfl
theorem Qju: ∀(d:En) (l:List En) (x:En),Qk d (l++[x])=x
 |_,[],_=>rfl
 |_,y::l,x=>Qju y l x
theorem Q18 (d:En) (C:ByteArray): ∀i,Qk d (lstE C i)=Qj d C i
 |0=>rfl
 |i+1=>by rw [Qwc,Qju];rfl
def encI (img:Int) (C:ByteArray) (i:Nat):List Int:=encS (head img) zeE (lstE C i)
theorem Qpn (img:Int) (C:ByteArray) (i:Nat):encI img C (i+1)=encI img C i++entB (Qj zeE C i) (rowE C i)++[sumL (encI img C i++entB (Qj zeE C i) (rowE C i))]:=by
 unfold encI;rw [Qwc,Qt6,Q18]
theorem Qt8 (d x:En):4<=(entB d x).length/\(entB d x).length<=18:=by
 have h1:=Qcc (x.r-d.r);have h2:=Qcc (x.b-d.b);simp only [entB,List.length_append,List.length_cons,List.length_nil];omega
theorem Qje (img:Int) (C:ByteArray): ∀i,(encI img C i).length<=7+19*i
 |0=>by show (head img).length<=_;simp [head]
 |i+1=>by
  have h:=Qje img C i;have h2:=Qt8 (Qj zeE C i) (rowE C i);rw [Qpn];simp only [List.length_append,List.length_cons,List.length_nil];omega
theorem Q0y (d:En) (l:Lg):5<=(finB d l).length/\(finB d l).length<=26:=by
 have h1:=Qcc l.cyc;have h2:=Qcc (l.ret-d.r);have h3:=Qcc (l.br-d.b);simp only [finB,List.length_append,List.length_cons,List.length_nil];omega
def By (l:List Int):Prop:= ∀x∈l,0<=x/\x<256
theorem By.app {l m:List Int} (h:By l) (g:By m):By (l++m):=fun x hx=>by
 rcases List.mem_append.1 hx with h1|h1;exact h x h1;exact g x h1
theorem By.one {x:Int} (h:0<=x/\x<256):By [x]:=fun y hy=>by
 simp only [List.mem_cons,List.not_mem_nil,or_false] at hy;subst hy;exact h
theorem Qt7 (d x:En):By (entB d x):=
 (((By.one (by omega)).app (Qkn _)).app (Qkn _)).app (By.one (by omega))
theorem Q0x (d:En) (l:Lg):By (finB d l):=
 ((((By.one (by omega)).app (Qkn _)).app (Qkn _)).app (Qkn _)).app (By.one (by omega))
theorem Q1n (img:Int):By (head img):=fun x hx=>by
 simp only [head,List.mem_cons,List.not_mem_nil,or_false] at hx;rcases hx with rfl|rfl|rfl|rfl|rfl|rfl|rfl<;>omega
theorem Q0h: ∀{P:List Int} {d:En} {l:List En},By P->By (encS P d l)
 |_,_,[],h=>h
 |P,d,x::l,h=>Q0h (l:=l) ((h.app (Qt7 d x)).app (By.one (Qd5 _)))
theorem Qpm (img:Int) (C:ByteArray) (i:Nat):By (encI img C i):=Q0h (Q1n img)
theorem Qbdk {l:List Int} (h:By l):ints (bs l)=l:=by
 apply List.ext_getElem;rw [Qqh,Qbk];intro j h1 h2;have e:=Qy2 h h2;have e2:=Q1w (bs l) j (by rw [Qbk];exact h2);rw [e,List.getD_eq_getElem?_getD,List.getD_eq_getElem?_getD,List.getElem?_eq_getElem h1,List.getElem?_eq_getElem h2] at e2;simpa using e2
theorem Qoj {l:List Int} (h:By l):sumS (bs l)=sumL l:=by
 unfold sumS;rw [Qbdk h]
theorem Qw1 (n:Int):pbL (n%18446744073709551616)=pbL n:=by
 unfold pbL;rw [Int.emod_emod_of_dvd n (by decide)]
theorem Q0a (img:Int) (C:ByteArray) (n:Nat) (c r b o:Int):encG ⟨img,lstE C n,c,r,b,o⟩=encI img C n++finB (Qj zeE C n) ⟨img,lstE C n,c,r,b,o⟩++[sumL (encI img C n++finB (Qj zeE C n) ⟨img,lstE C n,c,r,b,o⟩)]:=by
 unfold encG encP;rw [Q18];rfl
end Go.Lgp
set_option maxRecDepth 100000
namespace Go.Proofs.YtelimhjceiamcaaDoor.lg
open Go.Ev Go.RowKit Go.Wbp Go.Lgp
open Go.Proofs.YtelimhjceiamcaaDoor.lgn (mixed sf48 Qbu)
def Qj3:List (Option IntKind):=[none]
def Qbi3:Shape:=⟨argT 0 [.iface 92 (.ptr 0 0),.s 0],[.cells [.int .u8 0] 90]⟩
def Qq6:Shape:=⟨[(0,.iface 92 (.ptr 0 0)),(1,.s 0),(6,.i 1),(7,.i 2)],[.cells [.c 3] 90]⟩
def Q5p:List (Option IntKind):=[none,none,some .i64,some .u8]
def Q5j:Shape:=⟨[(0,.iface 92 (.ptr 0 0))],[.cells [.c 2] 90]⟩
def sf37:SymF:=
 {f:=37,m:=1,ins:=Qj3,args:=[.iface 92 (.ptr 0 0),.s 0],pre:=[.cells [.int .u8 0] 90],pcs:=[.q .leq (.i 1) (.z 1000000)],
  G:=[.sop .len [.s 0],.fn 384 .u8 [.s 0]],v:=.tuple [],post:=[.cells [.c 2] 90]}
def Qbi0:Shape:=⟨argT 0 [.s 0],[]⟩
def Qbit:Shape:=⟨[(2,.c 2)],[]⟩
def sf20:SymF:=
 {f:=20,m:=1,ins:=Qj3,args:=[.s 0],pre:=[],pcs:=[.q .leq (.i 1) (.z 1000000)],
  G:=[.sop .len [.s 0],.fn 384 .u8 [.s 0]],v:=.c 2,post:=[]}
def Qm8:List SDef:=[.sop .len [.s 0]]
def Q4e:LT:=Go.Wbp.fT 1 Qm8 (.n .e 7086 1 .e)
def Qbhd:Sw:=.run (.leaf .normal Qq6 [(0,0)] [(0,.s 0),(1,.i 1),(2,.z 0),(3,.int .u8 0)] [])
def Qbhc:KdT:=kdN 0x0 2 1 0
noncomputable def Q4f:Ing:={m:=1,ins:=Qj3,G:=Qm8,T:=Q4e,tab:=Qa,lsts:=Qs,kb:=2,kt:=Qbhc}
theorem Qbhe:okLT 1 Qm8 Q4e=true:=by kernel_rfl
theorem Qbhf:SegOk Tryd.prog Qa 19 ((Qe (Qc Tryd.f37)).take 1) Qbi3 Q4f Qbhd:=
  ⟨Qbhe,by kernel_rfl,fun F=>Qbw rfl F,rfl,by kernel_rfl,by kernel_rfl,rfl,rfl,fun _=>trivial,by kernel_rfl⟩
def Qm9:List SDef:=[.q .lss (.i 2) (.i 1),
 .sop .len [.s 0],
 .q .leq (.z 0) (.i 2),
 .q .lss (.i 2) (.i 5),
 .sop .at [.s 0,.i 2],
 .q .shl (.c 3) (.o 1),
 .q .shr (.c 3) (.o 7),
 .q .or (.c 9) (.c 10),
 .q .add (.c 11) (.c 8),
 .q .add (.i 2) (.z 1)]
def Q4g:LT:=Go.Wbp.fT 4 Qm9 (.n (.n (.n (.n .e 7086 5 .e) 47601572 11 .e) 202060958 13 (.n (.n .e 303061317 9 .e) 303361534 10 .e)) 545384606 4 (.n (.n (.n .e 636636807 12 .e) 686737383 6 .e) 690532547 8 (.n .e 845057091 7 .e)))
def Qbhh:Sw:=.x 6 (.run (.node 4 (.node 7 (.leaf .normal Qq6 [(0,0)] [(0,.s 0),(1,.i 1),(2,.i 13),(3,.c 12)] []) (.dead)) (.leaf (.exit 0) Q5j [(0,0)] [(2,.c 3)] [])))
def Qbhg:KdT:=kdN 0x13333300003100 4 1 0
noncomputable def Qvg:Ing:={m:=4,ins:=Q5p,G:=Qm9,T:=Q4g,tab:=Qa,lsts:=Qs,kb:=14,kt:=Qbhg}
theorem Qbhi:okLT 4 Qm9 Q4g=true:=by kernel_rfl
theorem Qbhj:SegOk Tryd.prog Qa 19 ([Qbn (Qc Tryd.f37)]) Qq6 Qvg Qbhh:=
  ⟨Qbhi,by kernel_rfl,fun F=>Qbw rfl F,rfl,by kernel_rfl,by kernel_rfl,rfl,rfl,fun _=>trivial,by kernel_rfl⟩
def Qmy:List SDef:=[.sop .len [.s 0],
 .q .leq (.i 1) (.z 1000000),
 .fn 384 .u8 [.s 0]]
def Q3k:LT:=Go.Wbp.fT 1 Qmy (.n (.n .e 7086 1 .e) 22061 3 (.n .e 743886676 2 .e))
def Qbf8:Sw:=.x 2 (.run (.leaf .ret Qbit [] [(2,.c 3)] []))
def Qbf7:KdT:=kdN 0x3000 3 1 0
noncomputable def Q3m:Ing:={m:=1,ins:=Qj3,G:=Qmy,T:=Q3k,tab:=Qa,lsts:=Qs,kb:=4,kt:=Qbf7}
noncomputable def Q3l:Ing:={Q3m with mh:=Qbr (kdX Q3m) [sf37]}
theorem Q3n:okLT 1 Qmy Q3k=true:=by kernel_rfl
theorem Q1x {S:ByteArray} {i:Nat} (h:i<S.size):(ints S).take (i+1)=(ints S).take i++[bAt S i]:=by
 have hl:i<(ints S).length:=by rw [Qqh];exact h
 rw [List.take_add_one,List.getElem?_eq_getElem hl];have:=Q1w S i h;rw [List.getD_eq_getElem?_getD,List.getElem?_eq_getElem hl] at this;simp only [Option.getD_some] at this;simp only [Option.toList_some,this]
theorem roll {c x s r o v:Int} (h0:0<=c) (h1:c<256) (hs:s=c*2%256) (hr:r=c/128) (ho:o=IntKind.u8.wrap ((BitVec.ofInt IntKind.u8.bits s|||BitVec.ofInt IntKind.u8.bits r).toNat:Int)) (hv:v=(o+x)%256):v=Qok c x:=by
 have e:o=c*2%256+c/128:=by
  rw [ho,hs,hr];show IntKind.u8.wrap ((BitVec.ofInt 8 (c*2%256)|||BitVec.ofInt 8 (c/128):BitVec 8).toNat:Int)=_;rw [wr_u8,BitVec.toNat_or,BitVec.toNat_ofInt,BitVec.toNat_ofInt];have e1:((c*2%256)%(2^8:Nat)).toNat=2^1*(c%128).toNat:=by omega
  have e2:(c/128%(2^8:Nat)).toNat=(c/128).toNat:=by omega
  rw [e1,e2,<-Nat.two_pow_add_eq_or_of_lt (by omega:(c/128).toNat<2^1)];omega
 rw [hv,e];unfold Qok;omega
structure J37 (S:ByteArray) (i:Nat) (V:Sig):Prop where
 s:V.s 0=S
 n:V.i 1=(S.size:Nat)
 i0:V.i 2=i
 c:V.i 3=sumL ((ints S).take i)
 hi:i<=S.size
 sz:S.size<=1000000
theorem J37.agree {S:ByteArray} {i:Nat} {V U:Sig} (ag:Agree 4 V U) (h:J37 S i V):J37 S i U:=by
  cases h;constructor<;>first|assumption|(simp (disch:=decide) only [ag.iv,ag.bv,ag.sv,ag.xv];assumption)
def L37:Asg:=[(2,.c 2)]
set_option maxHeartbeats 1000000 in
theorem c37:SymFOk Tryd.prog Qa (fun _=>True) sf37:=
 Qb5 Tryd.func37 rfl (n:=19) rfl (by decide) (by decide) rfl rfl (by kernel_rfl) (fun g w hg _ hE hI hpc hH=>by
  have q0:=hpc (.bin .leq (.symi .i64 1) (.int .i64 1000000)) (by simp [sf37]);simp only [Qb,den,binS,intA,if_true,Option.some.injEq,AVal.bool.injEq,decide_eq_true_eq] at q0;have g1:g.sig.i 1=((g.sig.s 0).size:Nat):=Qet (hE.at 0 _ rfl rfl);have g2:g.sig.i 2=sumS (g.sig.s 0):=by
   have h:g.sig.i 2=IntKind.u8.wrap (g.sig.tab 384 [encB (g.sig.s 0)]):=eqFn (hE.at 1 _ rfl rfl);have:=Qd5 (ints (g.sig.s 0));rw [hg,Qff,wr_u8] at h;unfold sumS at h⊢;omega
  have hlast:Qf Tryd.prog Qa 19 (Qu g w sf37.pre.length) (bodyPost Tryd.prog Tryd.f37 (MemR Qa sf37 g w)) [] Q5j 3 [none,none,some .u8] (fun V=>V.i 2=sumS (g.sig.s 0)/\V.ext=g.sig.ext):=by
   intro a w' V hA hi hj ht;refine (Qb8 (M:=3) (l:=L37) (vs:=[]) (x:=.normal) (by kernel_rfl) rfl rfl hH hg rfl rfl rfl (by kernel_rfl) (by kernel_rfl) ⟨?_,trivial⟩ (by decide) hj.2 (.inr rfl)) .normal a w' trivial hA;show AVal.int .u8 (V.i 2)=AVal.int .u8 (g.sig.i 2);rw [hj.1,g2]
  rw [show Qe (Qc Tryd.f37)=(Qe (Qc Tryd.f37)).take 1++(.block (idOf (Qc Tryd.f37)) (.loop (Qbn (Qc Tryd.f37)))::[]) from rfl];have hloop:Qf Tryd.prog Qa 19 (Qu g w sf37.pre.length) (bodyPost Tryd.prog Tryd.f37 (MemR Qa sf37 g w)) (.block (idOf (Qc Tryd.f37)) (.loop (Qbn (Qc Tryd.f37)))::[]) Qq6 4 Q5p (fun V=>(∃i,J37 (g.sig.s 0) i V)/\V.ext=g.sig.ext):=by
   refine Qf.loop (μ:=fun V=>(V.i 1-V.i 2).toNat) mixed Qbhj ⟨rfl,rfl⟩ (fun V U ag h=>⟨(let ⟨i,hi⟩:=h.1;⟨i,hi.agree ag⟩),by rw [<-ag.ext];exact h.2⟩) (fun V U ag=>by rw [(ag.val 1 (by decide)).1,(ag.val 2 (by decide)).1]) (fun U h=>Qv) hlast (fun U e ht hi hj=> ?_) (pin0 (by kernel_rfl));obtain ⟨⟨i,hj⟩,hx⟩:=hj;refine Qp ?_;have hs:=hj.s;have hn:=hj.n;have hi0:=hj.i0;have hc:=hj.c;have hhi:=hj.hi;have hsz:=hj.sz;have hc0:=Qd5 ((ints (g.sig.s 0)).take i);have F:Facs U 4 Qm9:=facs e;dsimp only [Qm9,Facs,fac1,facI,facS,facB,oI,oK,oB,oS,nmL,nm,Nat.reduceAdd] at F;obtain ⟨b4,i5,b6,b7,i8,-,-,-,i12,i13,-⟩:=F;have i9:U.i 9=IntKind.u8.wrap (U.i 3*2):=(eqI (x:=IntKind.u8.wrap (U.i 3*2^(min (1:Int).toNat IntKind.u8.bits))) (e.at 5 _ rfl rfl) rfl).trans (by rw [show (2:Int)^(min (1:Int).toNat IntKind.u8.bits)=2 by decide]);have i10:U.i 10=U.i 3/128:=(eqI (x:=(U.i 3:Int).fdiv (2^(min (7:Int).toNat IntKind.u8.bits))) (e.at 6 _ rfl rfl) rfl).trans (by rw [show (2:Int)^(min (7:Int).toNat IntKind.u8.bits)=128 by decide];exact Qbf (by decide));have i11:U.i 11=IntKind.u8.wrap (BitVec.ofInt IntKind.u8.bits (U.i 9)|||BitVec.ofInt IntKind.u8.bits (U.i 10)).toNat:=eqI (e.at 7 _ rfl rfl) rfl;have tr: ∀{P:Prop} {b:Bool} [Decidable P],b=decide P->b=false->P->False:=fun hb hf hp=>by rw [hb,decide_eq_false_iff_not] at hf;exact hf hp
   rw [hs] at i5 i8;refine ⟨fun f6=>⟨fun f4=>⟨fun f7=> ?_,fun f=>tr b7 f (by rw [b4,decide_eq_true_eq] at f4;omega)⟩,fun f4=> ?_⟩,fun f=>tr b6 f (by omega)⟩;rw [b4,decide_eq_true_eq] at f4;rw [Qh] at i13;rw [wr_u8] at i9 i12;have hlt:i<(g.sig.s 0).size:=by omega
   have hst:=roll (by omega) (by omega) i9 i10 i11 i12;rw [hi0] at i8;rw [hc] at hst;refine .inl ⟨rfl,rfl,insK (X:=Qvg) e hi,⟨⟨i+1,hs,hn,?_,?_,hlt,hsz⟩,extS hx⟩,tabS ht,?_⟩;show U.i 13=_;omega;show U.i 12=_;rw [Q1x hlt,Qx6,hst,i8];show (U.i 1-U.i 13).toNat<(U.i 1-U.i 2).toNat;omega;rw [b4,decide_eq_false_iff_not] at f4;have hie:i=(ints (g.sig.s 0)).length:=by rw [Qqh];omega
   refine .inr (.inl ⟨rfl,rfl,insK (X:=Qvg) e hi,⟨?_,extS hx⟩,tabS ht⟩);show U.i 3=_;rw [hc,hie,List.take_length];rfl
  refine Qf.seg mixed Qbhf ⟨rfl,rfl⟩ (fun V U (ag:Agree 1 V U) (h:Agree 1 g.sig V)=>h.trans' ag) (fun U h=>Qv) hloop (fun U e ht hi ag=> ?_) (pin0 (by kernel_rfl));refine Qp ?_;have F:Facs U 1 Qm8:=facs e;dsimp only [Qm8,Facs,fac1,facI,facS,facB,oI,oK,oB,oS,nmL,nm,Nat.reduceAdd] at F;obtain ⟨i1,-⟩:=F;have a0:U.s 0=g.sig.s 0:=(ag.val 0 (by decide)).2.2.symm;refine .inl ⟨rfl,rfl,insK (X:=Q4f) e hi,⟨⟨0,a0,?_,rfl,rfl,Nat.zero_le _,by omega⟩,extS ag.ext.symm⟩,tabS ht⟩;show U.i 1=_;rw [i1,a0])
theorem Qbf9 (F:List Fact):Hooks Tryd.prog (cxOf Q3l F):=
  Qcy (l:=[sf37]) rfl rfl rfl rfl rfl Q3n rfl rfl rfl ⟨c37,trivial⟩ F
theorem Qbga:SegOk Tryd.prog Qa 8 (Qe (Qc Tryd.f20)) Qbi0 Q3l Qbf8:=
  ⟨Q3n,by kernel_rfl,Qbf9,rfl,by kernel_rfl,by kernel_rfl,rfl,rfl,fun _=>trivial,by kernel_rfl⟩
def L20:Asg:=[(2,.c 2)]
theorem c20:SymFOk Tryd.prog Qa (fun _=>True) sf20:=
 Qb5 Tryd.func20 rfl (n:=8) rfl (by decide) (by decide) rfl rfl (by kernel_rfl) (fun g w hg _ hE hI hpc hH=>by
  refine Qf.last mixed Qbga ⟨rfl,rfl⟩ (fun V U (ag:Agree 1 V U) (h:Agree 1 g.sig V)=>h.trans' ag) (fun U h=>Qv) (fun U e ht hi ag=> ?_) (pin0 (by kernel_rfl));refine Qp ?_;have q0:=hpc (.bin .leq (.symi .i64 1) (.int .i64 1000000)) (by simp [sf20]);simp only [Qb,den,binS,intA,if_true,Option.some.injEq,AVal.bool.injEq,decide_eq_true_eq] at q0;have g1:g.sig.i 1=((g.sig.s 0).size:Nat):=Qet (hE.at 0 _ rfl rfl);have g2:g.sig.i 2=IntKind.u8.wrap (g.sig.tab 384 [encB (g.sig.s 0)]):=eqFn (hE.at 1 _ rfl rfl);have a0:U.s 0=g.sig.s 0:=(ag.val 0 (by decide)).2.2.symm;have F:Facs U 1 Qmy:=facs e;dsimp only [Qmy,Facs,fac1,facI,facS,facB,oI,oK,oB,oS,nmL,nm,Nat.reduceAdd] at F;obtain ⟨i1,b2,i3,-⟩:=F;have tr: ∀{P:Prop} {b:Bool} [Decidable P],b=decide P->b=false->P->False:=fun hb hf hp=>by rw [hb,decide_eq_false_iff_not] at hf;exact hf hp
  refine ⟨fun _=>Qb8 (M:=3) (l:=L20) (vs:=[.symi .u8 2]) (by kernel_rfl) rfl rfl hH hg rfl rfl rfl (by kernel_rfl) (by kernel_rfl) ⟨?_,trivial⟩ (by decide) (extS ag.ext.symm) (.inl rfl),fun f=>tr b2 f (by rw [i1,a0];omega)⟩;show AVal.int .u8 (U.i 3)=AVal.int .u8 (g.sig.i 2);rw [i3,g2,ht,hg,a0])
end Go.Proofs.YtelimhjceiamcaaDoor.lg
set_option maxRecDepth 100000
namespace Go.Proofs.YtelimhjceiamcaaDoor.lg
open Go.Ev Go.RowKit Go.Wbp Go.Lgp
open Go.Proofs.YtelimhjceiamcaaDoor.lgn (mixed sf48 Qbu)
def eL (s n:Nat):Blk:=.lst (.syms s) (.symi .i64 n) cl4 0
def eS:AVal:=.lsl 0 4 false (.int .i64 0) (.symi .i64 1)
def lgA:AVal:=.agg [.symi .u32 0,eS,.symi .i64 2,.symi .u64 3,.symi .u64 4,.symi .i64 5]
def lgC:List AVal:=[.w 0,eS,.i 2,.u 3,.u 4,.i 5]
def lgF:List AVal:=[.w 0,.s 6,.i 1,.i 2,.u 3,.u 4,.i 5]
def lgK:List (Option IntKind):=[some .u32,some .i64,some .i64,some .u64,some .u64,some .i64,none,some .i64]
def lgQ:List SDef:=[.q .leq (.z 0) (.i 1),.q .leq (.i 1) (.i 7),.q .leq (.i 7) (.z 1000000)]
def Qbiy:Shape:=⟨argT 0 [lgA],[eL 6 7]⟩
def Qh8:Shape:=⟨[(1,.ptr 1 0),(3,.ptr 2 0),(8,eS),(9,.i 1),(10,.i 8)],[eL 6 7,.cells lgC 26,.cells [.u 9,.u 10,.i 11,.c 12] 61]⟩
def Qhf:List (Option IntKind):=lgK++[some .i64,some .u64,some .u64,some .i64,some .u8]
def Qj1:Shape:=⟨[(2,.symb 8),(8,eS)],[eL 6 7]⟩
def sf17:SymF:=
 {f:=17,m:=8,ins:=lgK,args:=[lgA],pre:=[eL 6 7],pcs:=lgQ,G:=[.fnb 448 lgF],v:=.symb 8,post:=[eL 6 7]}
def Q3a:List SDef:=[]
def Q3b:LT:=.e
def Qbfi:Sw:=.run (.leaf .normal Qh8 [(0,0),(1,0),(2,0)] [(1,.i 1),(1,.i 1),(8,.z 0),(6,.s 6),(7,.i 7),(0,.w 0),(1,.i 1),(2,.i 2),(3,.u 3),(4,.u 4),(5,.i 5),(9,.o 0),(10,.o 0),(11,.z (-1)),(12,.int .u8 0)] [])
def Qbfh:KdT:=kdN 0x10122114 4 1 0
noncomputable def Q3c:Ing:={m:=8,ins:=lgK,G:=Q3a,T:=Q3b,tab:=Qa,lsts:=Qs,kb:=8,kt:=Qbfh}
theorem Qbfj:okLT 8 Q3a Q3b=true:=by kernel_rfl
theorem Qbfk:SegOk Tryd.prog Qa 39 ((Qe (Qc Tryd.f17)).take 3) Qbiy Q3c Qbfi:=
  ⟨Qbfj,by kernel_rfl,fun F=>Qbw rfl F,rfl,by kernel_rfl,by kernel_rfl,rfl,rfl,fun _=>trivial,by kernel_rfl⟩
def Qmu:List SDef:=[.q .lss (.i 8) (.i 1),
 .q .lss (.i 8) (.i 7),
 .q .leq (.z 0) (.i 8),
 .sop (.cell [.some .u64,.some .u64,.some .i64,.some .u8] 0) [.s 6,.i 8],
 .sop (.cell [.some .u64,.some .u64,.some .i64,.some .u8] 1) [.s 6,.i 8],
 .sop (.cell [.some .u64,.some .u64,.some .i64,.some .u8] 2) [.s 6,.i 8],
 .sop (.cell [.some .u64,.some .u64,.some .i64,.some .u8] 3) [.s 6,.i 8],
 .q .geq (.i 18) (.z 0),
 .q .leq (.i 18) (.z 2),
 .ite (.symb 20) (.symb 21) (.bool false),
 .un .not (.symb 22),
 .q .gtr (.u 16) (.o 1099511627776),
 .q .gtr (.u 17) (.u 16),
 .q .lss (.u 17) (.u 10),
 .q .eql (.i 18) (.z 255),
 .q .geq (.u 16) (.u 9),
 .q .eql (.u 16) (.u 9),
 .q .gtr (.i 18) (.i 11),
 .q .eql (.u 17) (.u 10),
 .ite (.symb 30) (.symb 31) (.bool false),
 .q .gtr (.u 16) (.u 9),
 .ite (.symb 29) (.symb 32) (.symb 33),
 .ite (.symb 27) (.symb 28) (.symb 34),
 .ite (.symb 26) (.bool false) (.symb 35),
 .ite (.symb 25) (.bool false) (.symb 36),
 .ite (.symb 24) (.bool false) (.symb 37),
 .un .not (.symb 38),
 .q .add (.i 8) (.z 1)]
def Q3d:LT:=Go.Wbp.fT 13 Qmu (.n (.n (.n (.n (.n .e 74590398 23 .e) 77644597 13 (.n .e 174532157 35 .e)) 199360065 32 (.n (.n .e 226216113 30 .e) 309363675 36 (.n .e 321364071 37 .e))) 333364467 38 (.n (.n (.n .e 388565923 24 .e) 411250150 29 (.n .e 411250178 33 .e)) 411250185 28 (.n (.n .e 540490506 22 .e) 542408004 16 .e))) 542408006 17 (.n (.n (.n (.n .e 542408008 18 .e) 542408010 19 (.n .e 599375197 15 .e)) 616901899 39 (.n (.n .e 744274056 20 .e) 744374112 21 .e)) 757032946 27 (.n (.n (.n .e 768241873 25 .e) 808062776 40 (.n .e 855604031 31 .e)) 855604045 26 (.n (.n .e 897556016 34 .e) 1064024238 14 .e))))
def Qbfm:Sw:=.n 13 (.x 14 (.x 15 (.run (.node 23 (.leaf .ret Qj1 [(0,0)] [(8,.bool false),(1,.i 1),(6,.s 6),(7,.i 7)] []) (.node 39 (.leaf .ret Qj1 [(0,0)] [(8,.bool false),(1,.i 1),(6,.s 6),(7,.i 7)] []) (.leaf .normal Qh8 [(0,0),(1,0),(2,0)] [(1,.i 1),(1,.i 1),(8,.i 40),(6,.s 6),(7,.i 7),(0,.w 0),(1,.i 1),(2,.i 2),(3,.u 3),(4,.u 4),(5,.i 5),(9,.u 16),(10,.u 17),(11,.i 18),(12,.c 19)] [])))))) (.run (.leaf (.exit 0) Qh8 [(0,0),(1,0),(2,0)] [(1,.i 1),(1,.i 1),(8,.i 8),(6,.s 6),(7,.i 7),(0,.w 0),(1,.i 1),(2,.i 2),(3,.u 3),(4,.u 4),(5,.i 5),(9,.u 9),(10,.u 10),(11,.i 11),(12,.c 12)] []))
def Qbfl:KdT:=kdN 0x10000000000000000000031220003122110122114 6 1 0
noncomputable def Qu6:Ing:={m:=13,ins:=Qhf,G:=Qmu,T:=Q3d,tab:=Qa,lsts:=Qs,kb:=41,kt:=Qbfl}
theorem Qbfn:okLT 13 Qmu Q3d=true:=by kernel_rfl
theorem Qbfo:SegOk Tryd.prog Qa 39 ([Qbn (Qc Tryd.f17)]) Qh8 Qu6 Qbfm:=
  ⟨Qbfn,by kernel_rfl,fun F=>Qbw rfl F,rfl,by kernel_rfl,by kernel_rfl,rfl,rfl,fun _=>trivial,by kernel_rfl⟩
def Qmv:List SDef:=[.q .gtr (.u 3) (.o 1099511627776),
 .q .gtr (.u 4) (.u 3),
 .q .lss (.u 4) (.u 10),
 .q .geq (.u 3) (.u 9),
 .ite (.symb 15) (.bool false) (.symb 16),
 .ite (.symb 14) (.bool true) (.symb 15),
 .ite (.symb 14) (.bool false) (.symb 17),
 .ite (.symb 13) (.bool true) (.symb 14),
 .ite (.symb 13) (.bool true) (.symb 18),
 .ite (.symb 13) (.bool false) (.symb 19),
 .q .geq (.i 2) (.z 0),
 .q .leq (.i 2) (.z 1073741824),
 .ite (.symb 23) (.symb 24) (.bool false),
 .q .geq (.i 5) (.z 0),
 .q .leq (.i 5) (.z 6),
 .ite (.symb 26) (.symb 27) (.bool false)]
def Q3e:LT:=Go.Wbp.fT 13 Qmv (.n (.n (.n (.n (.n .e 121063876 28 .e) 149303811 13 .e) 171988073 16 (.n .e 201860916 24 .e)) 202011035 23 (.n (.n .e 206185849 17 .e) 218186245 19 (.n .e 230186045 21 .e))) 330777191 25 (.n (.n (.n .e 360350555 14 .e) 381191624 22 (.n .e 505011944 26 .e)) 505312140 27 (.n (.n .e 616341933 15 .e) 699907940 20 (.n .e 989917510 18 .e))))
def Qbfq:Sw:=.run (.node 22 (.node 25 (.leaf .ret Qj1 [(0,0)] [(8,.symb 28),(1,.i 1),(6,.s 6),(7,.i 7)] []) (.leaf .ret Qj1 [(0,0)] [(8,.bool false),(1,.i 1),(6,.s 6),(7,.i 7)] [])) (.leaf .ret Qj1 [(0,0)] [(8,.bool false),(1,.i 1),(6,.s 6),(7,.i 7)] []))
def Qbfp:KdT:=kdN 0x3122110122114 5 1 0
noncomputable def Qbfr:Ing:={m:=13,ins:=Qhf,G:=Qmv,T:=Q3e,tab:=Qa,lsts:=Qs,kb:=29,kt:=Qbfp}
theorem Qbfs:okLT 13 Qmv Q3e=true:=by kernel_rfl
theorem Qbft:SegOk Tryd.prog Qa 39 ((Qe (Qc Tryd.f17)).drop 4) Qh8 Qbfr Qbfq:=
  ⟨Qbfs,by kernel_rfl,fun F=>Qbw rfl F,rfl,by kernel_rfl,by kernel_rfl,rfl,rfl,fun _=>trivial,by kernel_rfl⟩
def lgG (g:Sig) (n:Nat):Lg:=⟨g.i 0,lstE (g.s 6) n,g.i 2,g.i 3,g.i 4,g.i 5⟩
structure J17 (g:Sig) (C:ByteArray) (n N i:Nat) (V:Sig):Prop where
 s:V.s 6=C
 n0:V.i 1=n
 nN:V.i 7=N
 v0:V.i 0=g.i 0
 v2:V.i 2=g.i 2
 v3:V.i 3=g.i 3
 v4:V.i 4=g.i 4
 v5:V.i 5=g.i 5
 i0:V.i 8=i
 r:V.i 9=(Qj noE C i).r
 b:V.i 10=(Qj noE C i).b
 k:V.i 11=(Qj noE C i).k
 v:V.i 12=(Qj noE C i).v
 le:n<=N
 hi:i<=n
 sz:N<=1000000
 xe:V.ext=g.ext
 ok:Qc9 noE (lstE C n) ⟨g.i 3,g.i 4,255,0⟩=Qc9 (Qj noE C i) ((lstE C n).drop i) ⟨g.i 3,g.i 4,255,0⟩
theorem J17.agree {g:Sig} {C:ByteArray} {n N i:Nat} {V U:Sig} (ag:Agree 13 V U) (h:J17 g C n N i V):J17 g C n N i U:=by
  cases h;constructor<;>first|assumption|(simp (disch:=decide) only [ag.iv,ag.bv,ag.sv,ag.xv];assumption)
def L17:Asg:=[(8,.symb 8),(6,.s 6),(7,.i 7)]
theorem Qbll {g:Inj} {n:Nat} (hg:g.sig.tab=Qa) (hE:Eqs g.sig sf17.m sf17.G) (hn:g.sig.i 1=n):g.sig.b 8=right (lgG g.sig n):=by
 have h:g.sig.b 8= !(g.sig.tab 448 [g.sig.i 0,encB (g.sig.s 6),g.sig.i 1,g.sig.i 2,g.sig.i 3,g.sig.i 4,g.sig.i 5]==0):=Qlz (hE.at 0 _ rfl rfl);rw [h,hg,hn,Qj6];rfl
abbrev Z17 (g:Inj) (w:World):Exit->Act->World->Prop:=bodyPost Tryd.prog Tryd.f17 (MemR Qa sf17 g w)
theorem Q0v {g:Inj} {w:World} {n N:Nat} (hg:g.sig.tab=Qa) (hE:Eqs g.sig sf17.m sf17.G) (hH:HRel (cx0 Qa) g sf17.pre w) (hgn:g.sig.i 1=n) (hgN:g.sig.i 7=N) {U:Sig} {b:AVal} {bv:Bool} (hs:U.s 6=g.sig.s 6) (hN:U.i 7=N) (hx:U.ext=g.sig.ext) (hb:valS U b=.bool bv) (h:bv=right (lgG g.sig n)):
  EndZ Qa 39 (Qu g w sf17.pre.length) (Z17 g w) .ret Qj1 (asgS U ([(8,b),(1,.symi .i64 1),(6,.syms 6),(7,.symi .i64 7)]++[])):=by
 refine Qb8 (M:=9) (l:=L17) (vs:=[.symb 8]) (by kernel_rfl) rfl rfl hH hg rfl rfl rfl (by kernel_rfl) (by kernel_rfl) ⟨?_,congrArg AVal.str hs,congrArg (AVal.int .i64) (hN.trans hgN.symm),trivial⟩ (by decide) (extS hx) (.inl rfl);show AVal.bool (bOf (valS U b))=AVal.bool (g.sig.b 8);rw [hb,Qbll hg hE hgn,<-h];rfl
set_option maxHeartbeats 1000000 in
theorem c17:SymFOk Tryd.prog Qa (fun _=>True) sf17:=
 Qb5 Tryd.func17 rfl (n:=39) rfl (by decide) (by decide) rfl rfl (by kernel_rfl) (fun g w hg _ hE hI hpc hH=>by
  have q0:=hpc (.bin .leq (.int .i64 0) (.symi .i64 1)) (by simp [sf17,lgQ]);have q1:=hpc (.bin .leq (.symi .i64 1) (.symi .i64 7)) (by simp [sf17,lgQ]);have q2:=hpc (.bin .leq (.symi .i64 7) (.int .i64 1000000)) (by simp [sf17,lgQ]);simp only [Qb,den,binS,intA,if_true,Option.some.injEq,AVal.bool.injEq,decide_eq_true_eq] at q0 q1 q2;obtain ⟨n,hgn⟩: ∃n:Nat,g.sig.i 1=n:=⟨(g.sig.i 1).toNat,by omega⟩;obtain ⟨N,hgN⟩: ∃n:Nat,g.sig.i 7=n:=⟨(g.sig.i 7).toNat,by omega⟩;have hlast:Qf Tryd.prog Qa 39 (Qu g w sf17.pre.length) (Z17 g w) ((Qe (Qc Tryd.f17)).drop 4) Qh8 13 Qhf (J17 g.sig (g.sig.s 6) n N n):=by
   refine Qf.last mixed Qbft ⟨rfl,rfl⟩ (fun V U ag h=>h.agree ag) (fun U h=>Qv) (fun U e ht hi hj=> ?_) (pin0 (by kernel_rfl));refine Qp ?_;have hok:=hj.ok;rw [Q8a] at hok;have v2:=hj.v2;have v3:=hj.v3;have v4:=hj.v4;have v5:=hj.v5;have hr:=hj.r;have hb:=hj.b;have F:Facs U 13 Qmv:=facs e;dsimp only [Qmv,Facs,fac1,facI,facS,facB,oI,oK,oB,oS,nmL,nm,Nat.reduceAdd] at F;obtain ⟨b13,b14,b15,b16,b17,b18,b19,b20,b21,b22,b23,b24,b25,b26,b27,b28,-⟩:=F;have key:right (lgG g.sig n)=true↔(U.b 22=true/\U.b 25=true/\U.b 28=true):=by
    rw [Qhl];show Qc9 noE (lstE (g.sig.s 6) n) ⟨g.sig.i 3,g.sig.i 4,255,0⟩=true/\0<=g.sig.i 2/\g.sig.i 2<=1073741824/\0<=g.sig.i 5/\g.sig.i 5<=6↔_;rw [hok,Qll];simp only [b13,b14,b15,b16,b17,b18,b19,b20,b21,b22,b23,b24,b25,b26,b27,b28,v2,v3,v4,v5,hr,hb,sb,beq_iff_eq];omega
   have f0:=fun (b:AVal) (bv:Bool)=>Q0v (b:=b) (bv:=bv) hg hE hH hgn hgN hj.s hj.nN hj.xe;refine ⟨fun f22=>⟨fun f25=>f0 _ _ rfl ?_,fun f25=>f0 _ _ rfl ?_⟩,fun f22=>f0 _ _ rfl ?_⟩;rw [Bool.eq_iff_iff,key];simp only [f22,f25,true_and];rw [eq_comm,Bool.eq_false_iff,ne_eq,key,f25];simp;rw [eq_comm,Bool.eq_false_iff,ne_eq,key,f22];simp
  rw [show Qe (Qc Tryd.f17)=(Qe (Qc Tryd.f17)).take 3++(.block (idOf (Qc Tryd.f17)) (.loop (Qbn (Qc Tryd.f17)))::(Qe (Qc Tryd.f17)).drop 4) from rfl];have hloop:Qf Tryd.prog Qa 39 (Qu g w sf17.pre.length) (Z17 g w) (.block (idOf (Qc Tryd.f17)) (.loop (Qbn (Qc Tryd.f17)))::(Qe (Qc Tryd.f17)).drop 4) Qh8 13 Qhf (fun V=> ∃i,J17 g.sig (g.sig.s 6) n N i V):=by
   refine Qf.loop (μ:=fun V=>(V.i 1-V.i 8).toNat) mixed Qbfo ⟨rfl,rfl⟩ (fun V U ag h=>let ⟨i,hi⟩:=h;⟨i,hi.agree ag⟩) (fun V U ag=>by rw [(ag.val 1 (by decide)).1,(ag.val 8 (by decide)).1]) (fun U h=>Qv) hlast (fun U e ht hi hj=> ?_) (pin0 (by kernel_rfl));obtain ⟨i,hj⟩:=hj;refine Qp ?_;have hn0:=hj.n0;have hnN:=hj.nN;have hi0:=hj.i0;have hle:=hj.le;have hhi:=hj.hi;have hsz:=hj.sz;have hr:=hj.r;have hb:=hj.b;have hk:=hj.k;have F:Facs U 13 Qmu:=facs e;dsimp only [Qmu,Facs,fac1,facI,facS,facB,oI,oK,oB,oS,nmL,nm,Nat.reduceAdd] at F;obtain ⟨b13,b14,b15,-,-,-,-,b20,b21,b22,b23,b24,b25,b26,b27,b28,b29,b30,b31,b32,b33,b34,b35,b36,b37,b38,b39,i40,-⟩:=F;have i16:U.i 16=(rowE (U.s 6) (U.i 8:Int).toNat).r:=Qbl (e.at 3 _ rfl rfl) rfl;have i17:U.i 17=(rowE (U.s 6) (U.i 8:Int).toNat).b:=Qbl (e.at 4 _ rfl rfl) rfl;have i18:U.i 18=(rowE (U.s 6) (U.i 8:Int).toNat).k:=Qbl (e.at 5 _ rfl rfl) rfl;have i19:U.i 19=(rowE (U.s 6) (U.i 8:Int).toNat).v:=Qbl (e.at 6 _ rfl rfl) rfl;have tr: ∀{P:Prop} {b:Bool} [Decidable P],b=decide P->b=false->P->False:=fun hb hf hp=>by rw [hb,decide_eq_false_iff_not] at hf;exact hf hp
   refine ⟨fun f13=>⟨fun f14=>⟨fun f15=> ?_,fun f=>tr b15 f (by omega)⟩,fun f=>tr b14 f (by rw [b13,decide_eq_true_eq] at f13;omega)⟩,fun f13=> ?_⟩;rw [b13,decide_eq_true_eq] at f13;rw [Qh] at i40;have hlt:i<n:=by omega
   have hok:=hj.ok;rw [Q8b noE hlt] at hok;rw [hj.s,hi0,Int.toNat_natCast] at i16 i17 i18 i19;have key:Qcx (Qj noE (g.sig.s 6) i) (rowE (g.sig.s 6) i)=true↔ ¬(U.b 23=true\/U.b 39=true):=by
    rw [Qso];simp only [b20,b21,b22,b23,b24,b25,b26,b27,b28,b29,b30,b31,b32,b33,b34,b35,b36,b37,b38,b39,i16,i17,i18,hr,hb,hk,sb,beq_iff_eq];omega
   have f0:=fun (b:AVal) (bv:Bool)=>Q0v (b:=b) (bv:=bv) hg hE hH hgn hgN hj.s hj.nN hj.xe;have bad:(U.b 23=true\/U.b 39=true)->false=right (lgG g.sig n):=by
    intro h;rw [eq_comm,Bool.eq_false_iff,ne_eq,Qhl];show¬(Qc9 noE (lstE (g.sig.s 6) n) ⟨g.sig.i 3,g.sig.i 4,255,0⟩=true/\_);rw [hok,Bool.and_eq_true,key];exact fun h'=>h'.1.1 h
   refine ⟨fun f23=> .inr (.inr ⟨rfl,f0 _ _ rfl (bad (.inl f23))⟩),fun f23=>⟨fun f39=> .inr (.inr ⟨rfl,f0 _ _ rfl (bad (.inr f39))⟩),fun f39=> .inl ⟨rfl,rfl,insK (X:=Qu6) e hi,⟨i+1,hj.s,hj.n0,hj.nN,hj.v0,hj.v2,hj.v3,hj.v4,hj.v5,?_,i16,i17,i18,i19,hle,hlt,hsz,extS hj.xe,?_⟩,tabS ht,?_⟩⟩⟩;show U.i 40=_;omega;rw [hok,key.2 (by rw [f23,f39];simp),Bool.true_and];show (U.i 1-U.i 40).toNat<(U.i 1-U.i 8).toNat;omega;rw [b13,decide_eq_false_iff_not] at f13;obtain rfl:i=n:=by omega
   exact .inr (.inl ⟨rfl,rfl,insK (X:=Qu6) e hi,⟨hj.s,hj.n0,hj.nN,hj.v0,hj.v2,hj.v3,hj.v4,hj.v5,hj.i0,hj.r,hj.b,hj.k,hj.v,hle,hhi,hsz,extS hj.xe,hj.ok⟩,tabS ht⟩)
  refine Qf.seg mixed Qbfk ⟨rfl,rfl⟩ (fun V U (ag:Agree 8 V U) (h:Agree 8 g.sig V)=>h.trans' ag) (fun U h=>Qv) hloop (fun U e ht hi ag=> ?_) (pin0 (by kernel_rfl));refine Qp ?_;have a:=fun i h=>(ag.val i h).1.symm;exact .inl ⟨rfl,rfl,insK (X:=Q3c) e hi,⟨0,(ag.val 6 (by decide)).2.2.symm,(a 1 (by decide)).trans hgn,(a 7 (by decide)).trans hgN,a 0 (by decide),a 2 (by decide),a 3 (by decide),a 4 (by decide),a 5 (by decide),rfl,rfl,rfl,rfl,rfl,by omega,Nat.zero_le _,by omega,extS ag.ext.symm,rfl⟩,tabS ht⟩)
end Go.Proofs.YtelimhjceiamcaaDoor.lg
