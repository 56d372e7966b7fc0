/-
 What the bytes of things are, and what is read of them.
 No conditions.
-/
import Derived.Test.YtelimhjceiamcaaDoorBEv9
import Derived.Test.YtelimhjceiamcaaDoorBEv4
namespace Go.Wbp
open Go.Ev
set_option linter.unusedVariables false
set_option linter.unusedSimpArgs false
inductive IT where
 |e
 |n (l:IT) (h i:Nat) (r:IT)
def dAt:List SDef->Nat->SDef
 |[],_=> .bin .leq (.bool true) (.bool true)
 |d::_,0=>d
 |_::l,n+1=>dAt l n
def fT (m:Nat) (G:List SDef):IT->LT
 |.e=> .e
 |.n l h i r=> .n (fT m G l) h i (dAt G (i-m)) (fT m G r)
def numL (s:ByteArray) (a:Int):List Int:=
 if (s.size:Int)<=a then [0,0,3]
 else if bAt s a<64 then [bAt s a,1,0]
 else if bAt s a<128 then (if (s.size:Int)-a<2 then [0,0,3] else if (bAt s a-64)*256+bAt s (a+1)<64 then [0,0,5] else [(bAt s a-64)*256+bAt s (a+1),2,0])
 else if bAt s a<192 then (if (s.size:Int)-a<4 then [0,0,3] else if (((bAt s a-128)*256+bAt s (a+1))*256+bAt s (a+2))*256+bAt s (a+3)<16384 then [0,0,5] else [(((bAt s a-128)*256+bAt s (a+1))*256+bAt s (a+2))*256+bAt s (a+3),4,0])
 else (if (s.size:Int)-a<8 then [0,0,3] else if (((((((bAt s a-192)*256+bAt s (a+1))*256+bAt s (a+2))*256+bAt s (a+3))*256+bAt s (a+4))*256+bAt s (a+5))*256+bAt s (a+6))*256+bAt s (a+7)<1073741824 then [0,0,5]
  else [(((((((bAt s a-192)*256+bAt s (a+1))*256+bAt s (a+2))*256+bAt s (a+3))*256+bAt s (a+4))*256+bAt s (a+5))*256+bAt s (a+6))*256+bAt s (a+7),8,0])
theorem Qh1 (s:ByteArray) (a:Int):0<=(numL s a).getD 0 0/\(numL s a).getD 0 0<4611686018427387904/\0<=(numL s a).getD 1 0/\(numL s a).getD 1 0<=8/\
  (((numL s a).getD 2 0=0/\1<=(numL s a).getD 1 0/\a+(numL s a).getD 1 0<=s.size)\/(((numL s a).getD 2 0=3\/(numL s a).getD 2 0=5)/\(numL s a).getD 0 0=0/\(numL s a).getD 1 0=0)):=by
 have h0:=Qd s a
 have h1:=Qd s (a+1)
 have h2:=Qd s (a+2)
 have h3:=Qd s (a+3)
 have h4:=Qd s (a+4)
 have h5:=Qd s (a+5)
 have h6:=Qd s (a+6)
 have h7:=Qd s (a+7)
 have key: ∀L,numL s a=L->(0<=L.getD 0 0/\L.getD 0 0<4611686018427387904/\0<=L.getD 1 0/\L.getD 1 0<=8/\((L.getD 2 0=0/\1<=L.getD 1 0/\a+L.getD 1 0<=s.size)\/((L.getD 2 0=3\/L.getD 2 0=5)/\L.getD 0 0=0/\L.getD 1 0=0))):=by
  intro L hL
  unfold numL at hL
  repeat' split at hL
  all_goals
   subst hL
   simp only [List.getD_cons_zero,List.getD_cons_succ]
   refine ⟨by omega,by omega,by omega,by omega,?_⟩
   first|(left;refine ⟨?_,by omega,by omega⟩;first|rfl|trivial)|(right;simp)
 exact key _ rfl
def bs (l:List Int):ByteArray:=⟨(l.map fun n=>UInt8.ofNat n.toNat).toArray⟩
theorem Qc0 (l m:List Int):bs l++bs m=bs (l++m):=by
 apply ByteArray.ext
 simp [bs]
theorem Qc1 (l:List Int):(bs l).size=l.length:=by
 show ((l.map fun n=>UInt8.ofNat n.toNat).toArray).size=l.length
 simp
def pbM (m:Int):List Int:=
 if m<64 then [m] else if m<16384 then [m/256+64,m%256]
 else if m<1073741824 then [m/16777216+128,m/65536%256,m/256%256,m%256]
 else [m/72057594037927936+192,m/281474976710656%256,m/1099511627776%256,m/4294967296%256,m/16777216%256,m/65536%256,m/256%256,m%256]
def pbL (n:Int):List Int:=pbM (n%4611686018427387904)
theorem Qd6 (n:Int):1<=(pbL n).length/\(pbL n).length<=8:=by
 unfold pbL pbM
 repeat' split
 all_goals simp
theorem Qju (m:Int): ∀x∈pbL m,0<=x/\x<256:=by
 have h0:=Int.emod_nonneg m (b:=4611686018427387904) (by decide)
 have h1:=Int.emod_lt_of_pos m (b:=4611686018427387904) (by decide)
 unfold pbL
 generalize m%4611686018427387904=n at h0 h1
 unfold pbM
 repeat' split
 all_goals
  intro x hx
  simp only [List.mem_cons,List.not_mem_nil,or_false] at hx
  rcases hx with rfl|rfl|rfl|rfl|rfl|rfl|rfl|rfl<;>omega
def Has (S:ByteArray) (a:Int) (l:List Int):Prop:=0<=a/\a+l.length<=S.size/\ ∀j:Nat,j<l.length->bAt S (a+j)=l.getD j 0
def Cut (S:ByteArray) (a:Int) (l:List Int):Prop:=0<=a/\a<=S.size/\(S.size:Int)<a+l.length/\ ∀j:Nat,a+j<S.size->bAt S (a+j)=l.getD j 0
set_option maxHeartbeats 2000000 in
theorem Qvv {S:ByteArray} {a m:Int} (h:Has S a (pbL m)):numL S a=[m%4611686018427387904,(pbL m).length,0]:=by
 have h0:=Int.emod_nonneg m (b:=4611686018427387904) (by decide)
 have h1:=Int.emod_lt_of_pos m (b:=4611686018427387904) (by decide)
 unfold pbL at h⊢
 generalize m%4611686018427387904=n at h h0 h1⊢
 obtain ⟨g0,g1,g2⟩:=h
 unfold pbM at g1 g2⊢
 split at g1
 ·rename_i c
  rw [if_pos c] at g2⊢
  have b0:=g2 0 (by simp)
  simp only [List.getD_cons_zero,Int.natCast_zero,Int.add_zero,List.length_cons,List.length_nil] at b0 g1
  unfold numL
  rw [if_neg (by omega),if_pos (by omega),b0]
  rfl
 ·rename_i c
  split at g1
  ·rename_i d
   rw [if_neg c,if_pos d] at g2⊢
   have b0:=g2 0 (by simp)
   have b1:=g2 1 (by simp)
   simp only [List.getD_cons_zero,List.getD_cons_succ,Int.natCast_zero,Int.add_zero,List.length_cons,List.length_nil] at b0 b1 g1
   simp only [Int.natCast_one] at b1
   unfold numL
   rw [if_neg (by omega),if_neg (by omega),if_pos (by omega),if_neg (by omega),if_neg (by omega)]
   congr 1
   omega
  ·rename_i d
   split at g1
   ·rename_i f
    rw [if_neg c,if_neg d,if_pos f] at g2⊢
    have b0:=g2 0 (by simp)
    have b1:=g2 1 (by simp)
    have b2:=g2 2 (by simp)
    have b3:=g2 3 (by simp)
    simp only [List.getD_cons_zero,List.getD_cons_succ,Int.natCast_zero,Int.add_zero,List.length_cons,List.length_nil] at b0 b1 b2 b3 g1
    rw [show ((1:Nat):Int)=1 by rfl] at b1
    rw [show ((2:Nat):Int)=2 by rfl] at b2
    rw [show ((3:Nat):Int)=3 by rfl] at b3
    unfold numL
    rw [if_neg (by omega),if_neg (by omega),if_neg (by omega),if_pos (by omega),if_neg (by omega),if_neg (by omega)]
    congr 1
    omega
   ·rename_i f
    rw [if_neg c,if_neg d,if_neg f] at g2⊢
    have b0:=g2 0 (by simp)
    have b1:=g2 1 (by simp)
    have b2:=g2 2 (by simp)
    have b3:=g2 3 (by simp)
    have b4:=g2 4 (by simp)
    have b5:=g2 5 (by simp)
    have b6:=g2 6 (by simp)
    have b7:=g2 7 (by simp)
    simp only [List.getD_cons_zero,List.getD_cons_succ,Int.natCast_zero,Int.add_zero,List.length_cons,List.length_nil] at b0 b1 b2 b3 b4 b5 b6 b7 g1
    rw [show ((1:Nat):Int)=1 by rfl] at b1
    rw [show ((2:Nat):Int)=2 by rfl] at b2
    rw [show ((3:Nat):Int)=3 by rfl] at b3
    rw [show ((4:Nat):Int)=4 by rfl] at b4
    rw [show ((5:Nat):Int)=5 by rfl] at b5
    rw [show ((6:Nat):Int)=6 by rfl] at b6
    rw [show ((7:Nat):Int)=7 by rfl] at b7
    have e:(((((((bAt S a-192)*256+bAt S (a+1))*256+bAt S (a+2))*256+bAt S (a+3))*256+bAt S (a+4))*256+bAt S (a+5))*256+bAt S (a+6))*256+bAt S (a+7)=n:=by
     rw [b0,b1,b2,b3,b4,b5,b6,b7]
     omega
    unfold numL
    rw [if_neg (by omega),if_neg (by omega),if_neg (by omega),if_neg (by omega),if_neg (by omega),e,if_neg (by omega)]
    rfl
theorem Qbf5 {S:ByteArray} {a:Int} (h0:0<=a) (h:(numL S a).getD 2 0=0):Has S a (pbL ((numL S a).getD 0 0))/\(numL S a).getD 1 0=((pbL ((numL S a).getD 0 0)).length:Int):=by
 have i0:=Qd S a
 have i1:=Qd S (a+1)
 have i2:=Qd S (a+2)
 have i3:=Qd S (a+3)
 have i4:=Qd S (a+4)
 have i5:=Qd S (a+5)
 have i6:=Qd S (a+6)
 have i7:=Qd S (a+7)
 have key: ∀L,numL S a=L->L.getD 2 0=0->Has S a (pbL (L.getD 0 0))/\L.getD 1 0=((pbL (L.getD 0 0)).length:Int):=by
  intro L hL h3
  unfold numL at hL
  repeat' split at hL
  all_goals subst hL
  all_goals simp only [List.getD_cons_zero,List.getD_cons_succ] at h3⊢
  all_goals try (exfalso;omega)
  ·rename_i c d
   have e:pbL (bAt S a)=[bAt S a]:=by
    unfold pbL pbM
    rw [if_pos (by omega)]
    congr 1
    omega
   rw [e]
   refine ⟨⟨h0,by simp;omega,fun j hj=> ?_⟩,rfl⟩
   simp only [List.length_cons,List.length_nil] at hj
   obtain rfl:j=0:=by omega
   simp
  ·rename_i c d f g u
   generalize hn:(bAt S a-64)*256+bAt S (a+1)=n
   have e:pbL n=[n/256+64,n%256]:=by
    unfold pbL pbM
    rw [show n%4611686018427387904=n by omega,if_neg (by omega),if_pos (by omega)]
   rw [e]
   refine ⟨⟨h0,by simp;omega,fun j hj=> ?_⟩,rfl⟩
   simp only [List.length_cons,List.length_nil] at hj
   obtain rfl|rfl:j=0\/j=1:=by omega
   ·simp only [List.getD_cons_zero,Int.natCast_zero,Int.add_zero];omega
   ·simp only [List.getD_cons_zero,List.getD_cons_succ,Int.natCast_one];omega
  ·rename_i c d f g u v
   generalize hn:(((bAt S a-128)*256+bAt S (a+1))*256+bAt S (a+2))*256+bAt S (a+3)=n
   have e:pbL n=[n/16777216+128,n/65536%256,n/256%256,n%256]:=by
    unfold pbL pbM
    rw [show n%4611686018427387904=n by omega,if_neg (by omega),if_neg (by omega),if_pos (by omega)]
   rw [e]
   refine ⟨⟨h0,by simp;omega,fun j hj=> ?_⟩,rfl⟩
   simp only [List.length_cons,List.length_nil] at hj
   obtain rfl|rfl|rfl|rfl:j=0\/j=1\/j=2\/j=3:=by omega
   ·simp only [List.getD_cons_zero,Int.natCast_zero,Int.add_zero];omega
   ·simp only [List.getD_cons_zero,List.getD_cons_succ,Int.natCast_one];omega
   ·simp only [List.getD_cons_zero,List.getD_cons_succ,show ((2:Nat):Int)=2 by rfl];omega
   ·simp only [List.getD_cons_zero,List.getD_cons_succ,show ((3:Nat):Int)=3 by rfl];omega
  ·rename_i c d f g u v
   generalize hn:(((((((bAt S a-192)*256+bAt S (a+1))*256+bAt S (a+2))*256+bAt S (a+3))*256+bAt S (a+4))*256+bAt S (a+5))*256+bAt S (a+6))*256+bAt S (a+7)=n
   have e:pbL n=[n/72057594037927936+192,n/281474976710656%256,n/1099511627776%256,n/4294967296%256,n/16777216%256,n/65536%256,n/256%256,n%256]:=by
    unfold pbL pbM
    rw [show n%4611686018427387904=n by omega,if_neg (by omega),if_neg (by omega),if_neg (by omega)]
   rw [e]
   refine ⟨⟨h0,by simp;omega,fun j hj=> ?_⟩,rfl⟩
   simp only [List.length_cons,List.length_nil] at hj
   obtain rfl|rfl|rfl|rfl|rfl|rfl|rfl|rfl:j=0\/j=1\/j=2\/j=3\/j=4\/j=5\/j=6\/j=7:=by omega
   ·simp only [List.getD_cons_zero,Int.natCast_zero,Int.add_zero];omega
   ·simp only [List.getD_cons_zero,List.getD_cons_succ,Int.natCast_one];omega
   ·simp only [List.getD_cons_zero,List.getD_cons_succ,show ((2:Nat):Int)=2 by rfl];omega
   ·simp only [List.getD_cons_zero,List.getD_cons_succ,show ((3:Nat):Int)=3 by rfl];omega
   ·simp only [List.getD_cons_zero,List.getD_cons_succ,show ((4:Nat):Int)=4 by rfl];omega
   ·simp only [List.getD_cons_zero,List.getD_cons_succ,show ((5:Nat):Int)=5 by rfl];omega
   ·simp only [List.getD_cons_zero,List.getD_cons_succ,show ((6:Nat):Int)=6 by rfl];omega
   ·simp only [List.getD_cons_zero,List.getD_cons_succ,show ((7:Nat):Int)=7 by rfl];omega
 exact key _ rfl h
theorem Qsa {l:List Int} (hl: ∀x∈l,0<=x/\x<256) {j:Nat} (hj:j<l.length):bAt (bs l) j=l.getD j 0:=by
 unfold bAt bs
 rw [Int.toNat_natCast]
 have h1:=hl _ (List.getElem_mem hj)
 simp only [List.getD_eq_getElem?_getD,List.getElem?_map,List.getElem?_eq_getElem hj,Option.map_some,Option.getD_some]
 have:(UInt8.ofNat l[j].toNat).toNat=l[j].toNat:=by
  rw [UInt8.toNat_ofNat']
  exact Nat.mod_eq_of_lt (by omega)
 rw [this]
 omega
theorem Qbad {p l q:List Int} (hl: ∀x∈l,0<=x/\x<256) (hp: ∀x∈p,0<=x/\x<256) (hq: ∀x∈q,0<=x/\x<256):Has (bs (p++(l++q))) p.length l:=by
 have hall: ∀x∈p++(l++q),0<=x/\x<256:=by
  intro x hx
  simp only [List.mem_append] at hx
  rcases hx with h|h|h
  ·exact hp x h
  ·exact hl x h
  ·exact hq x h
 refine ⟨by omega,by rw [Qc1];simp only [List.length_append];omega,fun j hj=> ?_⟩
 rw [show (p.length:Int)+(j:Int)=((p.length+j:Nat):Int) by omega,Qsa hall (by simp only [List.length_append];omega)]
 simp [List.getD_eq_getElem?_getD,List.getElem?_append_right,List.getElem?_append_left hj]
theorem Qoi {s t:ByteArray} (hs:s.size=t.size) (h: ∀j:Nat,j<s.size->bAt s j=bAt t j):s=t:=by
 apply ByteArray.ext
 apply Array.ext
 ·exact hs
 ·intro j h1 h2
  have:=h j h1
  unfold bAt at this
  rw [Int.toNat_natCast] at this
  have e1:s.data.toList.getD j 0=s.data[j]:=by rw [List.getD_eq_getElem?_getD,List.getElem?_eq_getElem (by simpa using h1)];simp
  have e2:t.data.toList.getD j 0=t.data[j]:=by rw [List.getD_eq_getElem?_getD,List.getElem?_eq_getElem (by simpa using h2)];simp
  rw [e1,e2] at this
  exact UInt8.toNat_inj.1 (by omega)
def Qxe (n:Int):Int:=IntKind.i64.wrap n/4
def zz (n:Int):Int:=if 0<=Qxe n then 2*Qxe n else-2*Qxe n-1
def txt (s:ByteArray):ByteArray:=s.extract 0 (min s.size 99)
def ints (s:ByteArray):List Int:=s.data.toList.map fun b=>((b.toNat:Nat):Int)
theorem Qtr (s:ByteArray):(ints s).length=s.size:=by simp [ints]
theorem Q0o (s:ByteArray) (j:Nat) (h:j<s.size):(ints s).getD j 0=bAt s j:=by
 unfold ints bAt
 have h':j<s.data.toList.length:=by simpa using h
 rw [Int.toNat_natCast,List.getD_eq_getElem?_getD,List.getD_eq_getElem?_getD,List.getElem?_map,List.getElem?_eq_getElem h']
 rfl
def thL (k n:Int) (s:ByteArray):List Int:=
 if k%6=0 then pbL n else if k%6=1 then pbL (zz n) else if k%6=2 then [n%256] else if k%6=3 then [n%2]
 else if k%6=4 then pbL (txt s).size++ints (txt s) else pbL (n%1000)
theorem Qbae {S:ByteArray} {a:Int} {l:List Int} (hl: ∀x∈l,0<=x/\x<256) (h:Has S a l):S.extract a.toNat (a+l.length).toNat=bs l:=by
 obtain ⟨h0,h1,h2⟩:=h
 apply Qoi
 ·rw [ByteArray.size_extract,Qc1];omega
 ·intro j hj
  rw [ByteArray.size_extract] at hj
  rw [Qbz h0 (by omega) h1 (by omega) (by omega),h2 j (by omega),Qsa hl (by omega)]
def Qcz (l:List Int):List Int:=if l.getD 0 0<64 then [0] else if l.getD 0 0<16384 then [1] else if l.getD 0 0<1073741824 then [2] else [3]
def Qdu (l:List Int):List Int:=if l.getD 0 0<64 then [1] else if l.getD 0 0<16384 then [2] else if l.getD 0 0<1073741824 then [4] else [8]
noncomputable def numF (l:List Int):List Int:=numL (decB (l.getD 0 0)) (l.getD 1 0)
def Rd (l:List Int):Prop:=(decB (l.getD 3 0)).size<=1000000/\Has (decB (l.getD 3 0)) (l.getD 4 0) (thL (l.getD 0 0) (l.getD 1 0) (decB (l.getD 2 0)))
def Sh (l:List Int):Prop:=(decB (l.getD 3 0)).size<=1000000/\Cut (decB (l.getD 3 0)) (l.getD 4 0) (thL (l.getD 0 0) (l.getD 1 0) (decB (l.getD 2 0)))
end Go.Wbp
