/-
 Contracts of wire: how long a number is, and what is read at a place.
 No conditions.
-/
import Derived.Test.YtelimhjceiamcaaDoorChecked
import Derived.WalkKit
import Derived.Test.YtelimhjceiamcaaDoorBEv9
import Derived.Test.YtelimhjceiamcaaDoorBLgp
set_option maxRecDepth 100000
namespace Go.Proofs.YtelimhjceiamcaaDoor.lgn
open Go.Ev Go.RowKit Go.Wbp Go.Lgp
set_option linter.unusedVariables false
set_option linter.unusedSimpArgs false
theorem mixed:Tryd.prog.follows .mixedOrders=true:=Checked.mixed Tryd.checked
def wnIn (e:AVal):Blk:=.cells [.syms 0,.symi .i64 1,e] 107
def wnK:List (Option IntKind):=[none,some .i64]
def Qbkd:Shape:=⟨argT 0 [.ptr 0 0],[wnIn .niliface]⟩
def Qd9:Shape:=⟨[(0,.ptr 0 0),(2,.symi .u64 3),(3,.symi .i64 4),(4,.symi .i64 5)],[wnIn .niliface]⟩
def u1:List Sh:=[.one (.i .u64)]
def i1:List Sh:=[.one (.i .i64)]
def Qda:List Ent:=[⟨45,u1,i1,0⟩,⟨39,u1,i1,1⟩]
def Qqg (f:FuncId) (args:List AVal) (pre:List Blk) (v:AVal) (post:List Blk):SymF:=
 {f:=f,m:=2,ins:=wnK,args:=args,pre:=pre,pcs:=[.bin .leq (.int .i64 0) (.symi .i64 1),.bin .leq (.symi .i64 1) (.symi .i64 2),.bin .leq (.symi .i64 2) (.int .i64 1000000)],
  G:=[.sop .len [.syms 0],.fn 128 .u64 [.syms 0,.symi .i64 1],.fn 129 .i64 [.syms 0,.symi .i64 1],.fn 130 .i64 [.syms 0,.symi .i64 1],.bin .add (.symi .i64 1) (.symi .i64 4),.bin .neq (.symi .i64 5) (.int .i64 0),.ite (.symb 7) (.symi .i64 1) (.int .i64 0)],
  v:=v,post:=post}
def sf48:SymF:=Qqg 76 [.ptr 0 0] [wnIn .niliface] (.tuple [.symi .u64 3,.symi .i64 4,.symi .i64 5]) [wnIn .niliface]
theorem Qrk (n:Int):Qa 0 [n]=(Qcz [n]).getD 0 0:=by simp [Qa,Qfc,lgFs]
theorem tab_num (s:ByteArray) (a:Int) (j:Nat) (hj:j<3):Qa (128+j) [encB s,a]=(numL s a).getD j 0:=by
 have e1:(128+j)/64=2:=by omega
 have e2:(128+j)%64=j:=by omega
 show (lgFs ((128+j)/64) [encB s,a]).getD ((128+j)%64) 0=_
 rw [e1,e2]
 simp only [lgFs,numF]
 rw [if_neg (by decide),if_neg (by decide),if_pos trivial]
 simp only [List.getD_cons_zero,List.getD_cons_succ,Qet]
theorem Qrb (n:Int):(n<64/\(Qcz [n]).getD 0 0=0)\/(64<=n/\n<16384/\(Qcz [n]).getD 0 0=1)\/(16384<=n/\n<1073741824/\(Qcz [n]).getD 0 0=2)\/(1073741824<=n/\(Qcz [n]).getD 0 0=3):=by
 unfold Qcz
 simp only [List.getD_cons_zero]
 split
 ·exact .inl ⟨by omega,rfl⟩
 ·split
  ·exact .inr (.inl ⟨by omega,by omega,rfl⟩)
  ·split
   ·exact .inr (.inr (.inl ⟨by omega,by omega,rfl⟩))
   ·exact .inr (.inr (.inr ⟨by omega,rfl⟩))
def Qfe:List SDef:=[.bin .shr (.symi .u64 0) (.int .i64 6),
 .bin .gtr (.symi .u64 1) (.int .u64 0),
 .bin .shr (.symi .u64 0) (.int .i64 14),
 .bin .gtr (.symi .u64 3) (.int .u64 0),
 .bin .shr (.symi .u64 0) (.int .i64 30),
 .bin .gtr (.symi .u64 5) (.int .u64 0)]
def Q6s:LT:=Go.Wbp.fT 1 Qfe (.n (.n (.n .e 310590 1 .e) 710870 3 (.n .e 1511430 5 .e)) 101010725 2 (.n (.n .e 303011331 4 .e) 505011937 6 .e))
def Q6t:Wr':=.node 2 (.node 4 (.node 6 (.run (.leaf (.int .i64 3))) (.run (.leaf (.int .i64 2)))) (.node 6 (.dead) (.run (.leaf (.int .i64 1))))) (.node 4 (.dead) (.node 6 (.dead) (.run (.leaf (.int .i64 0)))))
theorem Qif {τ:Sig} (e:Eqs τ 1 Qfe):τ.ival 1=τ.ival 0/64:=(eqI (x:=(τ.ival 0:Int).fdiv (2^(min (6:Int).toNat IntKind.u64.bits))) (e.at 0 _ rfl rfl) rfl).trans (by rw [show (2:Int)^(min (6:Int).toNat IntKind.u64.bits)=64 by decide];exact Qbg (by decide))
theorem Qig {τ:Sig} (e:Eqs τ 1 Qfe):(bI (τ.bval 2)=1/\τ.ival 1>0)\/(bI (τ.bval 2)=0/\ ¬τ.ival 1>0):=Qbq (eqB (e.at 1 _ rfl rfl) rfl)
theorem Qih {τ:Sig} (e:Eqs τ 1 Qfe):τ.ival 3=τ.ival 0/16384:=(eqI (x:=(τ.ival 0:Int).fdiv (2^(min (14:Int).toNat IntKind.u64.bits))) (e.at 2 _ rfl rfl) rfl).trans (by rw [show (2:Int)^(min (14:Int).toNat IntKind.u64.bits)=16384 by decide];exact Qbg (by decide))
theorem Qii {τ:Sig} (e:Eqs τ 1 Qfe):(bI (τ.bval 4)=1/\τ.ival 3>0)\/(bI (τ.bval 4)=0/\ ¬τ.ival 3>0):=Qbq (eqB (e.at 3 _ rfl rfl) rfl)
theorem Qj9 {τ:Sig} (e:Eqs τ 1 Qfe):τ.ival 5=τ.ival 0/1073741824:=(eqI (x:=(τ.ival 0:Int).fdiv (2^(min (30:Int).toNat IntKind.u64.bits))) (e.at 4 _ rfl rfl) rfl).trans (by rw [show (2:Int)^(min (30:Int).toNat IntKind.u64.bits)=1073741824 by decide];exact Qbg (by decide))
theorem Qka {τ:Sig} (e:Eqs τ 1 Qfe):(bI (τ.bval 6)=1/\τ.ival 5>0)\/(bI (τ.bval 6)=0/\ ¬τ.ival 5>0):=Qbq (eqB (e.at 5 _ rfl rfl) rfl)
def Q6u:Ing:={m:=1,ins:=(cellsOf u1).map Qe0,G:=Qfe,T:=Q6s}
theorem Qbj3:okG Qfe 1=true:=by kernel_rfl
theorem Qbj2:okLT 1 Qfe Q6s=true:=by kernel_rfl
theorem Qbj4:okW (fun F=>(evD Tryd.prog (cxOf Q6u) true 1000 40).1 F 45 (Qhc u1 0) ⟨[],[]⟩) Q6t []=true:=by kernel_rfl
theorem Qbj1:FnOk Tryd.prog 45 u1 i1 Qcz:=
 Qzz (X:=Q6u) (W:=Q6t) mixed ⟨rfl,rfl,rfl,rfl,rfl⟩ Qbj3 Qbj2 (fun F=>Qcb rfl F) Qbj4 (fun l τ hl e _ hi _=>by
  match l,hl with
  |[a0],hl=>
  have w0:IntKind.u64.wrap a0=a0:=hl.1
  rw [Qj] at w0
  have v0:τ.ival 0=a0:=hi 0 (by decide)
  exact ⟨⟨⟨(fun hF=>by
   have p0:=ob_rT (Qig e) (hF.2.2.1)
   have p1:=ob_rT (Qii e) (hF.2.1)
   have p2:=ob_rT (Qka e) (hF.1)
   have q1:=Qif e
   have q3:=Qih e
   have q5:=Qj9 e
   have hv:Qcz [a0]=[3]:=by
    unfold Qcz
    simp only [List.getD_cons_zero]
    repeat (first|rw [if_pos (by omega)]|rw [if_neg (by omega)])
   rw [hv]
   exact ⟨rfl,trivial⟩),(fun hF=>by
   have p0:=ob_rT (Qig e) (hF.2.2.1)
   have p1:=ob_rT (Qii e) (hF.2.1)
   have p2:=ob_rF (Qka e) (hF.1)
   have q1:=Qif e
   have q3:=Qih e
   have q5:=Qj9 e
   have hv:Qcz [a0]=[2]:=by
    unfold Qcz
    simp only [List.getD_cons_zero]
    repeat (first|rw [if_pos (by omega)]|rw [if_neg (by omega)])
   rw [hv]
   exact ⟨rfl,trivial⟩)⟩,⟨(fun hF=>by have p0:=ob_rT (Qig e) (hF.2.2.1);have p1:=ob_rF (Qii e) (hF.2.1);have p2:=ob_rT (Qka e) (hF.1);have q1:=Qif e;have q3:=Qih e;have q5:=Qj9 e;omega),(fun hF=>by
   have p0:=ob_rT (Qig e) (hF.2.2.1)
   have p1:=ob_rF (Qii e) (hF.2.1)
   have p2:=ob_rF (Qka e) (hF.1)
   have q1:=Qif e
   have q3:=Qih e
   have q5:=Qj9 e
   have hv:Qcz [a0]=[1]:=by
    unfold Qcz
    simp only [List.getD_cons_zero]
    repeat (first|rw [if_pos (by omega)]|rw [if_neg (by omega)])
   rw [hv]
   exact ⟨rfl,trivial⟩)⟩⟩,⟨(fun hF=>by have p0:=ob_rF (Qig e) (hF.2.1);have p1:=ob_rT (Qii e) (hF.1);have q1:=Qif e;have q3:=Qih e;omega),⟨(fun hF=>by have p0:=ob_rF (Qig e) (hF.2.2.1);have p1:=ob_rF (Qii e) (hF.2.1);have p2:=ob_rT (Qka e) (hF.1);have q1:=Qif e;have q3:=Qih e;have q5:=Qj9 e;omega),(fun hF=>by
   have p0:=ob_rF (Qig e) (hF.2.2.1)
   have p1:=ob_rF (Qii e) (hF.2.1)
   have p2:=ob_rF (Qka e) (hF.1)
   have q1:=Qif e
   have q3:=Qih e
   have q5:=Qj9 e
   have hv:Qcz [a0]=[0]:=by
    unfold Qcz
    simp only [List.getD_cons_zero]
    repeat (first|rw [if_pos (by omega)]|rw [if_neg (by omega)])
   rw [hv]
   exact ⟨rfl,trivial⟩)⟩⟩⟩
 )
def Qij:List SDef:=[.bin .lss (.symi .u64 0) (.int .u64 64),
 .bin .lss (.symi .u64 0) (.int .u64 16384),
 .bin .lss (.symi .u64 0) (.int .u64 1073741824)]
def Q6v:LT:=Go.Wbp.fT 1 Qij (.n (.n .e 3212648 1 .e) 819783848 2 (.n .e 1073602130 3 .e))
def Q6w:Wr':=.node 1 (.node 2 (.node 3 (.run (.leaf (.int .i64 1))) (.dead)) (.dead)) (.node 2 (.node 3 (.run (.leaf (.int .i64 2))) (.dead)) (.node 3 (.run (.leaf (.int .i64 4))) (.run (.leaf (.int .i64 8)))))
theorem Qik {τ:Sig} (e:Eqs τ 1 Qij):(bI (τ.bval 1)=1/\τ.ival 0<64)\/(bI (τ.bval 1)=0/\ ¬τ.ival 0<64):=Qbq (eqB (e.at 0 _ rfl rfl) rfl)
theorem Qil {τ:Sig} (e:Eqs τ 1 Qij):(bI (τ.bval 2)=1/\τ.ival 0<16384)\/(bI (τ.bval 2)=0/\ ¬τ.ival 0<16384):=Qbq (eqB (e.at 1 _ rfl rfl) rfl)
theorem Qkb {τ:Sig} (e:Eqs τ 1 Qij):(bI (τ.bval 3)=1/\τ.ival 0<1073741824)\/(bI (τ.bval 3)=0/\ ¬τ.ival 0<1073741824):=Qbq (eqB (e.at 2 _ rfl rfl) rfl)
def Q6x:Ing:={m:=1,ins:=(cellsOf u1).map Qe0,G:=Qij,T:=Q6v}
theorem Qbj7:okG Qij 1=true:=by kernel_rfl
theorem Qbj6:okLT 1 Qij Q6v=true:=by kernel_rfl
theorem Qbj8:okW (fun F=>(evD Tryd.prog (cxOf Q6x) true 1000 40).1 F 39 (Qhc u1 0) ⟨[],[]⟩) Q6w []=true:=by kernel_rfl
theorem Qbj5:FnOk Tryd.prog 39 u1 i1 Qdu:=
 Qzz (X:=Q6x) (W:=Q6w) mixed ⟨rfl,rfl,rfl,rfl,rfl⟩ Qbj7 Qbj6 (fun F=>Qcb rfl F) Qbj8 (fun l τ hl e _ hi _=>by
  match l,hl with
  |[a0],hl=>
  have w0:IntKind.u64.wrap a0=a0:=hl.1
  rw [Qj] at w0
  have v0:τ.ival 0=a0:=hi 0 (by decide)
  exact ⟨⟨⟨(fun hF=>by
   have p0:=ob_rT (Qik e) (hF.2.2.1)
   have p1:=ob_rT (Qil e) (hF.2.1)
   have p2:=ob_rT (Qkb e) (hF.1)
   have hv:Qdu [a0]=[1]:=by
    unfold Qdu
    simp only [List.getD_cons_zero]
    repeat (first|rw [if_pos (by omega)]|rw [if_neg (by omega)])
   rw [hv]
   exact ⟨rfl,trivial⟩),(fun hF=>by have p0:=ob_rT (Qik e) (hF.2.2.1);have p1:=ob_rT (Qil e) (hF.2.1);have p2:=ob_rF (Qkb e) (hF.1);omega)⟩,(fun hF=>by have p0:=ob_rT (Qik e) (hF.2.1);have p1:=ob_rF (Qil e) (hF.1);omega)⟩,⟨⟨(fun hF=>by
   have p0:=ob_rF (Qik e) (hF.2.2.1)
   have p1:=ob_rT (Qil e) (hF.2.1)
   have p2:=ob_rT (Qkb e) (hF.1)
   have hv:Qdu [a0]=[2]:=by
    unfold Qdu
    simp only [List.getD_cons_zero]
    repeat (first|rw [if_pos (by omega)]|rw [if_neg (by omega)])
   rw [hv]
   exact ⟨rfl,trivial⟩),(fun hF=>by have p0:=ob_rF (Qik e) (hF.2.2.1);have p1:=ob_rT (Qil e) (hF.2.1);have p2:=ob_rF (Qkb e) (hF.1);omega)⟩,⟨(fun hF=>by
   have p0:=ob_rF (Qik e) (hF.2.2.1)
   have p1:=ob_rF (Qil e) (hF.2.1)
   have p2:=ob_rT (Qkb e) (hF.1)
   have hv:Qdu [a0]=[4]:=by
    unfold Qdu
    simp only [List.getD_cons_zero]
    repeat (first|rw [if_pos (by omega)]|rw [if_neg (by omega)])
   rw [hv]
   exact ⟨rfl,trivial⟩),(fun hF=>by
   have p0:=ob_rF (Qik e) (hF.2.2.1)
   have p1:=ob_rF (Qil e) (hF.2.1)
   have p2:=ob_rF (Qkb e) (hF.1)
   have hv:Qdu [a0]=[8]:=by
    unfold Qdu
    simp only [List.getD_cons_zero]
    repeat (first|rw [if_pos (by omega)]|rw [if_neg (by omega)])
   rw [hv]
   exact ⟨rfl,trivial⟩)⟩⟩⟩
 )
theorem Qbke {X:Ing} (hX:X.hook=Qrl (Qfc lgFs) Qda) (ht:X.tab=Qfc lgFs) (hT:okLT X.m X.G X.T=true) (F:List Fact) (f:FuncId) (args:List AVal) (v:AVal) (h:(cxOf X F).hook f args=some v) (hp:Hp):CallP Tryd.prog (cxOf X F) f args hp (.val v) hp:=
 Qbjh hT hX ht (fun e he=>by
  simp only [Qda,List.mem_cons,List.not_mem_nil,or_false] at he
  rcases he with rfl|rfl
  ·exact ⟨by decide,Qbj1⟩
  ·exact ⟨by decide,Qbj5⟩) F f args v h hp
theorem Qqo {x:Int} (h0:0<=x) (h1:x<256):IntKind.u64.wrap ((BitVec.ofInt IntKind.u64.bits 0|||BitVec.ofInt IntKind.u64.bits x).toNat:Int)=x:=by
 show IntKind.u64.wrap ((BitVec.ofInt 64 0|||BitVec.ofInt 64 x:BitVec 64).toNat:Int)=x
 rw [Qj,BitVec.toNat_or,BitVec.toNat_ofInt,BitVec.toNat_ofInt]
 have:((0:Int)%(2^64:Nat)).toNat=0:=by decide
 rw [this,Nat.zero_or]
 omega
theorem Qej {x b:Int} (h0:0<=x) (h1:x<72057594037927936) (h2:0<=b) (h3:b<256):IntKind.u64.wrap ((BitVec.ofInt IntKind.u64.bits (IntKind.u64.wrap (x*2^(min (8:Int).toNat IntKind.u64.bits)))|||BitVec.ofInt IntKind.u64.bits b).toNat:Int)=x*256+b:=by
 have e8:(2:Int)^(min (8:Int).toNat IntKind.u64.bits)=256:=by decide
 rw [e8,Qj,Qj]
 show ((BitVec.ofInt 64 (x*256%18446744073709551616)|||BitVec.ofInt 64 b:BitVec 64).toNat:Int)%_=_
 rw [BitVec.toNat_or,BitVec.toNat_ofInt,BitVec.toNat_ofInt]
 have e1:((x*256%18446744073709551616)%(2^64:Nat)).toNat=2^8*x.toNat:=by omega
 have e2:(b%(2^64:Nat)).toNat=b.toNat:=by omega
 rw [e1,e2,<-Nat.two_pow_add_eq_or_of_lt (by omega:b.toNat<2^8)]
 omega
theorem Qnq {y c:Int} (j k:Nat) (hc:c=((2^j*k:Nat):Int)) (h0:c<=y) (h1:y<c+((2^j:Nat):Int)) (h64:2^j*k+2^j<=18446744073709551616):IntKind.u64.wrap ((BitVec.ofInt IntKind.u64.bits y&&& ~~~BitVec.ofInt IntKind.u64.bits c).toNat:Int)=y-c:=by
 show IntKind.u64.wrap ((BitVec.ofInt 64 y&&& ~~~BitVec.ofInt 64 c:BitVec 64).toNat:Int)=_
 obtain ⟨r,hr⟩: ∃r:Nat,y=((2^j*k+r:Nat):Int):=⟨(y-c).toNat,by omega⟩
 have hrl:r<2^j:=by omega
 have e1:BitVec.ofInt 64 y=BitVec.ofNat 64 (2^j*k+r):=by rw [hr];exact BitVec.ofInt_natCast ..
 have e2:BitVec.ofInt 64 c=BitVec.ofNat 64 (2^j*k):=by rw [hc];exact BitVec.ofInt_natCast ..
 have key:BitVec.ofNat 64 (2^j*k+r)&&& ~~~BitVec.ofNat 64 (2^j*k)=BitVec.ofNat 64 r:=by
  apply BitVec.eq_of_getLsbD_eq
  intro i hi
  simp only [BitVec.getLsbD_and,BitVec.getLsbD_not,BitVec.getLsbD_ofNat,hi,decide_true,Bool.true_and]
  rw [Nat.testBit_two_pow_mul_add _ hrl,Nat.testBit_two_pow_mul]
  by_cases hij:i<j
  ·simp [hij,Nat.not_le.2 hij]
  ·have:r.testBit i=false:=Nat.testBit_lt_two_pow (Nat.lt_of_lt_of_le hrl (Nat.pow_le_pow_right (by decide) (by omega)))
   simp [hij,Nat.not_lt.1 hij,this]
 rw [e1,e2,key,BitVec.toNat_ofNat,Qj]
 have:r%2^64=r:=Nat.mod_eq_of_lt (by omega)
 rw [this]
 omega
def Qi:List SDef:=[.sop .len [.syms 0],
 .bin .leq (.int .i64 0) (.symi .i64 1),
 .bin .leq (.symi .i64 1) (.symi .i64 2),
 .bin .leq (.symi .i64 2) (.int .i64 1000000),
 .bin .lss (.symi .i64 1) (.symi .i64 2),
 .sop .at [.syms 0,.symi .i64 1],
 .bin .shr (.symi .u8 7) (.int .u64 6),
 .conv .i64 (.symi .u8 8),
 .bin .sub (.symi .i64 2) (.symi .i64 1),
 .bin .eql (.symi .i64 10) (.int .i64 0),
 .bin .lss (.symi .i64 10) (.int .i64 1),
 .bin .add (.symi .i64 1) (.int .i64 1),
 .bin .leq (.symi .i64 1) (.symi .i64 13),
 .bin .leq (.symi .i64 13) (.symi .i64 2),
 .sop .sub [.syms 0,.symi .i64 1,.symi .i64 13],
 .sop .at [.syms 16,.int .i64 0],
 .conv .u64 (.symi .u8 17),
 .bin .or (.int .u64 0) (.symi .u64 18),
 .bin .andNot (.symi .u64 19) (.int .u64 0),
 .fn 0 .i64 [.symi .u64 20],
 .bin .neq (.symi .i64 21) (.int .i64 0),
 .bin .lss (.symi .i64 10) (.int .i64 2),
 .bin .add (.symi .i64 1) (.int .i64 2),
 .bin .leq (.symi .i64 1) (.symi .i64 24),
 .bin .leq (.symi .i64 24) (.symi .i64 2),
 .sop .sub [.syms 0,.symi .i64 1,.symi .i64 24],
 .sop .at [.syms 27,.int .i64 0],
 .sop .at [.syms 27,.int .i64 1],
 .conv .u64 (.symi .u8 28),
 .bin .or (.int .u64 0) (.symi .u64 30),
 .bin .shl (.symi .u64 31) (.int .u64 8),
 .conv .u64 (.symi .u8 29),
 .bin .or (.symi .u64 32) (.symi .u64 33),
 .bin .andNot (.symi .u64 34) (.int .u64 16384),
 .fn 0 .i64 [.symi .u64 35],
 .bin .neq (.symi .i64 36) (.int .i64 1),
 .bin .lss (.symi .i64 10) (.int .i64 4),
 .bin .add (.symi .i64 1) (.int .i64 4),
 .bin .leq (.symi .i64 1) (.symi .i64 39),
 .bin .leq (.symi .i64 39) (.symi .i64 2),
 .sop .sub [.syms 0,.symi .i64 1,.symi .i64 39],
 .sop .at [.syms 42,.int .i64 0],
 .sop .at [.syms 42,.int .i64 1],
 .sop .at [.syms 42,.int .i64 2],
 .sop .at [.syms 42,.int .i64 3],
 .conv .u64 (.symi .u8 43),
 .bin .or (.int .u64 0) (.symi .u64 47),
 .bin .shl (.symi .u64 48) (.int .u64 8),
 .conv .u64 (.symi .u8 44),
 .bin .or (.symi .u64 49) (.symi .u64 50),
 .bin .shl (.symi .u64 51) (.int .u64 8),
 .conv .u64 (.symi .u8 45),
 .bin .or (.symi .u64 52) (.symi .u64 53),
 .bin .shl (.symi .u64 54) (.int .u64 8),
 .conv .u64 (.symi .u8 46),
 .bin .or (.symi .u64 55) (.symi .u64 56),
 .bin .andNot (.symi .u64 57) (.int .u64 2147483648),
 .fn 0 .i64 [.symi .u64 58],
 .bin .neq (.symi .i64 59) (.int .i64 2),
 .bin .lss (.symi .i64 10) (.int .i64 8),
 .bin .add (.symi .i64 1) (.int .i64 8),
 .bin .leq (.symi .i64 1) (.symi .i64 62),
 .bin .leq (.symi .i64 62) (.symi .i64 2),
 .sop .sub [.syms 0,.symi .i64 1,.symi .i64 62],
 .sop .at [.syms 65,.int .i64 0],
 .sop .at [.syms 65,.int .i64 1],
 .sop .at [.syms 65,.int .i64 2],
 .sop .at [.syms 65,.int .i64 3],
 .sop .at [.syms 65,.int .i64 4],
 .sop .at [.syms 65,.int .i64 5],
 .sop .at [.syms 65,.int .i64 6],
 .sop .at [.syms 65,.int .i64 7],
 .conv .u64 (.symi .u8 66),
 .bin .or (.int .u64 0) (.symi .u64 74),
 .bin .shl (.symi .u64 75) (.int .u64 8),
 .conv .u64 (.symi .u8 67),
 .bin .or (.symi .u64 76) (.symi .u64 77),
 .bin .shl (.symi .u64 78) (.int .u64 8),
 .conv .u64 (.symi .u8 68),
 .bin .or (.symi .u64 79) (.symi .u64 80),
 .bin .shl (.symi .u64 81) (.int .u64 8),
 .conv .u64 (.symi .u8 69),
 .bin .or (.symi .u64 82) (.symi .u64 83),
 .bin .shl (.symi .u64 84) (.int .u64 8),
 .conv .u64 (.symi .u8 70),
 .bin .or (.symi .u64 85) (.symi .u64 86),
 .bin .shl (.symi .u64 87) (.int .u64 8),
 .conv .u64 (.symi .u8 71),
 .bin .or (.symi .u64 88) (.symi .u64 89),
 .bin .shl (.symi .u64 90) (.int .u64 8),
 .conv .u64 (.symi .u8 72),
 .bin .or (.symi .u64 91) (.symi .u64 92),
 .bin .shl (.symi .u64 93) (.int .u64 8),
 .conv .u64 (.symi .u8 73),
 .bin .or (.symi .u64 94) (.symi .u64 95),
 .bin .andNot (.symi .u64 96) (.int .u64 13835058055282163712),
 .fn 0 .i64 [.symi .u64 97],
 .bin .neq (.symi .i64 98) (.int .i64 3)]
def Q6y:LT:=Go.Wbp.fT 2 Qi (.n (.n (.n (.n (.n (.n (.n .e 7086 2 .e) 1402011 27 (.n .e 2830100 95 .e)) 13860259 81 (.n (.n .e 31520932 48 .e) 37766812 97 .e)) 59240589 76 (.n (.n (.n .e 81834506 59 .e) 85717880 55 .e) 86785385 57 (.n (.n .e 101060655 13 .e) 101110690 24 .e))) 101210760 39 (.n (.n (.n (.n .e 101410900 62 .e) 118150939 66 .e) 118176824 67 (.n (.n .e 118202709 68 .e) 118228594 69 .e)) 118254479 70 (.n (.n (.n .e 118280364 71 .e) 118306249 72 .e) 118332134 73 (.n (.n .e 134046311 47 .e) 197502398 88 .e)))) 214367099 28 (.n (.n (.n (.n (.n .e 214392984 29 .e) 234513757 99 (.n .e 236717512 96 .e)) 237046620 50 (.n (.n .e 269659938 14 .e) 273180075 84 .e)) 290050948 36 (.n (.n (.n .e 330782094 41 .e) 340046929 53 .e) 343383805 3 (.n (.n .e 355569764 74 .e) 362241498 79 .e))) 388018313 58 (.n (.n (.n (.n .e 414845863 37 .e) 443047238 56 .e) 458570073 77 (.n (.n .e 472528707 21 .e) 500503307 91 .e)) 506305409 64 (.n (.n (.n .e 524782784 17 .e) 532499891 87 .e) 545384522 10 (.n (.n .e 553457889 49 .e) 561570382 80 .e))))) 571976130 43 (.n (.n (.n (.n (.n (.n .e 572002015 44 .e) 572027900 45 (.n .e 572053785 46 .e)) 590419213 60 (.n (.n .e 604064392 34 .e) 606918350 40 .e)) 636961068 31 (.n (.n (.n .e 641887580 51 .e) 664570691 83 .e) 665242407 82 (.n (.n .e 677263758 18 .e) 707312711 8 .e))) 712132922 75 (.n (.n (.n (.n .e 736525330 30 .e) 745861996 65 .e) 767571000 86 (.n (.n .e 787737881 6 .e) 787737888 4 .e)) 791819707 90 (.n (.n (.n .e 803504216 94 .e) 811685440 19 .e) 824002804 9 (.n (.n .e 825323815 25 .e) 828282270 78 .e)))) 839525639 33 (.n (.n (.n (.n (.n .e 844886979 5 .e) 845274317 20 .e) 856458798 52 (.n (.n .e 870571309 89 .e) 882226151 7 .e)) 895882525 98 (.n (.n (.n .e 901207396 54 .e) 925999697 15 .e) 944411355 16 (.n (.n .e 963261203 26 .e) 968243316 85 .e))) 973571618 92 (.n (.n (.n (.n .e 983936392 32 .e) 987857855 63 .e) 1010013424 11 (.n (.n .e 1010063473 12 .e) 1010113508 23 .e)) 1010213578 38 (.n (.n (.n .e 1010413718 61 .e) 1032568648 35 .e) 1047274937 22 (.n (.n .e 1051139523 93 .e) 1058189619 42 .e))))))
def Qbka:Sw:=.node 3 (.node 4 (.node 5 (.node 6 (.pick 9 0 (.run (.node 11 (.dead) (.node 12 (.dead) (.node 14 (.node 15 (.node 22 (.dead) (.leaf .ret Qd9 [(0,0)] [(3,.symi .u64 20),(4,.int .i64 1),(5,.int .i64 0),(0,.syms 0),(1,.symi .i64 1)] [])) (.dead)) (.dead))))) (.pick 9 1 (.run (.node 11 (.dead) (.node 23 (.leaf .ret Qd9 [(0,0)] [(3,.int .u64 0),(4,.int .i64 0),(5,.int .i64 3),(0,.syms 0),(1,.symi .i64 1)] []) (.node 25 (.node 26 (.node 37 (.leaf .ret Qd9 [(0,0)] [(3,.int .u64 0),(4,.int .i64 0),(5,.int .i64 5),(0,.syms 0),(1,.symi .i64 1)] []) (.leaf .ret Qd9 [(0,0)] [(3,.symi .u64 35),(4,.int .i64 2),(5,.int .i64 0),(0,.syms 0),(1,.symi .i64 1)] [])) (.dead)) (.dead))))) (.pick 9 2 (.run (.node 11 (.dead) (.node 38 (.leaf .ret Qd9 [(0,0)] [(3,.int .u64 0),(4,.int .i64 0),(5,.int .i64 3),(0,.syms 0),(1,.symi .i64 1)] []) (.node 40 (.node 41 (.node 60 (.leaf .ret Qd9 [(0,0)] [(3,.int .u64 0),(4,.int .i64 0),(5,.int .i64 5),(0,.syms 0),(1,.symi .i64 1)] []) (.leaf .ret Qd9 [(0,0)] [(3,.symi .u64 58),(4,.int .i64 4),(5,.int .i64 0),(0,.syms 0),(1,.symi .i64 1)] [])) (.dead)) (.dead))))) (.pick 9 3 (.run (.node 11 (.dead) (.node 61 (.leaf .ret Qd9 [(0,0)] [(3,.int .u64 0),(4,.int .i64 0),(5,.int .i64 3),(0,.syms 0),(1,.symi .i64 1)] []) (.node 63 (.node 64 (.node 99 (.leaf .ret Qd9 [(0,0)] [(3,.int .u64 0),(4,.int .i64 0),(5,.int .i64 5),(0,.syms 0),(1,.symi .i64 1)] []) (.leaf .ret Qd9 [(0,0)] [(3,.symi .u64 97),(4,.int .i64 8),(5,.int .i64 0),(0,.syms 0),(1,.symi .i64 1)] [])) (.dead)) (.dead))))) (.dead))))) (.run (.node 11 (.leaf .ret Qd9 [(0,0)] [(3,.int .u64 0),(4,.int .i64 0),(5,.int .i64 3),(0,.syms 0),(1,.symi .i64 1)] []) (.dead)))) (.dead)) (.dead)) (.dead)
def Qbj9:KdT:=.n (.n (.n (.n (.n (.n (.n .e none .e) (some .u64) (.n .e (some .u64) .e)) none (.n (.n .e (some .u64) .e) (some .u64) .e)) (some .u8) (.n (.n (.n .e (some .u8) .e) (some .i64) .e) none (.n (.n .e (some .u64) .e) (some .u64) .e))) none (.n (.n (.n (.n .e (some .u8) .e) (some .u64) (.n .e none .e)) (some .u64) (.n (.n .e (some .u64) .e) (some .u64) .e)) none (.n (.n (.n .e (some .u64) .e) (some .u8) .e) none (.n (.n .e (some .u64) .e) (some .i64) .e)))) (some .i64) (.n (.n (.n (.n (.n .e none .e) (some .u64) (.n .e (some .u64) .e)) (some .u8) (.n (.n .e (some .u64) .e) (some .u64) .e)) (some .i64) (.n (.n (.n .e (some .u8) .e) none .e) none (.n (.n .e (some .u64) .e) (some .u64) .e))) none (.n (.n (.n (.n .e (some .u8) .e) none .e) (some .i64) (.n (.n .e (some .u64) .e) (some .u64) .e)) (some .i64) (.n (.n (.n .e (some .u64) .e) (some .u8) .e) (some .u8) (.n (.n .e (some .u64) .e) none .e))))) none (.n (.n (.n (.n (.n (.n .e none .e) (some .u64) (.n .e (some .u64) .e)) none (.n (.n .e (some .u64) .e) (some .u64) .e)) none (.n (.n (.n .e (some .u8) .e) none .e) (some .i64) (.n (.n .e (some .u64) .e) (some .u64) .e))) none (.n (.n (.n (.n .e (some .u8) .e) (some .i64) .e) (some .u64) (.n (.n .e (some .u64) .e) (some .u64) .e)) none (.n (.n (.n .e (some .u64) .e) (some .u8) .e) (some .u8) (.n (.n .e (some .u64) .e) none .e)))) none (.n (.n (.n (.n (.n .e (some .u8) .e) (some .u64) (.n .e (some .i64) .e)) (some .u64) (.n (.n .e (some .u64) .e) (some .u64) .e)) (some .i64) (.n (.n (.n .e (some .u64) .e) none .e) none (.n (.n .e (some .u64) .e) (some .u64) .e))) none (.n (.n (.n (.n .e (some .u8) .e) none .e) none (.n (.n .e (some .u64) .e) (some .u64) .e)) none (.n (.n (.n .e (some .u64) .e) (some .u8) .e) (some .u64) (.n (.n .e (some .u64) .e) (some .i64) .e)))))
noncomputable def Qne:Ing:={m:=2,ins:=wnK,G:=Qi,T:=Q6y,hook:=Qrl (Qfc lgFs) Qda,tab:=Qfc lgFs,kb:=100,kt:=Qbj9}
theorem Qbkb:okG Qi 2=true:=by kernel_rfl
theorem Q6z:okLT 2 Qi Q6y=true:=by kernel_rfl
theorem Qbkc:SegOk Tryd.prog Qa 69 (Qe (Qc Tryd.f76)) Qbkd Qne Qbka where
 lt:=Q6z
 ok:=Qbkb
 hook:=fun F=>⟨fun f args v h hp=>Qbke rfl rfl Q6z F f args v h hp,fun f args hp v hp' h=>by simp only [Qne,cxOf,noMh,reduceCtorEq] at h,fun f k h=>by simp only [Qne,cxOf,reduceCtorEq] at h,fun k b h=>by simp only [Qne,cxOf,List.not_mem_nil] at h,fun f args hp v hp' h=>by simp only [Qne,cxOf,noMh,reduceCtorEq] at h⟩
 n0:=rfl
 id:=by kernel_rfl
 reck:=by kernel_rfl
 tab:=rfl
 cuts:=rfl
 kt:=by kernel_rfl
structure Pl (τ:Sig):Prop where
 lo:0<=τ.ival 1
 hi:τ.ival 1<=((τ.sval 0).size:Nat)
 sz:((τ.sval 0).size:Int)<=1000000
theorem Qnf {τ:Sig} (e:Eqs τ 2 Qi) (h:Pl τ):τ.ival 2=((τ.sval 0).size:Nat)/\0<=τ.ival 1/\τ.ival 1<=τ.ival 2/\τ.ival 2<=1000000/\τ.ival 7=bAt (τ.sval 0) (τ.ival 1)/\0<=bAt (τ.sval 0) (τ.ival 1)/\bAt (τ.sval 0) (τ.ival 1)<256:=by
 have h2:τ.ival 2=_:=Qbm (e.at 0 _ rfl rfl)
 have h7:τ.ival 7=_:=eqAt (e.at 5 _ rfl rfl) (show den τ (.symi .i64 1)=.int .i64 (τ.ival 1) from rfl)
 have:=Qd (τ.sval 0) (τ.ival 1)
 have:=h.lo
 have:=h.hi
 have:=h.sz
 rw [<-h2] at*
 exact ⟨rfl,by omega,by omega,by omega,h7,by omega,by omega⟩
theorem xo3 {τ:Sig} (e:Eqs τ 2 Qi):(bI (τ.bval 3)=1/\(0:Int)<=τ.ival 1)\/(bI (τ.bval 3)=0/\ ¬(0:Int)<=τ.ival 1):=Qbq (eqB (e.at 1 _ rfl rfl) rfl)
theorem xo4 {τ:Sig} (e:Eqs τ 2 Qi):(bI (τ.bval 4)=1/\τ.ival 1<=τ.ival 2)\/(bI (τ.bval 4)=0/\ ¬τ.ival 1<=τ.ival 2):=Qbq (eqB (e.at 2 _ rfl rfl) rfl)
theorem xo5 {τ:Sig} (e:Eqs τ 2 Qi):(bI (τ.bval 5)=1/\τ.ival 2<=1000000)\/(bI (τ.bval 5)=0/\ ¬τ.ival 2<=1000000):=Qbq (eqB (e.at 3 _ rfl rfl) rfl)
theorem xo6 {τ:Sig} (e:Eqs τ 2 Qi):(bI (τ.bval 6)=1/\τ.ival 1<τ.ival 2)\/(bI (τ.bval 6)=0/\ ¬τ.ival 1<τ.ival 2):=Qbq (eqB (e.at 4 _ rfl rfl) rfl)
theorem xo8 {τ:Sig} (e:Eqs τ 2 Qi):τ.ival 8=τ.ival 7/64:=(eqI (x:=(τ.ival 7:Int).fdiv (2^(min (6:Int).toNat IntKind.u8.bits))) (e.at 6 _ rfl rfl) rfl).trans (by rw [show (2:Int)^(min (6:Int).toNat IntKind.u8.bits)=64 by decide];exact Qbg (by decide))
theorem xo9 {τ:Sig} (e:Eqs τ 2 Qi):τ.ival 9=(τ.ival 8+9223372036854775808)%18446744073709551616-9223372036854775808:=(eqI (e.at 7 _ rfl rfl) rfl).trans (Qh _)
theorem xo10 {τ:Sig} (e:Eqs τ 2 Qi):τ.ival 10=(τ.ival 2-τ.ival 1+9223372036854775808)%18446744073709551616-9223372036854775808:=(eqI (e.at 8 _ rfl rfl) rfl).trans (Qh _)
theorem xo11 {τ:Sig} (e:Eqs τ 2 Qi):(bI (τ.bval 11)=1/\τ.ival 10=0)\/(bI (τ.bval 11)=0/\ ¬τ.ival 10=0):=ob_eq (eqB (e.at 9 _ rfl rfl) rfl)
theorem xo12 {τ:Sig} (e:Eqs τ 2 Qi):(bI (τ.bval 12)=1/\τ.ival 10<1)\/(bI (τ.bval 12)=0/\ ¬τ.ival 10<1):=Qbq (eqB (e.at 10 _ rfl rfl) rfl)
theorem xo13 {τ:Sig} (e:Eqs τ 2 Qi):τ.ival 13=(τ.ival 1+1+9223372036854775808)%18446744073709551616-9223372036854775808:=(eqI (e.at 11 _ rfl rfl) rfl).trans (Qh _)
theorem xo14 {τ:Sig} (e:Eqs τ 2 Qi):(bI (τ.bval 14)=1/\τ.ival 1<=τ.ival 13)\/(bI (τ.bval 14)=0/\ ¬τ.ival 1<=τ.ival 13):=Qbq (eqB (e.at 12 _ rfl rfl) rfl)
theorem xo15 {τ:Sig} (e:Eqs τ 2 Qi):(bI (τ.bval 15)=1/\τ.ival 13<=τ.ival 2)\/(bI (τ.bval 15)=0/\ ¬τ.ival 13<=τ.ival 2):=Qbq (eqB (e.at 13 _ rfl rfl) rfl)
theorem xo18 {τ:Sig} (e:Eqs τ 2 Qi):τ.ival 18=(τ.ival 17)%18446744073709551616:=(eqI (e.at 16 _ rfl rfl) rfl).trans (Qj _)
theorem xo22 {τ:Sig} (e:Eqs τ 2 Qi):(bI (τ.bval 22)=1/\ ¬τ.ival 21=0)\/(bI (τ.bval 22)=0/\τ.ival 21=0):=ob_ne (eqB (e.at 20 _ rfl rfl) rfl)
theorem xo23 {τ:Sig} (e:Eqs τ 2 Qi):(bI (τ.bval 23)=1/\τ.ival 10<2)\/(bI (τ.bval 23)=0/\ ¬τ.ival 10<2):=Qbq (eqB (e.at 21 _ rfl rfl) rfl)
theorem xo24 {τ:Sig} (e:Eqs τ 2 Qi):τ.ival 24=(τ.ival 1+2+9223372036854775808)%18446744073709551616-9223372036854775808:=(eqI (e.at 22 _ rfl rfl) rfl).trans (Qh _)
theorem xo25 {τ:Sig} (e:Eqs τ 2 Qi):(bI (τ.bval 25)=1/\τ.ival 1<=τ.ival 24)\/(bI (τ.bval 25)=0/\ ¬τ.ival 1<=τ.ival 24):=Qbq (eqB (e.at 23 _ rfl rfl) rfl)
theorem xo26 {τ:Sig} (e:Eqs τ 2 Qi):(bI (τ.bval 26)=1/\τ.ival 24<=τ.ival 2)\/(bI (τ.bval 26)=0/\ ¬τ.ival 24<=τ.ival 2):=Qbq (eqB (e.at 24 _ rfl rfl) rfl)
theorem xo30 {τ:Sig} (e:Eqs τ 2 Qi):τ.ival 30=(τ.ival 28)%18446744073709551616:=(eqI (e.at 28 _ rfl rfl) rfl).trans (Qj _)
theorem xo33 {τ:Sig} (e:Eqs τ 2 Qi):τ.ival 33=(τ.ival 29)%18446744073709551616:=(eqI (e.at 31 _ rfl rfl) rfl).trans (Qj _)
theorem xo37 {τ:Sig} (e:Eqs τ 2 Qi):(bI (τ.bval 37)=1/\ ¬τ.ival 36=1)\/(bI (τ.bval 37)=0/\τ.ival 36=1):=ob_ne (eqB (e.at 35 _ rfl rfl) rfl)
theorem xo38 {τ:Sig} (e:Eqs τ 2 Qi):(bI (τ.bval 38)=1/\τ.ival 10<4)\/(bI (τ.bval 38)=0/\ ¬τ.ival 10<4):=Qbq (eqB (e.at 36 _ rfl rfl) rfl)
theorem xo39 {τ:Sig} (e:Eqs τ 2 Qi):τ.ival 39=(τ.ival 1+4+9223372036854775808)%18446744073709551616-9223372036854775808:=(eqI (e.at 37 _ rfl rfl) rfl).trans (Qh _)
theorem xo40 {τ:Sig} (e:Eqs τ 2 Qi):(bI (τ.bval 40)=1/\τ.ival 1<=τ.ival 39)\/(bI (τ.bval 40)=0/\ ¬τ.ival 1<=τ.ival 39):=Qbq (eqB (e.at 38 _ rfl rfl) rfl)
theorem xo41 {τ:Sig} (e:Eqs τ 2 Qi):(bI (τ.bval 41)=1/\τ.ival 39<=τ.ival 2)\/(bI (τ.bval 41)=0/\ ¬τ.ival 39<=τ.ival 2):=Qbq (eqB (e.at 39 _ rfl rfl) rfl)
theorem xo47 {τ:Sig} (e:Eqs τ 2 Qi):τ.ival 47=(τ.ival 43)%18446744073709551616:=(eqI (e.at 45 _ rfl rfl) rfl).trans (Qj _)
theorem xo50 {τ:Sig} (e:Eqs τ 2 Qi):τ.ival 50=(τ.ival 44)%18446744073709551616:=(eqI (e.at 48 _ rfl rfl) rfl).trans (Qj _)
theorem xo53 {τ:Sig} (e:Eqs τ 2 Qi):τ.ival 53=(τ.ival 45)%18446744073709551616:=(eqI (e.at 51 _ rfl rfl) rfl).trans (Qj _)
theorem xo56 {τ:Sig} (e:Eqs τ 2 Qi):τ.ival 56=(τ.ival 46)%18446744073709551616:=(eqI (e.at 54 _ rfl rfl) rfl).trans (Qj _)
theorem xo60 {τ:Sig} (e:Eqs τ 2 Qi):(bI (τ.bval 60)=1/\ ¬τ.ival 59=2)\/(bI (τ.bval 60)=0/\τ.ival 59=2):=ob_ne (eqB (e.at 58 _ rfl rfl) rfl)
theorem xo61 {τ:Sig} (e:Eqs τ 2 Qi):(bI (τ.bval 61)=1/\τ.ival 10<8)\/(bI (τ.bval 61)=0/\ ¬τ.ival 10<8):=Qbq (eqB (e.at 59 _ rfl rfl) rfl)
theorem xo62 {τ:Sig} (e:Eqs τ 2 Qi):τ.ival 62=(τ.ival 1+8+9223372036854775808)%18446744073709551616-9223372036854775808:=(eqI (e.at 60 _ rfl rfl) rfl).trans (Qh _)
theorem xo63 {τ:Sig} (e:Eqs τ 2 Qi):(bI (τ.bval 63)=1/\τ.ival 1<=τ.ival 62)\/(bI (τ.bval 63)=0/\ ¬τ.ival 1<=τ.ival 62):=Qbq (eqB (e.at 61 _ rfl rfl) rfl)
theorem xo64 {τ:Sig} (e:Eqs τ 2 Qi):(bI (τ.bval 64)=1/\τ.ival 62<=τ.ival 2)\/(bI (τ.bval 64)=0/\ ¬τ.ival 62<=τ.ival 2):=Qbq (eqB (e.at 62 _ rfl rfl) rfl)
theorem xo74 {τ:Sig} (e:Eqs τ 2 Qi):τ.ival 74=(τ.ival 66)%18446744073709551616:=(eqI (e.at 72 _ rfl rfl) rfl).trans (Qj _)
theorem xo77 {τ:Sig} (e:Eqs τ 2 Qi):τ.ival 77=(τ.ival 67)%18446744073709551616:=(eqI (e.at 75 _ rfl rfl) rfl).trans (Qj _)
theorem xo80 {τ:Sig} (e:Eqs τ 2 Qi):τ.ival 80=(τ.ival 68)%18446744073709551616:=(eqI (e.at 78 _ rfl rfl) rfl).trans (Qj _)
theorem xo83 {τ:Sig} (e:Eqs τ 2 Qi):τ.ival 83=(τ.ival 69)%18446744073709551616:=(eqI (e.at 81 _ rfl rfl) rfl).trans (Qj _)
theorem xo86 {τ:Sig} (e:Eqs τ 2 Qi):τ.ival 86=(τ.ival 70)%18446744073709551616:=(eqI (e.at 84 _ rfl rfl) rfl).trans (Qj _)
theorem xo89 {τ:Sig} (e:Eqs τ 2 Qi):τ.ival 89=(τ.ival 71)%18446744073709551616:=(eqI (e.at 87 _ rfl rfl) rfl).trans (Qj _)
theorem xo92 {τ:Sig} (e:Eqs τ 2 Qi):τ.ival 92=(τ.ival 72)%18446744073709551616:=(eqI (e.at 90 _ rfl rfl) rfl).trans (Qj _)
theorem xo95 {τ:Sig} (e:Eqs τ 2 Qi):τ.ival 95=(τ.ival 73)%18446744073709551616:=(eqI (e.at 93 _ rfl rfl) rfl).trans (Qj _)
theorem xo99 {τ:Sig} (e:Eqs τ 2 Qi):(bI (τ.bval 99)=1/\ ¬τ.ival 98=3)\/(bI (τ.bval 99)=0/\τ.ival 98=3):=ob_ne (eqB (e.at 97 _ rfl rfl) rfl)
theorem Q60 {τ:Sig} (e:Eqs τ 2 Qi) (hp:Pl τ) (hk:0<=bAt (τ.sval 0) (τ.ival 1)/\bAt (τ.sval 0) (τ.ival 1)<64) (hm:τ.ival 1+1<=((τ.sval 0).size:Nat)):τ.ival 20=bAt (τ.sval 0) (τ.ival 1):=by
 have b:=Qnf e hp
 have hh:τ.ival 13=τ.ival 1+1:=by have:=xo13 e;omega
 have hs:τ.sval 16=(τ.sval 0).extract (τ.ival 1).toNat (τ.ival 1+1).toNat:=by
  have:τ.sval 16=(τ.sval 0).extract (τ.ival 1).toNat (τ.ival 13).toNat:=Qfn (e.at 14 _ rfl rfl) (show den τ (.symi .i64 1)=.int .i64 (τ.ival 1) from rfl) (show den τ (.symi .i64 13)=.int .i64 (τ.ival 13) from rfl)
  rw [hh] at this;exact this
 have a0:τ.ival 17=bAt (τ.sval 0) (τ.ival 1+0):=by
  have:τ.ival 17=bAt (τ.sval 16) 0:=eqAt (e.at 15 _ rfl rfl) (show den τ (.int .i64 0)=.int .i64 0 from rfl)
  rw [hs,Qbz (by omega) (by omega) (by omega) (by omega) (by omega)] at this;exact this
 have c0:τ.ival 18=bAt (τ.sval 0) (τ.ival 1+0):=by have:=xo18 e;have:=Qd (τ.sval 0) (τ.ival 1+0);omega
 have d0:=Qd (τ.sval 0) (τ.ival 1+0)
 have y0:τ.ival 19=bAt (τ.sval 0) (τ.ival 1+0):=by
  have:τ.ival 19=IntKind.u64.wrap (BitVec.ofInt IntKind.u64.bits (0)|||BitVec.ofInt IntKind.u64.bits (τ.ival 18)).toNat:=eqI (e.at 17 _ rfl rfl) rfl
  rw [c0,Qqo d0.1 d0.2] at this;exact this
 have z:τ.ival 20=IntKind.u64.wrap (BitVec.ofInt IntKind.u64.bits (τ.ival 19)&&& ~~~BitVec.ofInt IntKind.u64.bits (0)).toNat:=eqI (e.at 18 _ rfl rfl) rfl
 rw [y0] at z
 simp only [Int.add_zero] at*
 rw [Qnq 6 0 (by decide) (by omega) (by omega) (by decide)] at z
 rw [z];omega
theorem Q61 {τ:Sig} (e:Eqs τ 2 Qi) (hp:Pl τ) (hk:64<=bAt (τ.sval 0) (τ.ival 1)/\bAt (τ.sval 0) (τ.ival 1)<128) (hm:τ.ival 1+2<=((τ.sval 0).size:Nat)):τ.ival 35=((bAt (τ.sval 0) (τ.ival 1)-64)*256+bAt (τ.sval 0) (τ.ival 1+1)):=by
 have b:=Qnf e hp
 have hh:τ.ival 24=τ.ival 1+2:=by have:=xo24 e;omega
 have hs:τ.sval 27=(τ.sval 0).extract (τ.ival 1).toNat (τ.ival 1+2).toNat:=by
  have:τ.sval 27=(τ.sval 0).extract (τ.ival 1).toNat (τ.ival 24).toNat:=Qfn (e.at 25 _ rfl rfl) (show den τ (.symi .i64 1)=.int .i64 (τ.ival 1) from rfl) (show den τ (.symi .i64 24)=.int .i64 (τ.ival 24) from rfl)
  rw [hh] at this;exact this
 have a0:τ.ival 28=bAt (τ.sval 0) (τ.ival 1+0):=by
  have:τ.ival 28=bAt (τ.sval 27) 0:=eqAt (e.at 26 _ rfl rfl) (show den τ (.int .i64 0)=.int .i64 0 from rfl)
  rw [hs,Qbz (by omega) (by omega) (by omega) (by omega) (by omega)] at this;exact this
 have c0:τ.ival 30=bAt (τ.sval 0) (τ.ival 1+0):=by have:=xo30 e;have:=Qd (τ.sval 0) (τ.ival 1+0);omega
 have d0:=Qd (τ.sval 0) (τ.ival 1+0)
 have y0:τ.ival 31=bAt (τ.sval 0) (τ.ival 1+0):=by
  have:τ.ival 31=IntKind.u64.wrap (BitVec.ofInt IntKind.u64.bits (0)|||BitVec.ofInt IntKind.u64.bits (τ.ival 30)).toNat:=eqI (e.at 29 _ rfl rfl) rfl
  rw [c0,Qqo d0.1 d0.2] at this;exact this
 have a1:τ.ival 29=bAt (τ.sval 0) (τ.ival 1+1):=by
  have:τ.ival 29=bAt (τ.sval 27) 1:=eqAt (e.at 27 _ rfl rfl) (show den τ (.int .i64 1)=.int .i64 1 from rfl)
  rw [hs,Qbz (by omega) (by omega) (by omega) (by omega) (by omega)] at this;exact this
 have c1:τ.ival 33=bAt (τ.sval 0) (τ.ival 1+1):=by have:=xo33 e;have:=Qd (τ.sval 0) (τ.ival 1+1);omega
 have d1:=Qd (τ.sval 0) (τ.ival 1+1)
 have y1:τ.ival 34=(bAt (τ.sval 0) (τ.ival 1+0))*256+bAt (τ.sval 0) (τ.ival 1+1):=by
  have h1:τ.ival 32=IntKind.u64.wrap (τ.ival 31*2^(min (8:Int).toNat IntKind.u64.bits)):=eqI (e.at 30 _ rfl rfl) rfl
  have h2:τ.ival 34=IntKind.u64.wrap (BitVec.ofInt IntKind.u64.bits (τ.ival 32)|||BitVec.ofInt IntKind.u64.bits (τ.ival 33)).toNat:=eqI (e.at 32 _ rfl rfl) rfl
  rw [h1,c1,y0,Qej (by omega) (by omega) d1.1 d1.2] at h2;exact h2
 have z:τ.ival 35=IntKind.u64.wrap (BitVec.ofInt IntKind.u64.bits (τ.ival 34)&&& ~~~BitVec.ofInt IntKind.u64.bits (16384)).toNat:=eqI (e.at 33 _ rfl rfl) rfl
 rw [y1] at z
 simp only [Int.add_zero] at*
 rw [Qnq 14 1 (by decide) (by omega) (by omega) (by decide)] at z
 rw [z];omega
theorem Q62 {τ:Sig} (e:Eqs τ 2 Qi) (hp:Pl τ) (hk:128<=bAt (τ.sval 0) (τ.ival 1)/\bAt (τ.sval 0) (τ.ival 1)<192) (hm:τ.ival 1+4<=((τ.sval 0).size:Nat)):τ.ival 58=((((bAt (τ.sval 0) (τ.ival 1)-128)*256+bAt (τ.sval 0) (τ.ival 1+1))*256+bAt (τ.sval 0) (τ.ival 1+2))*256+bAt (τ.sval 0) (τ.ival 1+3)):=by
 have b:=Qnf e hp
 have hh:τ.ival 39=τ.ival 1+4:=by have:=xo39 e;omega
 have hs:τ.sval 42=(τ.sval 0).extract (τ.ival 1).toNat (τ.ival 1+4).toNat:=by
  have:τ.sval 42=(τ.sval 0).extract (τ.ival 1).toNat (τ.ival 39).toNat:=Qfn (e.at 40 _ rfl rfl) (show den τ (.symi .i64 1)=.int .i64 (τ.ival 1) from rfl) (show den τ (.symi .i64 39)=.int .i64 (τ.ival 39) from rfl)
  rw [hh] at this;exact this
 have a0:τ.ival 43=bAt (τ.sval 0) (τ.ival 1+0):=by
  have:τ.ival 43=bAt (τ.sval 42) 0:=eqAt (e.at 41 _ rfl rfl) (show den τ (.int .i64 0)=.int .i64 0 from rfl)
  rw [hs,Qbz (by omega) (by omega) (by omega) (by omega) (by omega)] at this;exact this
 have c0:τ.ival 47=bAt (τ.sval 0) (τ.ival 1+0):=by have:=xo47 e;have:=Qd (τ.sval 0) (τ.ival 1+0);omega
 have d0:=Qd (τ.sval 0) (τ.ival 1+0)
 have y0:τ.ival 48=bAt (τ.sval 0) (τ.ival 1+0):=by
  have:τ.ival 48=IntKind.u64.wrap (BitVec.ofInt IntKind.u64.bits (0)|||BitVec.ofInt IntKind.u64.bits (τ.ival 47)).toNat:=eqI (e.at 46 _ rfl rfl) rfl
  rw [c0,Qqo d0.1 d0.2] at this;exact this
 have a1:τ.ival 44=bAt (τ.sval 0) (τ.ival 1+1):=by
  have:τ.ival 44=bAt (τ.sval 42) 1:=eqAt (e.at 42 _ rfl rfl) (show den τ (.int .i64 1)=.int .i64 1 from rfl)
  rw [hs,Qbz (by omega) (by omega) (by omega) (by omega) (by omega)] at this;exact this
 have c1:τ.ival 50=bAt (τ.sval 0) (τ.ival 1+1):=by have:=xo50 e;have:=Qd (τ.sval 0) (τ.ival 1+1);omega
 have d1:=Qd (τ.sval 0) (τ.ival 1+1)
 have y1:τ.ival 51=(bAt (τ.sval 0) (τ.ival 1+0))*256+bAt (τ.sval 0) (τ.ival 1+1):=by
  have h1:τ.ival 49=IntKind.u64.wrap (τ.ival 48*2^(min (8:Int).toNat IntKind.u64.bits)):=eqI (e.at 47 _ rfl rfl) rfl
  have h2:τ.ival 51=IntKind.u64.wrap (BitVec.ofInt IntKind.u64.bits (τ.ival 49)|||BitVec.ofInt IntKind.u64.bits (τ.ival 50)).toNat:=eqI (e.at 49 _ rfl rfl) rfl
  rw [h1,c1,y0,Qej (by omega) (by omega) d1.1 d1.2] at h2;exact h2
 have a2:τ.ival 45=bAt (τ.sval 0) (τ.ival 1+2):=by
  have:τ.ival 45=bAt (τ.sval 42) 2:=eqAt (e.at 43 _ rfl rfl) (show den τ (.int .i64 2)=.int .i64 2 from rfl)
  rw [hs,Qbz (by omega) (by omega) (by omega) (by omega) (by omega)] at this;exact this
 have c2:τ.ival 53=bAt (τ.sval 0) (τ.ival 1+2):=by have:=xo53 e;have:=Qd (τ.sval 0) (τ.ival 1+2);omega
 have d2:=Qd (τ.sval 0) (τ.ival 1+2)
 have y2:τ.ival 54=((bAt (τ.sval 0) (τ.ival 1+0))*256+bAt (τ.sval 0) (τ.ival 1+1))*256+bAt (τ.sval 0) (τ.ival 1+2):=by
  have h1:τ.ival 52=IntKind.u64.wrap (τ.ival 51*2^(min (8:Int).toNat IntKind.u64.bits)):=eqI (e.at 50 _ rfl rfl) rfl
  have h2:τ.ival 54=IntKind.u64.wrap (BitVec.ofInt IntKind.u64.bits (τ.ival 52)|||BitVec.ofInt IntKind.u64.bits (τ.ival 53)).toNat:=eqI (e.at 52 _ rfl rfl) rfl
  rw [h1,c2,y1,Qej (by omega) (by omega) d2.1 d2.2] at h2;exact h2
 have a3:τ.ival 46=bAt (τ.sval 0) (τ.ival 1+3):=by
  have:τ.ival 46=bAt (τ.sval 42) 3:=eqAt (e.at 44 _ rfl rfl) (show den τ (.int .i64 3)=.int .i64 3 from rfl)
  rw [hs,Qbz (by omega) (by omega) (by omega) (by omega) (by omega)] at this;exact this
 have c3:τ.ival 56=bAt (τ.sval 0) (τ.ival 1+3):=by have:=xo56 e;have:=Qd (τ.sval 0) (τ.ival 1+3);omega
 have d3:=Qd (τ.sval 0) (τ.ival 1+3)
 have y3:τ.ival 57=(((bAt (τ.sval 0) (τ.ival 1+0))*256+bAt (τ.sval 0) (τ.ival 1+1))*256+bAt (τ.sval 0) (τ.ival 1+2))*256+bAt (τ.sval 0) (τ.ival 1+3):=by
  have h1:τ.ival 55=IntKind.u64.wrap (τ.ival 54*2^(min (8:Int).toNat IntKind.u64.bits)):=eqI (e.at 53 _ rfl rfl) rfl
  have h2:τ.ival 57=IntKind.u64.wrap (BitVec.ofInt IntKind.u64.bits (τ.ival 55)|||BitVec.ofInt IntKind.u64.bits (τ.ival 56)).toNat:=eqI (e.at 55 _ rfl rfl) rfl
  rw [h1,c3,y2,Qej (by omega) (by omega) d3.1 d3.2] at h2;exact h2
 have z:τ.ival 58=IntKind.u64.wrap (BitVec.ofInt IntKind.u64.bits (τ.ival 57)&&& ~~~BitVec.ofInt IntKind.u64.bits (2147483648)).toNat:=eqI (e.at 56 _ rfl rfl) rfl
 rw [y3] at z
 simp only [Int.add_zero] at*
 rw [Qnq 30 2 (by decide) (by omega) (by omega) (by decide)] at z
 rw [z];omega
theorem Q63 {τ:Sig} (e:Eqs τ 2 Qi) (hp:Pl τ) (hk:192<=bAt (τ.sval 0) (τ.ival 1)/\bAt (τ.sval 0) (τ.ival 1)<256) (hm:τ.ival 1+8<=((τ.sval 0).size:Nat)):τ.ival 97=((((((((bAt (τ.sval 0) (τ.ival 1)-192)*256+bAt (τ.sval 0) (τ.ival 1+1))*256+bAt (τ.sval 0) (τ.ival 1+2))*256+bAt (τ.sval 0) (τ.ival 1+3))*256+bAt (τ.sval 0) (τ.ival 1+4))*256+bAt (τ.sval 0) (τ.ival 1+5))*256+bAt (τ.sval 0) (τ.ival 1+6))*256+bAt (τ.sval 0) (τ.ival 1+7)):=by
 have b:=Qnf e hp
 have hh:τ.ival 62=τ.ival 1+8:=by have:=xo62 e;omega
 have hs:τ.sval 65=(τ.sval 0).extract (τ.ival 1).toNat (τ.ival 1+8).toNat:=by
  have:τ.sval 65=(τ.sval 0).extract (τ.ival 1).toNat (τ.ival 62).toNat:=Qfn (e.at 63 _ rfl rfl) (show den τ (.symi .i64 1)=.int .i64 (τ.ival 1) from rfl) (show den τ (.symi .i64 62)=.int .i64 (τ.ival 62) from rfl)
  rw [hh] at this;exact this
 have a0:τ.ival 66=bAt (τ.sval 0) (τ.ival 1+0):=by
  have:τ.ival 66=bAt (τ.sval 65) 0:=eqAt (e.at 64 _ rfl rfl) (show den τ (.int .i64 0)=.int .i64 0 from rfl)
  rw [hs,Qbz (by omega) (by omega) (by omega) (by omega) (by omega)] at this;exact this
 have c0:τ.ival 74=bAt (τ.sval 0) (τ.ival 1+0):=by have:=xo74 e;have:=Qd (τ.sval 0) (τ.ival 1+0);omega
 have d0:=Qd (τ.sval 0) (τ.ival 1+0)
 have y0:τ.ival 75=bAt (τ.sval 0) (τ.ival 1+0):=by
  have:τ.ival 75=IntKind.u64.wrap (BitVec.ofInt IntKind.u64.bits (0)|||BitVec.ofInt IntKind.u64.bits (τ.ival 74)).toNat:=eqI (e.at 73 _ rfl rfl) rfl
  rw [c0,Qqo d0.1 d0.2] at this;exact this
 have a1:τ.ival 67=bAt (τ.sval 0) (τ.ival 1+1):=by
  have:τ.ival 67=bAt (τ.sval 65) 1:=eqAt (e.at 65 _ rfl rfl) (show den τ (.int .i64 1)=.int .i64 1 from rfl)
  rw [hs,Qbz (by omega) (by omega) (by omega) (by omega) (by omega)] at this;exact this
 have c1:τ.ival 77=bAt (τ.sval 0) (τ.ival 1+1):=by have:=xo77 e;have:=Qd (τ.sval 0) (τ.ival 1+1);omega
 have d1:=Qd (τ.sval 0) (τ.ival 1+1)
 have y1:τ.ival 78=(bAt (τ.sval 0) (τ.ival 1+0))*256+bAt (τ.sval 0) (τ.ival 1+1):=by
  have h1:τ.ival 76=IntKind.u64.wrap (τ.ival 75*2^(min (8:Int).toNat IntKind.u64.bits)):=eqI (e.at 74 _ rfl rfl) rfl
  have h2:τ.ival 78=IntKind.u64.wrap (BitVec.ofInt IntKind.u64.bits (τ.ival 76)|||BitVec.ofInt IntKind.u64.bits (τ.ival 77)).toNat:=eqI (e.at 76 _ rfl rfl) rfl
  rw [h1,c1,y0,Qej (by omega) (by omega) d1.1 d1.2] at h2;exact h2
 have a2:τ.ival 68=bAt (τ.sval 0) (τ.ival 1+2):=by
  have:τ.ival 68=bAt (τ.sval 65) 2:=eqAt (e.at 66 _ rfl rfl) (show den τ (.int .i64 2)=.int .i64 2 from rfl)
  rw [hs,Qbz (by omega) (by omega) (by omega) (by omega) (by omega)] at this;exact this
 have c2:τ.ival 80=bAt (τ.sval 0) (τ.ival 1+2):=by have:=xo80 e;have:=Qd (τ.sval 0) (τ.ival 1+2);omega
 have d2:=Qd (τ.sval 0) (τ.ival 1+2)
 have y2:τ.ival 81=((bAt (τ.sval 0) (τ.ival 1+0))*256+bAt (τ.sval 0) (τ.ival 1+1))*256+bAt (τ.sval 0) (τ.ival 1+2):=by
  have h1:τ.ival 79=IntKind.u64.wrap (τ.ival 78*2^(min (8:Int).toNat IntKind.u64.bits)):=eqI (e.at 77 _ rfl rfl) rfl
  have h2:τ.ival 81=IntKind.u64.wrap (BitVec.ofInt IntKind.u64.bits (τ.ival 79)|||BitVec.ofInt IntKind.u64.bits (τ.ival 80)).toNat:=eqI (e.at 79 _ rfl rfl) rfl
  rw [h1,c2,y1,Qej (by omega) (by omega) d2.1 d2.2] at h2;exact h2
 have a3:τ.ival 69=bAt (τ.sval 0) (τ.ival 1+3):=by
  have:τ.ival 69=bAt (τ.sval 65) 3:=eqAt (e.at 67 _ rfl rfl) (show den τ (.int .i64 3)=.int .i64 3 from rfl)
  rw [hs,Qbz (by omega) (by omega) (by omega) (by omega) (by omega)] at this;exact this
 have c3:τ.ival 83=bAt (τ.sval 0) (τ.ival 1+3):=by have:=xo83 e;have:=Qd (τ.sval 0) (τ.ival 1+3);omega
 have d3:=Qd (τ.sval 0) (τ.ival 1+3)
 have y3:τ.ival 84=(((bAt (τ.sval 0) (τ.ival 1+0))*256+bAt (τ.sval 0) (τ.ival 1+1))*256+bAt (τ.sval 0) (τ.ival 1+2))*256+bAt (τ.sval 0) (τ.ival 1+3):=by
  have h1:τ.ival 82=IntKind.u64.wrap (τ.ival 81*2^(min (8:Int).toNat IntKind.u64.bits)):=eqI (e.at 80 _ rfl rfl) rfl
  have h2:τ.ival 84=IntKind.u64.wrap (BitVec.ofInt IntKind.u64.bits (τ.ival 82)|||BitVec.ofInt IntKind.u64.bits (τ.ival 83)).toNat:=eqI (e.at 82 _ rfl rfl) rfl
  rw [h1,c3,y2,Qej (by omega) (by omega) d3.1 d3.2] at h2;exact h2
 have a4:τ.ival 70=bAt (τ.sval 0) (τ.ival 1+4):=by
  have:τ.ival 70=bAt (τ.sval 65) 4:=eqAt (e.at 68 _ rfl rfl) (show den τ (.int .i64 4)=.int .i64 4 from rfl)
  rw [hs,Qbz (by omega) (by omega) (by omega) (by omega) (by omega)] at this;exact this
 have c4:τ.ival 86=bAt (τ.sval 0) (τ.ival 1+4):=by have:=xo86 e;have:=Qd (τ.sval 0) (τ.ival 1+4);omega
 have d4:=Qd (τ.sval 0) (τ.ival 1+4)
 have y4:τ.ival 87=((((bAt (τ.sval 0) (τ.ival 1+0))*256+bAt (τ.sval 0) (τ.ival 1+1))*256+bAt (τ.sval 0) (τ.ival 1+2))*256+bAt (τ.sval 0) (τ.ival 1+3))*256+bAt (τ.sval 0) (τ.ival 1+4):=by
  have h1:τ.ival 85=IntKind.u64.wrap (τ.ival 84*2^(min (8:Int).toNat IntKind.u64.bits)):=eqI (e.at 83 _ rfl rfl) rfl
  have h2:τ.ival 87=IntKind.u64.wrap (BitVec.ofInt IntKind.u64.bits (τ.ival 85)|||BitVec.ofInt IntKind.u64.bits (τ.ival 86)).toNat:=eqI (e.at 85 _ rfl rfl) rfl
  rw [h1,c4,y3,Qej (by omega) (by omega) d4.1 d4.2] at h2;exact h2
 have a5:τ.ival 71=bAt (τ.sval 0) (τ.ival 1+5):=by
  have:τ.ival 71=bAt (τ.sval 65) 5:=eqAt (e.at 69 _ rfl rfl) (show den τ (.int .i64 5)=.int .i64 5 from rfl)
  rw [hs,Qbz (by omega) (by omega) (by omega) (by omega) (by omega)] at this;exact this
 have c5:τ.ival 89=bAt (τ.sval 0) (τ.ival 1+5):=by have:=xo89 e;have:=Qd (τ.sval 0) (τ.ival 1+5);omega
 have d5:=Qd (τ.sval 0) (τ.ival 1+5)
 have y5:τ.ival 90=(((((bAt (τ.sval 0) (τ.ival 1+0))*256+bAt (τ.sval 0) (τ.ival 1+1))*256+bAt (τ.sval 0) (τ.ival 1+2))*256+bAt (τ.sval 0) (τ.ival 1+3))*256+bAt (τ.sval 0) (τ.ival 1+4))*256+bAt (τ.sval 0) (τ.ival 1+5):=by
  have h1:τ.ival 88=IntKind.u64.wrap (τ.ival 87*2^(min (8:Int).toNat IntKind.u64.bits)):=eqI (e.at 86 _ rfl rfl) rfl
  have h2:τ.ival 90=IntKind.u64.wrap (BitVec.ofInt IntKind.u64.bits (τ.ival 88)|||BitVec.ofInt IntKind.u64.bits (τ.ival 89)).toNat:=eqI (e.at 88 _ rfl rfl) rfl
  rw [h1,c5,y4,Qej (by omega) (by omega) d5.1 d5.2] at h2;exact h2
 have a6:τ.ival 72=bAt (τ.sval 0) (τ.ival 1+6):=by
  have:τ.ival 72=bAt (τ.sval 65) 6:=eqAt (e.at 70 _ rfl rfl) (show den τ (.int .i64 6)=.int .i64 6 from rfl)
  rw [hs,Qbz (by omega) (by omega) (by omega) (by omega) (by omega)] at this;exact this
 have c6:τ.ival 92=bAt (τ.sval 0) (τ.ival 1+6):=by have:=xo92 e;have:=Qd (τ.sval 0) (τ.ival 1+6);omega
 have d6:=Qd (τ.sval 0) (τ.ival 1+6)
 have y6:τ.ival 93=((((((bAt (τ.sval 0) (τ.ival 1+0))*256+bAt (τ.sval 0) (τ.ival 1+1))*256+bAt (τ.sval 0) (τ.ival 1+2))*256+bAt (τ.sval 0) (τ.ival 1+3))*256+bAt (τ.sval 0) (τ.ival 1+4))*256+bAt (τ.sval 0) (τ.ival 1+5))*256+bAt (τ.sval 0) (τ.ival 1+6):=by
  have h1:τ.ival 91=IntKind.u64.wrap (τ.ival 90*2^(min (8:Int).toNat IntKind.u64.bits)):=eqI (e.at 89 _ rfl rfl) rfl
  have h2:τ.ival 93=IntKind.u64.wrap (BitVec.ofInt IntKind.u64.bits (τ.ival 91)|||BitVec.ofInt IntKind.u64.bits (τ.ival 92)).toNat:=eqI (e.at 91 _ rfl rfl) rfl
  rw [h1,c6,y5,Qej (by omega) (by omega) d6.1 d6.2] at h2;exact h2
 have a7:τ.ival 73=bAt (τ.sval 0) (τ.ival 1+7):=by
  have:τ.ival 73=bAt (τ.sval 65) 7:=eqAt (e.at 71 _ rfl rfl) (show den τ (.int .i64 7)=.int .i64 7 from rfl)
  rw [hs,Qbz (by omega) (by omega) (by omega) (by omega) (by omega)] at this;exact this
 have c7:τ.ival 95=bAt (τ.sval 0) (τ.ival 1+7):=by have:=xo95 e;have:=Qd (τ.sval 0) (τ.ival 1+7);omega
 have d7:=Qd (τ.sval 0) (τ.ival 1+7)
 have y7:τ.ival 96=(((((((bAt (τ.sval 0) (τ.ival 1+0))*256+bAt (τ.sval 0) (τ.ival 1+1))*256+bAt (τ.sval 0) (τ.ival 1+2))*256+bAt (τ.sval 0) (τ.ival 1+3))*256+bAt (τ.sval 0) (τ.ival 1+4))*256+bAt (τ.sval 0) (τ.ival 1+5))*256+bAt (τ.sval 0) (τ.ival 1+6))*256+bAt (τ.sval 0) (τ.ival 1+7):=by
  have h1:τ.ival 94=IntKind.u64.wrap (τ.ival 93*2^(min (8:Int).toNat IntKind.u64.bits)):=eqI (e.at 92 _ rfl rfl) rfl
  have h2:τ.ival 96=IntKind.u64.wrap (BitVec.ofInt IntKind.u64.bits (τ.ival 94)|||BitVec.ofInt IntKind.u64.bits (τ.ival 95)).toNat:=eqI (e.at 94 _ rfl rfl) rfl
  rw [h1,c7,y6,Qej (by omega) (by omega) d7.1 d7.2] at h2;exact h2
 have z:τ.ival 97=IntKind.u64.wrap (BitVec.ofInt IntKind.u64.bits (τ.ival 96)&&& ~~~BitVec.ofInt IntKind.u64.bits (13835058055282163712)).toNat:=eqI (e.at 95 _ rfl rfl) rfl
 rw [y7] at z
 simp only [Int.add_zero] at*
 rw [Qnq 62 3 (by decide) (by omega) (by omega) (by decide)] at z
 rw [z];omega
theorem xo21 {τ:Sig} (e:Eqs τ 2 Qi) (hp:Pl τ) (ht:τ.tab=Qa):(τ.ival 20<64/\τ.ival 21=0)\/(64<=τ.ival 20/\τ.ival 20<16384/\τ.ival 21=1)\/(16384<=τ.ival 20/\τ.ival 20<1073741824/\τ.ival 21=2)\/(1073741824<=τ.ival 20/\τ.ival 21=3):=by
 have h:τ.ival 21=IntKind.i64.wrap (τ.tab 0 [τ.ival 20]):=eqI (e.at 19 _ rfl rfl) rfl
 rw [ht,Qrk,Qh] at h
 have:=Qrb (τ.ival 20)
 omega
theorem xo36 {τ:Sig} (e:Eqs τ 2 Qi) (hp:Pl τ) (ht:τ.tab=Qa):(τ.ival 35<64/\τ.ival 36=0)\/(64<=τ.ival 35/\τ.ival 35<16384/\τ.ival 36=1)\/(16384<=τ.ival 35/\τ.ival 35<1073741824/\τ.ival 36=2)\/(1073741824<=τ.ival 35/\τ.ival 36=3):=by
 have h:τ.ival 36=IntKind.i64.wrap (τ.tab 0 [τ.ival 35]):=eqI (e.at 34 _ rfl rfl) rfl
 rw [ht,Qrk,Qh] at h
 have:=Qrb (τ.ival 35)
 omega
theorem xo59 {τ:Sig} (e:Eqs τ 2 Qi) (hp:Pl τ) (ht:τ.tab=Qa):(τ.ival 58<64/\τ.ival 59=0)\/(64<=τ.ival 58/\τ.ival 58<16384/\τ.ival 59=1)\/(16384<=τ.ival 58/\τ.ival 58<1073741824/\τ.ival 59=2)\/(1073741824<=τ.ival 58/\τ.ival 59=3):=by
 have h:τ.ival 59=IntKind.i64.wrap (τ.tab 0 [τ.ival 58]):=eqI (e.at 57 _ rfl rfl) rfl
 rw [ht,Qrk,Qh] at h
 have:=Qrb (τ.ival 58)
 omega
theorem xo98 {τ:Sig} (e:Eqs τ 2 Qi) (hp:Pl τ) (ht:τ.tab=Qa):(τ.ival 97<64/\τ.ival 98=0)\/(64<=τ.ival 97/\τ.ival 97<16384/\τ.ival 98=1)\/(16384<=τ.ival 97/\τ.ival 97<1073741824/\τ.ival 98=2)\/(1073741824<=τ.ival 97/\τ.ival 98=3):=by
 have h:τ.ival 98=IntKind.i64.wrap (τ.tab 0 [τ.ival 97]):=eqI (e.at 96 _ rfl rfl) rfl
 rw [ht,Qrk,Qh] at h
 have:=Qrb (τ.ival 97)
 omega
theorem E48 {g:Inj} {w:World} {τ:Sig} {l:Asg} {hH:HRel (cx0 Qa) g sf48.pre w} {hg:g.sig.tab=Qa} (h:Qin (asgS τ l) g.sig [(3,.symi .u64 3),(4,.symi .i64 4),(5,.symi .i64 5),(0,.syms 0),(1,.symi .i64 1)]) (hx:τ.ext=g.sig.ext):
  EndZ Qa 69 (Qbh g w sf48.pre.length) (bodyPost Tryd.prog Tryd.f76 (MemR Qa sf48 g w)) .ret Qd9 (asgS τ l):=
 Qeu (M:=9) (vs:=[.symi .u64 3,.symi .i64 4,.symi .i64 5]) (by kernel_rfl) rfl rfl hH hg rfl rfl rfl (by kernel_rfl) (by kernel_rfl) h (Nat.le_refl _) hx (.inl rfl)
theorem g_num {g:Sig} (ht:g.tab=Qa) {e:SymF} (he:e.G=sf48.G) (h:Eqs g 2 e.G):g.ival 3=IntKind.u64.wrap ((numL (g.sval 0) (g.ival 1)).getD 0 0)/\g.ival 4=IntKind.i64.wrap ((numL (g.sval 0) (g.ival 1)).getD 1 0)/\g.ival 5=IntKind.i64.wrap ((numL (g.sval 0) (g.ival 1)).getD 2 0):=by
 rw [he] at h
 have h3:g.ival 3=IntKind.u64.wrap (g.tab 128 [encB (g.sval 0),g.ival 1]):=eqI (h.at 1 _ rfl rfl) rfl
 have h4:g.ival 4=IntKind.i64.wrap (g.tab 129 [encB (g.sval 0),g.ival 1]):=eqI (h.at 2 _ rfl rfl) rfl
 have h5:g.ival 5=IntKind.i64.wrap (g.tab 130 [encB (g.sval 0),g.ival 1]):=eqI (h.at 3 _ rfl rfl) rfl
 rw [ht,tab_num _ _ 0 (by decide)] at h3
 rw [ht,tab_num _ _ 1 (by decide)] at h4
 rw [ht,tab_num _ _ 2 (by decide)] at h5
 exact ⟨h3,h4,h5⟩
theorem Qz6 {g:Sig} (ht:g.tab=Qa) {e:SymF} (he:e.G=sf48.G) (h:Eqs g 2 e.G):g.ival 3=(numL (g.sval 0) (g.ival 1)).getD 0 0/\g.ival 4=(numL (g.sval 0) (g.ival 1)).getD 1 0/\g.ival 5=(numL (g.sval 0) (g.ival 1)).getD 2 0:=by
 obtain ⟨h1,h2,h3⟩:=g_num ht he h
 have:=Qh1 (g.sval 0) (g.ival 1)
 rw [Qj] at h1
 rw [Qh] at h2 h3
 exact ⟨by omega,by omega,by omega⟩
theorem Q98 {g:Sig} (ht:g.tab=Qa) {e:SymF} (he:e.G=sf48.G) (h:Eqs g 2 e.G):g.ival 3=(numL (g.sval 0) (g.ival 1)).getD 0 0/\g.ival 4=(numL (g.sval 0) (g.ival 1)).getD 1 0/\g.ival 5=(numL (g.sval 0) (g.ival 1)).getD 2 0/\
  (Pl g->g.ival 6=g.ival 1+(numL (g.sval 0) (g.ival 1)).getD 1 0)/\g.ival 8=if (numL (g.sval 0) (g.ival 1)).getD 2 0=0 then 0 else g.ival 1:=by
 obtain ⟨h1,h2,h3⟩:=Qz6 ht he h
 rw [he] at h
 have h6:g.ival 6=IntKind.i64.wrap (g.ival 1+g.ival 4):=eqI (h.at 4 _ rfl rfl) rfl
 have h7:g.bval 7=(g.ival 5 !=0):=eqB (h.at 5 _ rfl rfl) rfl
 have h8:g.ival 8=(bif g.bval 7 then g.ival 1 else 0):=Qi0 (h.at 6 _ rfl rfl) rfl rfl rfl
 have:=Qh1 (g.sval 0) (g.ival 1)
 refine ⟨h1,h2,h3,fun hp=> ?_,?_⟩
 ·have:=hp.lo
  have:=hp.hi
  have:=hp.sz
  rw [Qh] at h6
  omega
 ·rw [h8,h7,h3]
  by_cases hc:(numL (g.sval 0) (g.ival 1)).getD 2 0=0
  ·rw [if_pos hc,hc];rfl
  ·rw [if_neg hc,bne_iff_ne.2 hc];rfl
theorem g_pl {g:Sig} {e:SymF} (he:e.G=sf48.G/\e.pcs=sf48.pcs) (h:Eqs g 2 e.G) (hp: ∀d,d∈e.pcs->Qb g d=some (.bool true)):Pl g:=by
 obtain ⟨he,hq⟩:=he
 rw [he] at h
 rw [hq] at hp
 have h2:g.ival 2=_:=Qbm (h.at 0 _ rfl rfl)
 have p1:=hp (.bin .leq (.int .i64 0) (.symi .i64 1)) (by simp [sf48,Qqg])
 have p2:=hp (.bin .leq (.symi .i64 1) (.symi .i64 2)) (by simp [sf48,Qqg])
 have p3:=hp (.bin .leq (.symi .i64 2) (.int .i64 1000000)) (by simp [sf48,Qqg])
 simp only [Qb,den,binS,intA,if_true,Option.some.injEq,AVal.bool.injEq,decide_eq_true_eq] at p1 p2 p3
 rw [h2] at p2 p3
 exact ⟨p1,p2,p3⟩
set_option maxHeartbeats 0 in
theorem wn48_contract:SymFOk Tryd.prog Qa (fun _=>True) sf48:=
  Qel Tryd.func76 rfl (n:=69) rfl (by decide) (by decide) rfl rfl (by kernel_rfl) (fun g w hg _ hE hI hpc hH=>by
    have hpg:Pl g.sig:=g_pl ⟨rfl,rfl⟩ hE hpc
    refine Qf.last mixed Qbkc ⟨rfl,rfl⟩ (fun σ τ ag h=>h.trans' ag) (fun τ h=>Qbe) (fun τ e ht hi ag=> ?_) ?_
    . have hs0:AVal.str (τ.sval 0)=.str (g.sig.sval 0):=by rw [(ag.val 0 (by decide)).2.2]
      have hs1:AVal.int .i64 (τ.ival 1)=.int .i64 (g.sig.ival 1):=by rw [(ag.val 1 (by decide)).1]
      have hs1':g.sig.ival 1=τ.ival 1:=(ag.val 1 (by decide)).1
      have hx:τ.ext=g.sig.ext:=ag.ext.symm
      have hp:Pl τ:=by
        have e1:=(ag.val 1 (by decide)).1
        have e2:=(ag.val 0 (by decide)).2.2
        exact ⟨by rw [<-e1];exact hpg.lo,by rw [<-e1,<-e2];exact hpg.hi,by rw [<-e2];exact hpg.sz⟩
      have gn:=Qz6 (e:=sf48) hg rfl hE
      have gr:=Q98 (e:=sf48) hg rfl hE
      rw [(ag.val 1 (by decide)).1,(ag.val 0 (by decide)).2.2] at gn gr
      have b:=Qnf e hp
      refine Q6 ?_
      exact ⟨fun f0=>have p0:=ob_rT (xo3 e) f0;⟨fun f1=>have p1:=ob_rT (xo4 e) f1;⟨fun f2=>have p2:=ob_rT (xo5 e) f2;⟨fun f3=>have p3:=ob_rT (xo6 e) f3;⟨fun f4=>have q4:=xo9 e;⟨fun f5=>have p5:=ob_rT (xo11 e) f5;(by have:=xo8 e;have:=xo9 e;have:=xo10 e;omega),
 fun f5=>have p5:=ob_rF (xo11 e) f5;⟨fun f6=>have p6:=ob_rT (xo12 e) f6;(by have:=xo8 e;have:=xo9 e;have:=xo10 e;omega),
 fun f6=>have p6:=ob_rF (xo12 e) f6;⟨fun f7=>have p7:=ob_rT (xo14 e) f7;⟨fun f8=>have p8:=ob_rT (xo15 e) f8;⟨fun f9=>have p9:=ob_rT (xo22 e) f9;(by have:=xo8 e;have:=xo9 e;have:=xo10 e;have:=xo13 e;have:=xo21 e hp ht;have:=xo21 e hp ht;have hv:=Q60 e hp (by omega) (by omega);omega),
 fun f9=>have p9:=ob_rF (xo22 e) f9;(by have:=xo8 e;have:=xo9 e;have:=xo10 e;have:=xo13 e;have:=xo21 e hp ht;have hv:=Q60 e hp (by omega) (by omega);have hL:numL (τ.sval 0) (τ.ival 1)=[τ.ival 20,1,0]:=(by unfold numL;(repeat (first|rw [if_pos (by omega)]|rw [if_neg (by omega)]));rw [show τ.ival 20=bAt (τ.sval 0) (τ.ival 1) by omega]);exact E48 (hH:=hH) (hg:=hg) ⟨(show AVal.int .u64 (τ.ival 20)=.int .u64 (g.sig.ival 3) by rw [gn.1,hL];rfl),(show AVal.int .i64 (1)=.int .i64 (g.sig.ival 4) by rw [gn.2.1,hL];rfl),(show AVal.int .i64 (0)=.int .i64 (g.sig.ival 5) by rw [gn.2.2,hL];rfl),hs0,hs1,trivial⟩ hx)⟩,
 fun f8=>have p8:=ob_rF (xo15 e) f8;(by have:=xo8 e;have:=xo9 e;have:=xo10 e;have:=xo13 e;omega)⟩,
 fun f7=>have p7:=ob_rF (xo14 e) f7;(by have:=xo8 e;have:=xo9 e;have:=xo10 e;have:=xo13 e;omega)⟩⟩⟩,
 fun f4=>have q4:=xo9 e;⟨fun f5=>have q5:=xo9 e;⟨fun f6=>have p6:=ob_rT (xo11 e) f6;(by have:=xo8 e;have:=xo9 e;have:=xo10 e;omega),
 fun f6=>have p6:=ob_rF (xo11 e) f6;⟨fun f7=>have p7:=ob_rT (xo23 e) f7;(by have:=xo8 e;have:=xo9 e;have:=xo10 e;have:=Qd (τ.sval 0) (τ.ival 1+1);have hL:numL (τ.sval 0) (τ.ival 1)=[0,0,3]:=(by unfold numL;(repeat (first|rw [if_pos (by omega)]|rw [if_neg (by omega)])));exact E48 (hH:=hH) (hg:=hg) ⟨(show AVal.int .u64 (0)=.int .u64 (g.sig.ival 3) by rw [gn.1,hL];rfl),(show AVal.int .i64 (0)=.int .i64 (g.sig.ival 4) by rw [gn.2.1,hL];rfl),(show AVal.int .i64 (3)=.int .i64 (g.sig.ival 5) by rw [gn.2.2,hL];rfl),hs0,hs1,trivial⟩ hx),
 fun f7=>have p7:=ob_rF (xo23 e) f7;⟨fun f8=>have p8:=ob_rT (xo25 e) f8;⟨fun f9=>have p9:=ob_rT (xo26 e) f9;⟨fun f10=>have p10:=ob_rT (xo37 e) f10;(by have:=xo8 e;have:=xo9 e;have:=xo10 e;have:=xo24 e;have:=xo36 e hp ht;have hv:=Q61 e hp (by omega) (by omega);have:=Qd (τ.sval 0) (τ.ival 1+1);have hL:numL (τ.sval 0) (τ.ival 1)=[0,0,5]:=(by unfold numL;(repeat (first|rw [if_pos (by omega)]|rw [if_neg (by omega)])));exact E48 (hH:=hH) (hg:=hg) ⟨(show AVal.int .u64 (0)=.int .u64 (g.sig.ival 3) by rw [gn.1,hL];rfl),(show AVal.int .i64 (0)=.int .i64 (g.sig.ival 4) by rw [gn.2.1,hL];rfl),(show AVal.int .i64 (5)=.int .i64 (g.sig.ival 5) by rw [gn.2.2,hL];rfl),hs0,hs1,trivial⟩ hx),
 fun f10=>have p10:=ob_rF (xo37 e) f10;(by have:=xo8 e;have:=xo9 e;have:=xo10 e;have:=xo24 e;have:=xo36 e hp ht;have hv:=Q61 e hp (by omega) (by omega);have:=Qd (τ.sval 0) (τ.ival 1+1);have hL:numL (τ.sval 0) (τ.ival 1)=[τ.ival 35,2,0]:=(by unfold numL;(repeat (first|rw [if_pos (by omega)]|rw [if_neg (by omega)]));rw [hv]);exact E48 (hH:=hH) (hg:=hg) ⟨(show AVal.int .u64 (τ.ival 35)=.int .u64 (g.sig.ival 3) by rw [gn.1,hL];rfl),(show AVal.int .i64 (2)=.int .i64 (g.sig.ival 4) by rw [gn.2.1,hL];rfl),(show AVal.int .i64 (0)=.int .i64 (g.sig.ival 5) by rw [gn.2.2,hL];rfl),hs0,hs1,trivial⟩ hx)⟩,
 fun f9=>have p9:=ob_rF (xo26 e) f9;(by have:=xo8 e;have:=xo9 e;have:=xo10 e;have:=xo24 e;omega)⟩,
 fun f8=>have p8:=ob_rF (xo25 e) f8;(by have:=xo8 e;have:=xo9 e;have:=xo10 e;have:=xo24 e;omega)⟩⟩⟩,
 fun f5=>have q5:=xo9 e;⟨fun f6=>have q6:=xo9 e;⟨fun f7=>have p7:=ob_rT (xo11 e) f7;(by have:=xo8 e;have:=xo9 e;have:=xo10 e;omega),
 fun f7=>have p7:=ob_rF (xo11 e) f7;⟨fun f8=>have p8:=ob_rT (xo38 e) f8;(by have:=xo8 e;have:=xo9 e;have:=xo10 e;have:=Qd (τ.sval 0) (τ.ival 1+1);have:=Qd (τ.sval 0) (τ.ival 1+2);have:=Qd (τ.sval 0) (τ.ival 1+3);have hL:numL (τ.sval 0) (τ.ival 1)=[0,0,3]:=(by unfold numL;(repeat (first|rw [if_pos (by omega)]|rw [if_neg (by omega)])));exact E48 (hH:=hH) (hg:=hg) ⟨(show AVal.int .u64 (0)=.int .u64 (g.sig.ival 3) by rw [gn.1,hL];rfl),(show AVal.int .i64 (0)=.int .i64 (g.sig.ival 4) by rw [gn.2.1,hL];rfl),(show AVal.int .i64 (3)=.int .i64 (g.sig.ival 5) by rw [gn.2.2,hL];rfl),hs0,hs1,trivial⟩ hx),
 fun f8=>have p8:=ob_rF (xo38 e) f8;⟨fun f9=>have p9:=ob_rT (xo40 e) f9;⟨fun f10=>have p10:=ob_rT (xo41 e) f10;⟨fun f11=>have p11:=ob_rT (xo60 e) f11;(by have:=xo8 e;have:=xo9 e;have:=xo10 e;have:=xo39 e;have:=xo59 e hp ht;have hv:=Q62 e hp (by omega) (by omega);have:=Qd (τ.sval 0) (τ.ival 1+1);have:=Qd (τ.sval 0) (τ.ival 1+2);have:=Qd (τ.sval 0) (τ.ival 1+3);have hL:numL (τ.sval 0) (τ.ival 1)=[0,0,5]:=(by unfold numL;(repeat (first|rw [if_pos (by omega)]|rw [if_neg (by omega)])));exact E48 (hH:=hH) (hg:=hg) ⟨(show AVal.int .u64 (0)=.int .u64 (g.sig.ival 3) by rw [gn.1,hL];rfl),(show AVal.int .i64 (0)=.int .i64 (g.sig.ival 4) by rw [gn.2.1,hL];rfl),(show AVal.int .i64 (5)=.int .i64 (g.sig.ival 5) by rw [gn.2.2,hL];rfl),hs0,hs1,trivial⟩ hx),
 fun f11=>have p11:=ob_rF (xo60 e) f11;(by have:=xo8 e;have:=xo9 e;have:=xo10 e;have:=xo39 e;have:=xo59 e hp ht;have hv:=Q62 e hp (by omega) (by omega);have:=Qd (τ.sval 0) (τ.ival 1+1);have:=Qd (τ.sval 0) (τ.ival 1+2);have:=Qd (τ.sval 0) (τ.ival 1+3);have hL:numL (τ.sval 0) (τ.ival 1)=[τ.ival 58,4,0]:=(by unfold numL;(repeat (first|rw [if_pos (by omega)]|rw [if_neg (by omega)]));rw [hv]);exact E48 (hH:=hH) (hg:=hg) ⟨(show AVal.int .u64 (τ.ival 58)=.int .u64 (g.sig.ival 3) by rw [gn.1,hL];rfl),(show AVal.int .i64 (4)=.int .i64 (g.sig.ival 4) by rw [gn.2.1,hL];rfl),(show AVal.int .i64 (0)=.int .i64 (g.sig.ival 5) by rw [gn.2.2,hL];rfl),hs0,hs1,trivial⟩ hx)⟩,
 fun f10=>have p10:=ob_rF (xo41 e) f10;(by have:=xo8 e;have:=xo9 e;have:=xo10 e;have:=xo39 e;omega)⟩,
 fun f9=>have p9:=ob_rF (xo40 e) f9;(by have:=xo8 e;have:=xo9 e;have:=xo10 e;have:=xo39 e;omega)⟩⟩⟩,
 fun f6=>have q6:=xo9 e;⟨fun f7=>have q7:=xo9 e;⟨fun f8=>have p8:=ob_rT (xo11 e) f8;(by have:=xo8 e;have:=xo9 e;have:=xo10 e;omega),
 fun f8=>have p8:=ob_rF (xo11 e) f8;⟨fun f9=>have p9:=ob_rT (xo61 e) f9;(by have:=xo8 e;have:=xo9 e;have:=xo10 e;have:=Qd (τ.sval 0) (τ.ival 1+1);have:=Qd (τ.sval 0) (τ.ival 1+2);have:=Qd (τ.sval 0) (τ.ival 1+3);have:=Qd (τ.sval 0) (τ.ival 1+4);have:=Qd (τ.sval 0) (τ.ival 1+5);have:=Qd (τ.sval 0) (τ.ival 1+6);have:=Qd (τ.sval 0) (τ.ival 1+7);have hL:numL (τ.sval 0) (τ.ival 1)=[0,0,3]:=(by unfold numL;(repeat (first|rw [if_pos (by omega)]|rw [if_neg (by omega)])));exact E48 (hH:=hH) (hg:=hg) ⟨(show AVal.int .u64 (0)=.int .u64 (g.sig.ival 3) by rw [gn.1,hL];rfl),(show AVal.int .i64 (0)=.int .i64 (g.sig.ival 4) by rw [gn.2.1,hL];rfl),(show AVal.int .i64 (3)=.int .i64 (g.sig.ival 5) by rw [gn.2.2,hL];rfl),hs0,hs1,trivial⟩ hx),
 fun f9=>have p9:=ob_rF (xo61 e) f9;⟨fun f10=>have p10:=ob_rT (xo63 e) f10;⟨fun f11=>have p11:=ob_rT (xo64 e) f11;⟨fun f12=>have p12:=ob_rT (xo99 e) f12;(by have:=xo8 e;have:=xo9 e;have:=xo10 e;have:=xo62 e;have:=xo98 e hp ht;have hv:=Q63 e hp (by omega) (by omega);have:=Qd (τ.sval 0) (τ.ival 1+1);have:=Qd (τ.sval 0) (τ.ival 1+2);have:=Qd (τ.sval 0) (τ.ival 1+3);have:=Qd (τ.sval 0) (τ.ival 1+4);have:=Qd (τ.sval 0) (τ.ival 1+5);have:=Qd (τ.sval 0) (τ.ival 1+6);have:=Qd (τ.sval 0) (τ.ival 1+7);have hL:numL (τ.sval 0) (τ.ival 1)=[0,0,5]:=(by unfold numL;(repeat (first|rw [if_pos (by omega)]|rw [if_neg (by omega)])));exact E48 (hH:=hH) (hg:=hg) ⟨(show AVal.int .u64 (0)=.int .u64 (g.sig.ival 3) by rw [gn.1,hL];rfl),(show AVal.int .i64 (0)=.int .i64 (g.sig.ival 4) by rw [gn.2.1,hL];rfl),(show AVal.int .i64 (5)=.int .i64 (g.sig.ival 5) by rw [gn.2.2,hL];rfl),hs0,hs1,trivial⟩ hx),
 fun f12=>have p12:=ob_rF (xo99 e) f12;(by have:=xo8 e;have:=xo9 e;have:=xo10 e;have:=xo62 e;have:=xo98 e hp ht;have hv:=Q63 e hp (by omega) (by omega);have:=Qd (τ.sval 0) (τ.ival 1+1);have:=Qd (τ.sval 0) (τ.ival 1+2);have:=Qd (τ.sval 0) (τ.ival 1+3);have:=Qd (τ.sval 0) (τ.ival 1+4);have:=Qd (τ.sval 0) (τ.ival 1+5);have:=Qd (τ.sval 0) (τ.ival 1+6);have:=Qd (τ.sval 0) (τ.ival 1+7);have hL:numL (τ.sval 0) (τ.ival 1)=[τ.ival 97,8,0]:=(by unfold numL;(repeat (first|rw [if_pos (by omega)]|rw [if_neg (by omega)]));rw [hv]);exact E48 (hH:=hH) (hg:=hg) ⟨(show AVal.int .u64 (τ.ival 97)=.int .u64 (g.sig.ival 3) by rw [gn.1,hL];rfl),(show AVal.int .i64 (8)=.int .i64 (g.sig.ival 4) by rw [gn.2.1,hL];rfl),(show AVal.int .i64 (0)=.int .i64 (g.sig.ival 5) by rw [gn.2.2,hL];rfl),hs0,hs1,trivial⟩ hx)⟩,
 fun f11=>have p11:=ob_rF (xo64 e) f11;(by have:=xo8 e;have:=xo9 e;have:=xo10 e;have:=xo62 e;omega)⟩,
 fun f10=>have p10:=ob_rF (xo63 e) f10;(by have:=xo8 e;have:=xo9 e;have:=xo10 e;have:=xo62 e;omega)⟩⟩⟩,
 fun f7=>have q7:=xo9 e;(by have:=xo8 e;have:=xo9 e;omega)⟩⟩⟩⟩,
 fun f3=>have p3:=ob_rF (xo6 e) f3;⟨fun f4=>have p4:=ob_rT (xo11 e) f4;(by have:=xo8 e;have:=xo9 e;have:=xo10 e;have hL:numL (τ.sval 0) (τ.ival 1)=[0,0,3]:=(by unfold numL;(repeat (first|rw [if_pos (by omega)]|rw [if_neg (by omega)])));exact E48 (hH:=hH) (hg:=hg) ⟨(show AVal.int .u64 (0)=.int .u64 (g.sig.ival 3) by rw [gn.1,hL];rfl),(show AVal.int .i64 (0)=.int .i64 (g.sig.ival 4) by rw [gn.2.1,hL];rfl),(show AVal.int .i64 (3)=.int .i64 (g.sig.ival 5) by rw [gn.2.2,hL];rfl),hs0,hs1,trivial⟩ hx),
 fun f4=>have p4:=ob_rF (xo11 e) f4;(by have:=xo8 e;have:=xo9 e;have:=xo10 e;omega)⟩⟩,
 fun f2=>have p2:=ob_rF (xo5 e) f2;(by have:=xo8 e;have:=xo9 e;omega)⟩,
 fun f1=>have p1:=ob_rF (xo4 e) f1;(by have:=xo8 e;have:=xo9 e;omega)⟩,
 fun f0=>have p0:=ob_rF (xo3 e) f0;(by have:=xo8 e;have:=xo9 e;omega)⟩
    . exact pin0 (by kernel_rfl))
end Go.Proofs.YtelimhjceiamcaaDoor.lgn
