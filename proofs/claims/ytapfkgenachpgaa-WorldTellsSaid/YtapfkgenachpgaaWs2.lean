/-
 Contracts of the world's functions: Same, the search, Set.
 No conditions.
-/
import Derived.Test.YtapfkgenachpgaaWs1
import Derived.WalkKit
set_option maxRecDepth 100000
namespace Go.Proofs.Ytapfkgenachpgaa.wc
open Go.Ev Go.RowKit Go.Wpl Go.Wt
set_option linter.unusedVariables false
set_option linter.unusedSimpArgs false
def ws52AG:List SDef:=[]
def ws52AT:LT:=.e
def ws52AW:Sw:=.run (.leaf .normal w52S1 [(0,0),(1,0)] [(1,.symi .i64 1),(1,.symi .i64 1),(5,.int .i64 0),(6,.symi .i64 1),(0,.syms 0),(1,.symi .i64 1),(2,.symi .i64 2),(3,.symi .i64 3),(4,.symi .u8 4)] [])
def ws52AKd:KdT:=.n (.n (.n .e (some .i64) .e) (some .i64) .e) none (.n (.n .e (some .u8) .e) (some .i64) .e)
def ws52AX:Ing:={m:=5,ins:=w52K,G:=ws52AG,T:=ws52AT,tab:=wTab,lsts:=wL,kb:=5,kt:=ws52AKd}
theorem ws52A_lt:okLT 5 ws52AG ws52AT=true:=by kernel_rfl
theorem ws52A_ok:okG ws52AG 5=true:=by kernel_rfl
theorem ws52A_seg:SegOk Try.prog wTab 49 ((flatC (bodyOf Try.f52)).take 3) w52S0 ws52AX ws52AW where
 lt:=ws52A_lt
 ok:=ws52A_ok
 hook:=fun F=>no_hooks rfl F
 n0:=rfl
 id:=by kernel_rfl
 reck:=by kernel_rfl
 tab:=rfl
 cuts:=rfl
 kt:=by kernel_rfl
def ws52BG:List SDef:=[.bin .lss (.symi .i64 5) (.symi .i64 6),
 .bin .add (.symi .i64 5) (.symi .i64 6),
 .conv .u64 (.symi .i64 8),
 .bin .shr (.symi .u64 9) (.int .u64 1),
 .conv .i64 (.symi .u64 10),
 .bin .leq (.int .i64 0) (.symi .i64 11),
 .bin .lss (.symi .i64 11) (.symi .i64 1),
 .sop (.cell [.some .i64,.some .i64,.some .u8] 0) [.syms 0,.symi .i64 11],
 .sop (.cell [.some .i64,.some .i64,.some .u8] 1) [.syms 0,.symi .i64 11],
 .sop (.cell [.some .i64,.some .i64,.some .u8] 2) [.syms 0,.symi .i64 11],
 .bin .lss (.symi .i64 14) (.symi .i64 2),
 .bin .gtr (.symi .i64 14) (.symi .i64 2),
 .ite (.symb 18) (.int .i64 1) (.int .i64 0),
 .ite (.symb 17) (.int .i64 (-1)) (.symi .i64 19),
 .bin .lss (.symi .i64 15) (.symi .i64 3),
 .bin .gtr (.symi .i64 15) (.symi .i64 3),
 .ite (.symb 22) (.int .i64 1) (.int .i64 0),
 .ite (.symb 21) (.int .i64 (-1)) (.symi .i64 23),
 .bin .neq (.symi .i64 20) (.int .i64 0),
 .bin .neq (.symi .i64 24) (.int .i64 0),
 .ite (.symb 26) (.symi .i64 24) (.int .i64 0),
 .ite (.symb 25) (.symi .i64 20) (.symi .i64 27),
 .bin .lss (.symi .i64 28) (.int .i64 0),
 .bin .add (.symi .i64 11) (.int .i64 1),
 .ite (.symb 29) (.symi .i64 30) (.symi .i64 5),
 .ite (.symb 29) (.symi .i64 6) (.symi .i64 11)]
def ws52BT:LT:=.n (.n (.n (.n (.n (.e) 37321858 30 (.bin .add (.symi .i64 11) (.int .i64 1)) (.e)) 39031945 14 (.sop (.cell [.some .i64,.some .i64,.some .u8] 0) [.syms 0,.symi .i64 11]) (.n (.e) 39031947 15 (.sop (.cell [.some .i64,.some .i64,.some .u8] 1) [.syms 0,.symi .i64 11]) (.e))) 39031949 16 (.sop (.cell [.some .i64,.some .i64,.some .u8] 2) [.syms 0,.symi .i64 11]) (.n (.n (.e) 143691660 32 (.ite (.symb 29) (.symi .i64 6) (.symi .i64 11)) (.e)) 276534019 26 (.bin .neq (.symi .i64 24) (.int .i64 0)) (.e))) 354600991 19 (.ite (.symb 18) (.int .i64 1) (.int .i64 0)) (.n (.n (.n (.e) 380645506 13 (.bin .lss (.symi .i64 11) (.symi .i64 1)) (.e)) 397612047 21 (.bin .lss (.symi .i64 15) (.symi .i64 3)) (.n (.e) 397612061 22 (.bin .gtr (.symi .i64 15) (.symi .i64 3)) (.e))) 417669660 8 (.bin .add (.symi .i64 5) (.symi .i64 6)) (.n (.n (.e) 417669751 7 (.bin .lss (.symi .i64 5) (.symi .i64 6)) (.e)) 555694104 12 (.bin .leq (.int .i64 0) (.symi .i64 11)) (.e)))) 666216016 31 (.ite (.symb 29) (.symi .i64 30) (.symi .i64 5)) (.n (.n (.n (.n (.e) 680535238 29 (.bin .lss (.symi .i64 28) (.int .i64 0)) (.e)) 747680660 27 (.ite (.symb 26) (.symi .i64 24) (.int .i64 0)) (.n (.e) 824002804 9 (.conv .u64 (.symi .i64 8)) (.e))) 868461337 28 (.ite (.symb 25) (.symi .i64 20) (.symi .i64 27)) (.n (.n (.e) 909063142 10 (.bin .shr (.symi .u64 9) (.int .u64 1)) (.e)) 910619339 23 (.ite (.symb 22) (.int .i64 1) (.int .i64 0)) (.e))) 937121063 20 (.ite (.symb 17) (.int .i64 (-1)) (.symi .i64 19)) (.n (.n (.n (.e) 946274634 25 (.bin .neq (.symi .i64 20) (.int .i64 0)) (.e)) 1023399396 24 (.ite (.symb 21) (.int .i64 (-1)) (.symi .i64 23)) (.e)) 1026999993 17 (.bin .lss (.symi .i64 14) (.symi .i64 2)) (.n (.n (.e) 1027000007 18 (.bin .gtr (.symi .i64 14) (.symi .i64 2)) (.e)) 1030003422 11 (.conv .i64 (.symi .u64 10)) (.e))))
def ws52BW:Sw:=.node 12 (.run (.node 7 (.node 13 (.leaf .normal w52S1 [(0,0),(1,0)] [(1,.symi .i64 1),(1,.symi .i64 1),(5,.symi .i64 31),(6,.symi .i64 32),(0,.syms 0),(1,.symi .i64 1),(2,.symi .i64 2),(3,.symi .i64 3),(4,.symi .u8 4)] []) (.dead)) (.leaf (.exit 0) w52S1 [(0,0),(1,0)] [(1,.symi .i64 1),(1,.symi .i64 1),(5,.symi .i64 5),(6,.symi .i64 6),(0,.syms 0),(1,.symi .i64 1),(2,.symi .i64 2),(3,.symi .i64 3),(4,.symi .u8 4)] []))) (.dead)
def ws52BKd:KdT:=.n (.n (.n (.n (.n (.n .e (some .i64) .e) (some .i64) .e) none (.n .e (some .i64) .e)) (some .i64) (.n (.n .e (some .i64) .e) (some .i64) (.n .e (some .i64) .e))) (some .i64) (.n (.n (.n .e none .e) (some .u64) (.n .e none .e)) (some .i64) (.n (.n .e none .e) none (.n .e none .e)))) none (.n (.n (.n (.n (.n .e (some .i64) .e) (some .u8) .e) (some .i64) (.n .e (some .i64) .e)) (some .u8) (.n (.n .e (some .i64) .e) none (.n .e (some .i64) .e))) (some .i64) (.n (.n (.n .e none .e) (some .u64) (.n .e none .e)) (some .i64) (.n (.n .e none .e) (some .i64) (.n .e (some .i64) .e))))
def ws52BX:Ing:={m:=7,ins:=(w52K++[some .i64,some .i64]),G:=ws52BG,T:=ws52BT,tab:=wTab,lsts:=wL,kb:=33,kt:=ws52BKd}
theorem ws52B_lt:okLT 7 ws52BG ws52BT=true:=by kernel_rfl
theorem ws52B_ok:okG ws52BG 7=true:=by kernel_rfl
theorem ws52B_seg:SegOk Try.prog wTab 49 ([loopOf (bodyOf Try.f52)]) w52S1 ws52BX ws52BW where
 lt:=ws52B_lt
 ok:=ws52B_ok
 hook:=fun F=>no_hooks rfl F
 n0:=rfl
 id:=by kernel_rfl
 reck:=by kernel_rfl
 tab:=rfl
 cuts:=rfl
 kt:=by kernel_rfl
def ws52CG:List SDef:=[.bin .lss (.symi .i64 5) (.symi .i64 1),
 .bin .leq (.int .i64 0) (.symi .i64 5),
 .sop (.cell [.some .i64,.some .i64,.some .u8] 0) [.syms 0,.symi .i64 5],
 .sop (.cell [.some .i64,.some .i64,.some .u8] 1) [.syms 0,.symi .i64 5],
 .sop (.cell [.some .i64,.some .i64,.some .u8] 2) [.syms 0,.symi .i64 5],
 .bin .lss (.symi .i64 9) (.symi .i64 2),
 .bin .gtr (.symi .i64 9) (.symi .i64 2),
 .ite (.symb 13) (.int .i64 1) (.int .i64 0),
 .ite (.symb 12) (.int .i64 (-1)) (.symi .i64 14),
 .bin .lss (.symi .i64 10) (.symi .i64 3),
 .bin .gtr (.symi .i64 10) (.symi .i64 3),
 .ite (.symb 17) (.int .i64 1) (.int .i64 0),
 .ite (.symb 16) (.int .i64 (-1)) (.symi .i64 18),
 .bin .neq (.symi .i64 15) (.int .i64 0),
 .bin .neq (.symi .i64 19) (.int .i64 0),
 .ite (.symb 21) (.symi .i64 19) (.int .i64 0),
 .ite (.symb 20) (.symi .i64 15) (.symi .i64 22),
 .bin .eql (.symi .i64 23) (.int .i64 0)]
def ws52CT:LT:=.n (.n (.n (.n (.n (.e) 115451742 9 (.sop (.cell [.some .i64,.some .i64,.some .u8] 0) [.syms 0,.symi .i64 5]) (.e)) 115451744 10 (.sop (.cell [.some .i64,.some .i64,.some .u8] 1) [.syms 0,.symi .i64 5]) (.e)) 115451746 11 (.sop (.cell [.some .i64,.some .i64,.some .u8] 2) [.syms 0,.symi .i64 5]) (.n (.e) 175533709 24 (.bin .eql (.symi .i64 23) (.int .i64 0)) (.e))) 215596404 18 (.ite (.symb 17) (.int .i64 1) (.int .i64 0)) (.n (.n (.n (.e) 381397317 22 (.ite (.symb 21) (.symi .i64 19) (.int .i64 0)) (.e)) 441273119 20 (.bin .neq (.symi .i64 15) (.int .i64 0)) (.e)) 521998478 12 (.bin .lss (.symi .i64 9) (.symi .i64 2)) (.n (.e) 521998492 13 (.bin .gtr (.symi .i64 9) (.symi .i64 2)) (.e)))) 560837690 15 (.ite (.symb 12) (.int .i64 (-1)) (.symi .i64 14)) (.n (.n (.n (.n (.e) 643056290 8 (.bin .leq (.int .i64 0) (.symi .i64 5)) (.e)) 647116023 19 (.ite (.symb 16) (.int .i64 (-1)) (.symi .i64 18)) (.e)) 733319883 14 (.ite (.symb 13) (.int .i64 1) (.int .i64 0)) (.n (.e) 820917556 23 (.ite (.symb 20) (.symi .i64 15) (.symi .i64 22)) (.e))) 845274331 21 (.bin .neq (.symi .i64 19) (.int .i64 0)) (.n (.n (.e) 848385515 7 (.bin .lss (.symi .i64 5) (.symi .i64 1)) (.e)) 966352359 16 (.bin .lss (.symi .i64 10) (.symi .i64 3)) (.n (.e) 966352373 17 (.bin .gtr (.symi .i64 10) (.symi .i64 3)) (.e))))
def ws52CW:Sw:=.node 8 (.run (.node 7 (.leaf .ret w52Se [(0,0),(1,0)] [(1,.symi .i64 1),(5,.symi .i64 5),(6,.symb 24),(0,.syms 0),(1,.symi .i64 1),(2,.symi .i64 2),(3,.symi .i64 3),(4,.symi .u8 4)] []) (.leaf .ret w52Se [(0,0),(1,0)] [(1,.symi .i64 1),(5,.symi .i64 5),(6,.bool false),(0,.syms 0),(1,.symi .i64 1),(2,.symi .i64 2),(3,.symi .i64 3),(4,.symi .u8 4)] []))) (.dead)
def ws52CKd:KdT:=.n (.n (.n (.n (.n .e (some .i64) .e) none (.n .e (some .i64) .e)) (some .i64) (.n (.n .e (some .i64) .e) (some .u8) .e)) (some .i64) (.n (.n (.n .e none .e) (some .i64) .e) (some .i64) (.n (.n .e none .e) none .e))) none (.n (.n (.n (.n .e none .e) none (.n .e none .e)) (some .u8) (.n (.n .e none .e) none .e)) (some .i64) (.n (.n (.n .e (some .i64) .e) (some .i64) .e) (some .i64) (.n (.n .e (some .i64) .e) (some .i64) .e)))
def ws52CX:Ing:={m:=7,ins:=(w52K++[some .i64,some .i64]),G:=ws52CG,T:=ws52CT,tab:=wTab,lsts:=wL,kb:=25,kt:=ws52CKd}
theorem ws52C_lt:okLT 7 ws52CG ws52CT=true:=by kernel_rfl
theorem ws52C_ok:okG ws52CG 7=true:=by kernel_rfl
theorem ws52C_seg:SegOk Try.prog wTab 49 ((flatC (bodyOf Try.f52)).drop 4) w52S1 ws52CX ws52CW where
 lt:=ws52C_lt
 ok:=ws52C_ok
 hook:=fun F=>no_hooks rfl F
 n0:=rfl
 id:=by kernel_rfl
 reck:=by kernel_rfl
 tab:=rfl
 cuts:=rfl
 kt:=by kernel_rfl
theorem pos_of {l:List E3} {x:E3} {lo:Nat} (h1: ∀k y,k<lo→l[k]? =some y→Wpl.ahead y x=true) (h2: ∀k y,lo≤k→l[k]? =some y→Wpl.ahead y x=false) (hlo:lo≤l.length):(l.filter fun a=>Wpl.ahead a x).length=lo:=by
 have e1:(l.take lo).filter (fun a=>Wpl.ahead a x)=l.take lo:=by
  rw [List.filter_eq_self]
  intro y hy
  obtain ⟨k,hk⟩:=List.getElem?_of_mem hy
  rw [List.getElem?_take] at hk
  split at hk
  ·exact h1 k y (by assumption) hk
  ·cases hk
 have e2:(l.drop lo).filter (fun a=>Wpl.ahead a x)=[]:=by
  rw [List.filter_eq_nil_iff]
  intro y hy
  obtain ⟨k,hk⟩:=List.getElem?_of_mem hy
  rw [List.getElem?_drop] at hk
  rw [h2 (lo+k) y (by omega) hk]
  simp
 conv=>lhs;rw [←List.take_append_drop lo l]
 rw [List.filter_append,e1,e2,List.append_nil,List.length_take]
 omega
theorem pw_get {l:List E3} (h:l.Pairwise fun a b=>Wpl.ahead a b=true) {i j:Nat} {a b:E3} (hij:i<j) (ha:l[i]? =some a) (hb:l[j]? =some b):Wpl.ahead a b=true:=by
 have h1:=(List.getElem?_eq_some_iff.1 ha)
 have h2:=(List.getElem?_eq_some_iff.1 hb)
 obtain ⟨p1,q1⟩:=h1
 obtain ⟨p2,q2⟩:=h2
 have:=List.pairwise_iff_getElem.1 h i j p1 p2 hij
 rw [q1,q2] at this
 exact this
theorem any_of {l:List E3} {x:E3} {lo:Nat} (hp:l.Pairwise fun a b=>Wpl.ahead a b=true) (h1: ∀k y,k<lo→l[k]? =some y→Wpl.ahead y x=true) (h2: ∀k y,lo≤k→l[k]? =some y→Wpl.ahead y x=false):
  (l.any fun a=>decide (a.t=x.t∧a.k=x.k))=true↔ ∃y,l[lo]? =some y∧y.t=x.t∧y.k=x.k:=by
 constructor
 ·intro h
  rw [List.any_eq_true] at h
  obtain ⟨y,hy,hk⟩:=h
  simp only [decide_eq_true_eq] at hk
  obtain ⟨k,hk2⟩:=List.getElem?_of_mem hy
  have hna:Wpl.ahead y x=false:=by
   rw [Bool.eq_false_iff];intro h;rw [ahead_iff] at h;omega
  by_cases hlt:k<lo
  ·rw [h1 k y hlt hk2] at hna;cases hna
  ·by_cases he:k=lo
   ·subst he;exact ⟨y,hk2,hk⟩
   ·have hlen:=(List.getElem?_eq_some_iff.1 hk2).1
    have hz:l[lo]? =some l[lo]:=List.getElem?_eq_getElem (by omega)
    have a1:=pw_get hp (show lo<k by omega) hz hk2
    have a2:=h2 lo _ (Nat.le_refl _) hz
    rw [ahead_iff] at a1
    have:Wpl.ahead l[lo] x=true:=by rw [ahead_iff];omega
    rw [this] at a2;cases a2
 ·rintro ⟨y,hy,hk⟩
  rw [List.any_eq_true]
  exact ⟨y,List.mem_of_getElem? hy,by simpa using hk⟩
structure J52 (S:ByteArray) (N:Nat) (x:E3) (E:Nat→Option Fz) (lo hi:Nat) (σ:Sig):Prop where
 s:σ.sval 0=S
 nn:σ.ival 1=N
 t2:σ.ival 2=x.t
 k3:σ.ival 3=x.k
 v4:σ.ival 4=x.v
 xe:σ.ext=E
 lo5:σ.ival 5=lo
 hi6:σ.ival 6=hi
 le:lo≤hi∧hi≤N
 h1: ∀k,k<lo→Wpl.ahead (rowE S k) x=true
 h2: ∀k,hi≤k→k<N→Wpl.ahead (rowE S k) x=false
theorem J52.agree {S:ByteArray} {N:Nat} {x:E3} {E:Nat→Option Fz} {lo hi:Nat} {σ τ:Sig} (ag:Agree 7 σ τ) (h:J52 S N x E lo hi σ):J52 S N x E lo hi τ:=
 ⟨by rw [←(ag.val 0 (by decide)).2.2];exact h.s,by rw [←(ag.val 1 (by decide)).1];exact h.nn,by rw [←(ag.val 2 (by decide)).1];exact h.t2,by rw [←(ag.val 3 (by decide)).1];exact h.k3,by rw [←(ag.val 4 (by decide)).1];exact h.v4,by rw [←ag.ext];exact h.xe,by rw [←(ag.val 5 (by decide)).1];exact h.lo5,by rw [←(ag.val 6 (by decide)).1];exact h.hi6,h.le,h.h1,h.h2⟩
theorem J52.step {S:ByteArray} {N:Nat} {x:E3} {E:Nat→Option Fz} {lo hi lo' hi' a b:Nat} {τ:Sig} (h:J52 S N x E lo hi τ) (ha:τ.ival a=lo') (hb:τ.ival b=hi') (hle:lo'≤hi'∧hi'≤N) (h1: ∀k,k<lo'→Wpl.ahead (rowE S k) x=true) (h2: ∀k,hi'≤k→k<N→Wpl.ahead (rowE S k) x=false):
  J52 S N x E lo' hi' (asgS τ ([(1,.symi .i64 1),(1,.symi .i64 1),(5,.symi .i64 a),(6,.symi .i64 b),(0,.syms 0),(1,.symi .i64 1),(2,.symi .i64 2),(3,.symi .i64 3),(4,.symi .u8 4)]++[])):=⟨h.s,h.nn,h.t2,h.k3,h.v4,extS h.xe,ha,hb,hle,h1,h2⟩
theorem J52.zero {S:ByteArray} {N:Nat} {x:E3} {E:Nat→Option Fz} {τ:Sig} (hs:τ.sval 0=S) (hn:τ.ival 1=N) (h2:τ.ival 2=x.t) (h3:τ.ival 3=x.k) (h4:τ.ival 4=x.v) (hx:τ.ext=E):
  J52 S N x E 0 N (asgS τ ([(1,.symi .i64 1),(1,.symi .i64 1),(5,.int .i64 0),(6,.symi .i64 1),(0,.syms 0),(1,.symi .i64 1),(2,.symi .i64 2),(3,.symi .i64 3),(4,.symi .u8 4)]++[])):=
 ⟨hs,hn,h2,h3,h4,extS hx,rfl,hn,⟨Nat.zero_le _,Nat.le_refl _⟩,fun k hk=>absurd hk (Nat.not_lt_zero k),fun k hk hk2=>by omega⟩
def L52:Asg:=[(5,.symi .i64 5),(6,.symb 6),(0,.syms 0),(1,.symi .i64 1),(2,.symi .i64 2),(3,.symi .i64 3),(4,.symi .u8 4)]
set_option maxHeartbeats 2000000 in
theorem c52:SymFOk Try.prog wTab (fun _=>True) sf52:=
 symF_of_stage Try.func52 rfl (n:=49) rfl (by decide) (by decide) rfl rfl (by kernel_rfl) (fun g w hg _ hE hI hpc hH=>by
  obtain ⟨N,hN,hC⟩:=lst_ok (i:=0) hH rfl
  have hp:=pc202 hg rfl hC (hpc _ (by simp [sf52]))
  generalize hSS:g.sig.sval 0=S at hC hp
  obtain ⟨hScr,hNb⟩:=hp
  generalize hx:(⟨g.sig.ival 2,g.sig.ival 3,g.sig.ival 4⟩:E3)=x
  have x2:g.sig.ival 2=x.t:=by rw [←hx]
  have x3:g.sig.ival 3=x.k:=by rw [←hx]
  have x4:g.sig.ival 4=x.v:=by rw [←hx]
  have hget: ∀k y,(lstE S N)[k]? =some y→k<N∧y=rowE S k:=fun k y h=>by
   have hk:=(List.getElem?_eq_some_iff.1 h).1
   rw [lstE_len] at hk
   rw [lstE_get hk] at h
   exact ⟨hk,(Option.some.inj h).symm⟩
  have mono: ∀i j,i<j→j<N→Wpl.ahead (rowE S i) (rowE S j)=true:=fun i j hij hj=>pw_get hScr.2 hij (lstE_get (by omega)) (lstE_get hj)
  have r5:g.sig.ival 5=IntKind.i64.wrap (((lstE S N).filter fun a=>Wpl.ahead a x).length:Int):=by
   have h:g.sig.ival 5=IntKind.i64.wrap (g.sig.tab 250 [encB (g.sig.sval 0),g.sig.ival 2,g.sig.ival 3,g.sig.ival 4]):=eqFn (hE.at 0 _ rfl rfl)
   have e:wTab 250 [encB S,x.t,x.k,x.v]=(((decL (encB S)).filter fun a=>Wpl.ahead a ⟨x.t,x.k,x.v⟩).length:Int):=rfl
   rw [h,hg,hSS,x2,x3,x4,e,decL_of hC]
  have r6:g.sig.bval 6=((lstE S N).any fun a=>decide (a.t=x.t∧a.k=x.k)):=by
   have h:g.sig.bval 6= !(g.sig.tab 251 [encB (g.sig.sval 0),g.sig.ival 2,g.sig.ival 3]==0):=eqFnb (hE.at 1 _ rfl rfl)
   have e:wTab 251 [encB S,x.t,x.k]=b01 ((decL (encB S)).any fun a=>decide (a.t=x.t∧a.k=x.k)):=rfl
   rw [h,hg,hSS,x2,x3,e,b01_ne,decL_of hC]
  rw [show flatC (bodyOf Try.f52)=(flatC (bodyOf Try.f52)).take 3++(.block (idOf (bodyOf Try.f52)) (.loop (loopOf (bodyOf Try.f52)))::(flatC (bodyOf Try.f52)).drop 4) from rfl]
  have hlast:Stage Try.prog wTab 49 (fraOf g w 1) (bodyPost Try.prog Try.f52 (MemR wTab sf52 g w)) ((flatC (bodyOf Try.f52)).drop 4) w52S1 7 (w52K++[some .i64,some .i64]) (fun σ=> ∃lo,J52 S N x g.sig.ext lo lo σ):=by
   refine Stage.last mixed ws52C_seg ⟨rfl,rfl⟩ (fun σ τ ag h=>let ⟨lo,hl⟩:=h;⟨lo,hl.agree ag⟩) (fun τ h=>rows_nil) (fun τ e ht hi hj=> ?_) (pin0 (by kernel_rfl))
   obtain ⟨lo,hj⟩:=hj
   refine segsPw_segs ?_
   have hlo:=hj.lo5
   have hle:=hj.le
   have hn:=hj.nn
   have p1: ∀k y,k<lo→(lstE S N)[k]? =some y→Wpl.ahead y x=true:=fun k y hk h=>by obtain ⟨_,rfl⟩:=hget k y h;exact hj.h1 k hk
   have p2: ∀k y,lo≤k→(lstE S N)[k]? =some y→Wpl.ahead y x=false:=fun k y hk h=>by obtain ⟨hk2,rfl⟩:=hget k y h;exact hj.h2 k hk hk2
   have hpos:=pos_of p1 p2 (by rw [lstE_len];omega)
   have hany:=any_of hScr.2 p1 p2
   have h5:τ.ival 5=g.sig.ival 5:=by
    rw [r5,hpos,wr_i64];omega
   have b7:τ.bval 7=decide (τ.ival 5<τ.ival 1):=eqB (e.at 0 _ rfl rfl) rfl
   have b8:τ.bval 8=decide ((0:Int)≤τ.ival 5):=eqB (e.at 1 _ rfl rfl) rfl
   have c9:=eqCell (m:=lo) (e.at 2 _ rfl rfl) (show den τ (.symi .i64 5)=_ by rw [←hlo];rfl)
   have c10:=eqCell (m:=lo) (e.at 3 _ rfl rfl) (show den τ (.symi .i64 5)=_ by rw [←hlo];rfl)
   rw [hj.s] at c9 c10
   have v9:τ.ival 9=(rowE S lo).t:=by simp only [rowE,c9,iOf]
   have v10:τ.ival 10=(rowE S lo).k:=by simp only [rowE,c10,iOf]
   have b12:τ.bval 12=decide (τ.ival 9<τ.ival 2):=eqB (e.at 5 _ rfl rfl) rfl
   have b13:τ.bval 13=decide (τ.ival 9>τ.ival 2):=eqB (e.at 6 _ rfl rfl) rfl
   have i14:τ.ival 14=(bif τ.bval 13 then 1 else 0):=eqIteI (e.at 7 _ rfl rfl) rfl rfl rfl
   have i15:τ.ival 15=(bif τ.bval 12 then (-1) else τ.ival 14):=eqIteI (e.at 8 _ rfl rfl) rfl rfl rfl
   have b16:τ.bval 16=decide (τ.ival 10<τ.ival 3):=eqB (e.at 9 _ rfl rfl) rfl
   have b17:τ.bval 17=decide (τ.ival 10>τ.ival 3):=eqB (e.at 10 _ rfl rfl) rfl
   have i18:τ.ival 18=(bif τ.bval 17 then 1 else 0):=eqIteI (e.at 11 _ rfl rfl) rfl rfl rfl
   have i19:τ.ival 19=(bif τ.bval 16 then (-1) else τ.ival 18):=eqIteI (e.at 12 _ rfl rfl) rfl rfl rfl
   have b20:τ.bval 20= !(τ.ival 15==0):=eqB (e.at 13 _ rfl rfl) rfl
   have b21:τ.bval 21= !(τ.ival 19==0):=eqB (e.at 14 _ rfl rfl) rfl
   have i22:τ.ival 22=(bif τ.bval 21 then τ.ival 19 else 0):=eqIteI (e.at 15 _ rfl rfl) rfl rfl rfl
   have i23:τ.ival 23=(bif τ.bval 20 then τ.ival 15 else τ.ival 22):=eqIteI (e.at 16 _ rfl rfl) rfl rfl rfl
   have b24:τ.bval 24=(τ.ival 23==0):=eqB (e.at 17 _ rfl rfl) rfl
   have hh:τ.bval 24=true↔(rowE S lo).t=x.t∧(rowE S lo).k=x.k:=by
    rw [b24,beq_iff_eq,i23,b20,i22,b21,i19,b16,i18,b17,i15,b12,i14,b13,v9,v10,hj.t2,hj.k3]
    by_cases g1:(rowE S lo).t<x.t
    ·simp [g1];omega
    ·by_cases g2:(rowE S lo).t>x.t
     ·simp [g1,g2];omega
     ·by_cases g3:(rowE S lo).k<x.k
      ·simp [g1,g2,g3];omega
      ·by_cases g4:(rowE S lo).k>x.k
       ·simp [g1,g2,g3,g4];omega
       ·simp [g1,g2,g3,g4];omega
   have fin: ∀(b:AVal) (bv:Bool),valS τ b=.bool bv→bv=g.sig.bval 6→EndZ wTab 49 (fraOf g w 1) (bodyPost Try.prog Try.f52 (MemR wTab sf52 g w)) .ret w52Se (asgS τ ([(1,.symi .i64 1),(5,.symi .i64 5),(6,b),(0,.syms 0),(1,.symi .i64 1),(2,.symi .i64 2),(3,.symi .i64 3),(4,.symi .u8 4)]++[])):=by
    intro b bv hb hbv
    refine endZ_mem (M:=7) (l:=L52) (vs:=[.symi .i64 5,.symb 6]) (by kernel_rfl) rfl rfl hH hg rfl rfl rfl (by kernel_rfl) (by kernel_rfl) ⟨congrArg (AVal.int .i64) h5,?_,congrArg AVal.str (hj.s.trans hSS.symm),congrArg (AVal.int .i64) (hn.trans hN.symm),congrArg (AVal.int .i64) (hj.t2.trans x2.symm),congrArg (AVal.int .i64) (hj.k3.trans x3.symm),congrArg (AVal.int .u8) (hj.v4.trans x4.symm),trivial⟩ (by decide) (extS hj.xe) (.inl rfl)
    show AVal.bool (bOf (valS τ b))=AVal.bool (g.sig.bval 6)
    rw [hb,←hbv];rfl
   refine ⟨fun f8=>⟨fun f7=> ?_,fun f7=> ?_⟩,fun f8=> ?_⟩
   ·rw [b7,decide_eq_true_eq] at f7
    refine fin (.symb 24) (τ.bval 24) rfl ?_
    rw [r6,Bool.eq_iff_iff,hh,hany]
    exact ⟨fun h=>⟨_,lstE_get (by omega),h⟩,fun ⟨y,hy,h⟩=>by obtain ⟨_,rfl⟩:=hget lo y hy;exact h⟩
   ·rw [b7,decide_eq_false_iff_not] at f7
    refine fin (.bool false) false rfl ?_
    rw [r6,eq_comm,Bool.eq_false_iff]
    intro h
    obtain ⟨y,hy,_⟩:=hany.1 h
    have:=(hget lo y hy).1
    omega
   ·rw [b8,decide_eq_false_iff_not] at f8
    exfalso;omega
  have hloop:Stage Try.prog wTab 49 (fraOf g w 1) (bodyPost Try.prog Try.f52 (MemR wTab sf52 g w)) (.block (idOf (bodyOf Try.f52)) (.loop (loopOf (bodyOf Try.f52)))::(flatC (bodyOf Try.f52)).drop 4) w52S1 7 (w52K++[some .i64,some .i64]) (fun σ=> ∃lo hi,J52 S N x g.sig.ext lo hi σ):=by
   refine Stage.loop (μ:=fun σ=>(σ.ival 6-σ.ival 5).toNat) mixed ws52B_seg ⟨rfl,rfl⟩ (fun σ τ ag h=>let ⟨lo,hi,hl⟩:=h;⟨lo,hi,hl.agree ag⟩) (fun σ τ ag=>by rw [(ag.val 5 (by decide)).1,(ag.val 6 (by decide)).1]) (fun τ h=>rows_nil) hlast (fun τ e ht hi hj=> ?_) (pin0 (by kernel_rfl))
   obtain ⟨lo,hi',hj⟩:=hj
   refine segsPw_segs ?_
   have hlo:=hj.lo5
   have hhi:=hj.hi6
   have hle:=hj.le
   have hn:=hj.nn
   have b7:τ.bval 7=decide (τ.ival 5<τ.ival 6):=eqB (e.at 0 _ rfl rfl) rfl
   have i8:τ.ival 8=IntKind.i64.wrap (τ.ival 5+τ.ival 6):=eqI (e.at 1 _ rfl rfl) rfl
   have i9:τ.ival 9=IntKind.u64.wrap (τ.ival 8):=eqI (e.at 2 _ rfl rfl) rfl
   have i10:τ.ival 10=τ.ival 9/2:=(eqI (x:=(τ.ival 9:Int).fdiv (2^(min (1:Int).toNat IntKind.u64.bits))) (e.at 3 _ rfl rfl) rfl).trans (by rw [show (2:Int)^(min (1:Int).toNat IntKind.u64.bits)=2 by decide];exact Int.fdiv_eq_ediv_of_nonneg _ (by decide))
   have i11:τ.ival 11=IntKind.i64.wrap (τ.ival 10):=eqI (e.at 4 _ rfl rfl) rfl
   rw [wr_i64] at i8 i11
   rw [wr_u64] at i9
   have b12:τ.bval 12=decide ((0:Int)≤τ.ival 11):=eqB (e.at 5 _ rfl rfl) rfl
   have b13:τ.bval 13=decide (τ.ival 11<τ.ival 1):=eqB (e.at 6 _ rfl rfl) rfl
   have hm:τ.ival 11=(((lo+hi')/2:Nat):Int):=by omega
   have c14:=eqCell (m:=(lo+hi')/2) (e.at 7 _ rfl rfl) (show den τ (.symi .i64 11)=_ by rw [←hm];rfl)
   have c15:=eqCell (m:=(lo+hi')/2) (e.at 8 _ rfl rfl) (show den τ (.symi .i64 11)=_ by rw [←hm];rfl)
   rw [hj.s] at c14 c15
   generalize hmid:(lo+hi')/2=mid at hm c14 c15
   have v14:τ.ival 14=(rowE S mid).t:=by simp only [rowE,c14,iOf]
   have v15:τ.ival 15=(rowE S mid).k:=by simp only [rowE,c15,iOf]
   have b17:τ.bval 17=decide (τ.ival 14<τ.ival 2):=eqB (e.at 10 _ rfl rfl) rfl
   have b18:τ.bval 18=decide (τ.ival 14>τ.ival 2):=eqB (e.at 11 _ rfl rfl) rfl
   have i19:τ.ival 19=(bif τ.bval 18 then 1 else 0):=eqIteI (e.at 12 _ rfl rfl) rfl rfl rfl
   have i20:τ.ival 20=(bif τ.bval 17 then (-1) else τ.ival 19):=eqIteI (e.at 13 _ rfl rfl) rfl rfl rfl
   have b21:τ.bval 21=decide (τ.ival 15<τ.ival 3):=eqB (e.at 14 _ rfl rfl) rfl
   have b22:τ.bval 22=decide (τ.ival 15>τ.ival 3):=eqB (e.at 15 _ rfl rfl) rfl
   have i23:τ.ival 23=(bif τ.bval 22 then 1 else 0):=eqIteI (e.at 16 _ rfl rfl) rfl rfl rfl
   have i24:τ.ival 24=(bif τ.bval 21 then (-1) else τ.ival 23):=eqIteI (e.at 17 _ rfl rfl) rfl rfl rfl
   have b25:τ.bval 25= !(τ.ival 20==0):=eqB (e.at 18 _ rfl rfl) rfl
   have b26:τ.bval 26= !(τ.ival 24==0):=eqB (e.at 19 _ rfl rfl) rfl
   have i27:τ.ival 27=(bif τ.bval 26 then τ.ival 24 else 0):=eqIteI (e.at 20 _ rfl rfl) rfl rfl rfl
   have i28:τ.ival 28=(bif τ.bval 25 then τ.ival 20 else τ.ival 27):=eqIteI (e.at 21 _ rfl rfl) rfl rfl rfl
   have b29:τ.bval 29=decide (τ.ival 28<0):=eqB (e.at 22 _ rfl rfl) rfl
   have i30:τ.ival 30=IntKind.i64.wrap (τ.ival 11+1):=eqI (e.at 23 _ rfl rfl) rfl
   have i31:τ.ival 31=(bif τ.bval 29 then τ.ival 30 else τ.ival 5):=eqIteI (e.at 24 _ rfl rfl) rfl rfl rfl
   have i32:τ.ival 32=(bif τ.bval 29 then τ.ival 6 else τ.ival 11):=eqIteI (e.at 25 _ rfl rfl) rfl rfl rfl
   rw [wr_i64] at i30
   have hh:τ.bval 29=true↔Wpl.ahead (rowE S mid) x=true:=by
    rw [b29,decide_eq_true_eq,ahead_iff,i28,b25,i27,b26,i24,b21,i23,b22,i20,b17,i19,b18,v14,v15,hj.t2,hj.k3]
    by_cases g1:(rowE S mid).t<x.t
    ·simp [g1]
    ·by_cases g2:(rowE S mid).t>x.t
     ·simp [g1,g2];omega
     ·by_cases g3:(rowE S mid).k<x.k
      ·simp [g1,g2,g3];omega
      ·by_cases g4:(rowE S mid).k>x.k
       ·simp [g1,g2,g3,g4]
       ·simp [g1,g2,g3,g4]
   refine ⟨fun f12=>⟨fun f7=>⟨fun f13=> ?_,fun f13=> ?_⟩,fun f7=> .inr (.inl ⟨rfl,rfl,insOk_kt (X:=ws52BX) e hi (by kernel_rfl) (by kernel_rfl),?_,tabS ht⟩)⟩,fun f12=> ?_⟩
   ·rw [b7,decide_eq_true_eq] at f7
    have hlt:lo<hi':=by omega
    have hm1:lo≤mid∧mid<hi':=by omega
    have hst: ∃lo2 hi2,J52 S N x g.sig.ext lo2 hi2 (asgS τ ([(1,.symi .i64 1),(1,.symi .i64 1),(5,.symi .i64 31),(6,.symi .i64 32),(0,.syms 0),(1,.symi .i64 1),(2,.symi .i64 2),(3,.symi .i64 3),(4,.symi .u8 4)]++[]))∧τ.ival 32-τ.ival 31<τ.ival 6-τ.ival 5∧0≤τ.ival 32-τ.ival 31:=by
     cases hb:τ.bval 29 with
     |true=>
      have ha:=hh.1 hb
      rw [hb] at i31 i32
      simp only [cond_true] at i31 i32
      refine ⟨mid+1,hi',hj.step (by omega) (by omega) ⟨by omega,by omega⟩ (fun k hk=> ?_) hj.h2,by omega,by omega⟩
      by_cases he:k=mid
      ·subst he;exact ha
      ·exact ahead_trans (mono k mid (by omega) (by omega)) ha
     |false=>
      have ha:Wpl.ahead (rowE S mid) x=false:=by
       rw [Bool.eq_false_iff];intro h;rw [hh.2 h] at hb;cases hb
      rw [hb] at i31 i32
      simp only [cond_false] at i31 i32
      refine ⟨lo,mid,hj.step (by omega) (by omega) ⟨by omega,by omega⟩ hj.h1 (fun k hk hk2=> ?_),by omega,by omega⟩
      by_cases he:k=mid
      ·subst he;exact ha
      ·rw [Bool.eq_false_iff];intro h
       rw [ahead_trans (mono mid k (by omega) hk2) h] at ha
       cases ha
    obtain ⟨lo2,hi2,hst,hmu,hmu0⟩:=hst
    refine .inl ⟨rfl,rfl,insOk_kt (X:=ws52BX) e hi (by kernel_rfl) (by kernel_rfl),⟨lo2,hi2,hst⟩,tabS ht,?_⟩
    show (τ.ival 32-τ.ival 31).toNat<(τ.ival 6-τ.ival 5).toNat
    omega
   ·rw [b7,decide_eq_true_eq] at f7
    rw [b13,decide_eq_false_iff_not] at f13
    exfalso;omega
   ·rw [b7,decide_eq_false_iff_not] at f7
    have:lo=hi':=by omega
    subst this
    exact ⟨lo,hj.step hlo hhi ⟨by omega,by omega⟩ hj.h1 hj.h2⟩
   ·rw [b12,decide_eq_false_iff_not] at f12
    exfalso;omega
  refine Stage.seg (q2:=7) (ins2:=w52K++[some IntKind.i64,some IntKind.i64]) (S2:=w52S1) (J2:=fun σ=> ∃lo hi,J52 S N x g.sig.ext lo hi σ) mixed ws52A_seg ⟨rfl,rfl⟩ (fun σ τ (ag:Agree 5 σ τ) (h:Agree 5 g.sig σ)=>h.trans' ag) (fun τ h=>rows_nil) hloop (fun τ e ht hi ag=> ?_) (pin0 (by kernel_rfl))
  refine segsPw_segs ?_
  have a0:τ.sval 0=S:=by rw [←(ag.val 0 (by decide)).2.2];exact hSS
  have a1:τ.ival 1=N:=by rw [←(ag.val 1 (by decide)).1];exact hN
  have a2:τ.ival 2=x.t:=by rw [←(ag.val 2 (by decide)).1];exact x2
  have a3:τ.ival 3=x.k:=by rw [←(ag.val 3 (by decide)).1];exact x3
  have a4:τ.ival 4=x.v:=by rw [←(ag.val 4 (by decide)).1];exact x4
  exact .inl ⟨rfl,rfl,insOk_kt (X:=ws52AX) e hi (by kernel_rfl) (by kernel_rfl),⟨0,N,J52.zero a0 a1 a2 a3 a4 ag.ext.symm⟩,tabS ht⟩)
end Go.Proofs.Ytapfkgenachpgaa.wc
