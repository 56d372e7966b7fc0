/-
 Contracts of the document's answer for the world; what is refused; alike.
 No conditions.
-/
import Derived.Test.YtapfkgenachpgaaWu2
import Derived.WalkKit
set_option maxRecDepth 100000
namespace Go.Proofs.Ytapfkgenachpgaa.wc
open Go.Ev Go.RowKit Go.Wpl Go.Wt
set_option linter.unusedVariables false
set_option linter.unusedSimpArgs false
def wt59AG:List SDef:=[.fn 200 .i64 [.syms 0],
 .fn 201 .i64 [.syms 0],
 .bin .neq (.symi .i64 6) (.int .i64 0),
 .fn 255 .i64 [.symi .i64 2,.symi .i64 3,.symi .u8 4],
 .fn 256 .i64 [.symi .i64 2,.symi .i64 3,.symi .u8 4],
 .bin .neq (.symi .i64 9) (.int .i64 0)]
def wt59AT:LT:=.n (.n (.n (.e) 14149 5 (.fn 200 .i64 [.syms 0]) (.e)) 14192 6 (.fn 201 .i64 [.syms 0]) (.n (.e) 606012219 7 (.bin .neq (.symi .i64 6) (.int .i64 0)) (.e))) 618774949 8 (.fn 255 .i64 [.symi .i64 2,.symi .i64 3,.symi .u8 4]) (.n (.n (.e) 618774992 9 (.fn 256 .i64 [.symi .i64 2,.symi .i64 3,.symi .u8 4]) (.e)) 909013128 10 (.bin .neq (.symi .i64 9) (.int .i64 0)) (.e))
def wt59AW:Sw:=.node 7 (.dead) (.node 10 (.dead) (.run (.leaf .normal w59S1 [(0,0),(1,0),(1000002,0)] [(1,.symi .i64 1),(6,.int .i64 0),(7,.int .i64 0),(0,.syms 0),(1,.symi .i64 1),(2,.symi .i64 2),(3,.symi .i64 3),(4,.symi .u8 4),(5,.str ⟨#[]⟩),(6,.int .i64 0)] [])))
def wt59AKd:KdT:=.n (.n (.n (.n .e none .e) (some .i64) .e) (some .i64) (.n (.n .e (some .i64) .e) (some .i64) .e)) none (.n (.n (.n .e (some .i64) .e) (some .u8) .e) (some .i64) (.n (.n .e none .e) (some .i64) .e))
def wt59AY:Ing:={m:=5,ins:=w52K,G:=wt59AG,T:=wt59AT,tab:=wTab,lsts:=wL,kb:=11,kt:=wt59AKd}
def wt59AX:Ing:={m:=5,ins:=w52K,G:=wt59AG,T:=wt59AT,tab:=wTab,lsts:=wL,kb:=11,kt:=wt59AKd,mh:=symMf (kdX wt59AY) [sf58,sf58b]}
theorem wt59A_lt:okLT 5 wt59AG wt59AT=true:=by kernel_rfl
theorem wt59A_ok:okG wt59AG 5=true:=by kernel_rfl
theorem wt59A_hooks (F:List Fact):Hooks Try.prog (cxOf wt59AX F) where
 val:=fun f args v h=>by simp only [wt59AX,cxOf,noHook,reduceCtorEq] at h
 mem:=fun f args hp v hp' h=>by
  replace h:(symMf (kdX wt59AY) [sf58,sf58b]) (symS (baseOf wt59AX F)) f args hp=some (v,hp'):=h
  exact mem_symF (X:=wt59AX) (tbl:=[sf58,sf58b]) (inv:=fun _=>True) (fun e he=>by
   simp only [List.mem_cons,List.not_mem_nil,or_false] at he
   rcases he with rfl|rfl
   ·exact c58
   ·exact c58b) wt59A_lt rfl (fun _ _ _ _=>trivial) F f args hp v hp' h
 ovl:=fun f k h=>by simp only [wt59AX,cxOf,reduceCtorEq] at h
 atm:=fun k b h=>by simp only [wt59AX,cxOf,List.not_mem_nil] at h
theorem wt59A_seg:SegOk Try.prog wTab 71 ((flatC (bodyOf Try.f59)).take 9) w25S0 wt59AX wt59AW where
 lt:=wt59A_lt
 ok:=wt59A_ok
 hook:=wt59A_hooks
 n0:=rfl
 id:=by kernel_rfl
 reck:=by kernel_rfl
 tab:=rfl
 cuts:=rfl
 kt:=by kernel_rfl
def wt59BG:List SDef:=[.bin .lss (.symi .i64 7) (.symi .i64 1),
 .bin .leq (.int .i64 0) (.symi .i64 7),
 .sop (.cell [.some .i64,.some .i64,.some .u8] 0) [.syms 0,.symi .i64 7],
 .sop (.cell [.some .i64,.some .i64,.some .u8] 1) [.syms 0,.symi .i64 7],
 .sop (.cell [.some .i64,.some .i64,.some .u8] 2) [.syms 0,.symi .i64 7],
 .bin .lss (.symi .i64 10) (.symi .i64 2),
 .bin .eql (.symi .i64 10) (.symi .i64 2),
 .bin .lss (.symi .i64 11) (.symi .i64 3),
 .ite (.symb 14) (.symb 15) (.bool false),
 .ite (.symb 13) (.bool true) (.symb 16),
 .sop (.row [.some .i64,.some .i64,.some .u8]) [.symi .i64 10,.symi .i64 11,.symi .u8 12],
 .sop .cat [.syms 5,.syms 18],
 .bin .add (.symi .i64 6) (.int .i64 1),
 .bin .leq (.int .i64 0) (.symi .i64 20),
 .bin .leq (.symi .i64 20) (.int .i64 5864062014805),
 .bin .add (.symi .i64 7) (.int .i64 1)]
def wt59BT:LT:=.n (.n (.n (.n (.n (.e) 197529753 18 (.sop (.row [.some .i64,.some .i64,.some .u8]) [.symi .i64 10,.symi .i64 11,.symi .u8 12]) (.e)) 256021619 9 (.bin .leq (.int .i64 0) (.symi .i64 7)) (.e)) 424650825 21 (.bin .leq (.int .i64 0) (.symi .i64 20)) (.n (.e) 484398472 22 (.bin .leq (.symi .i64 20) (.int .i64 5864062014805)) (.e))) 606062170 20 (.bin .add (.symi .i64 6) (.int .i64 1)) (.n (.n (.e) 609159174 19 (.sop .cat [.syms 5,.syms 18]) (.e)) 622998767 14 (.bin .eql (.symi .i64 10) (.symi .i64 2)) (.n (.e) 622998781 13 (.bin .lss (.symi .i64 10) (.symi .i64 2)) (.e)))) 707062473 23 (.bin .add (.symi .i64 7) (.int .i64 1)) (.n (.n (.n (.e) 805806361 10 (.sop (.cell [.some .i64,.some .i64,.some .u8] 0) [.syms 0,.symi .i64 7]) (.e)) 805806363 11 (.sop (.cell [.some .i64,.some .i64,.some .u8] 1) [.syms 0,.symi .i64 7]) (.n (.e) 805806365 12 (.sop (.cell [.some .i64,.some .i64,.some .u8] 2) [.syms 0,.symi .i64 7]) (.e))) 959917136 16 (.ite (.symb 14) (.symb 15) (.bool false)) (.n (.n (.e) 1001917906 17 (.ite (.symb 13) (.bool true) (.symb 16)) (.e)) 1050386121 8 (.bin .lss (.symi .i64 7) (.symi .i64 1)) (.n (.e) 1067352662 15 (.bin .lss (.symi .i64 11) (.symi .i64 3)) (.e))))
def wt59BW:Sw:=.node 9 (.node 21 (.node 22 (.run (.node 8 (.node 17 (.leaf .normal w59S1 [(0,0),(1,0),(4,0)] [(1,.symi .i64 1),(6,.symi .i64 20),(7,.symi .i64 23),(0,.syms 0),(1,.symi .i64 1),(2,.symi .i64 2),(3,.symi .i64 3),(4,.symi .u8 4),(5,.syms 19),(6,.symi .i64 20)] []) (.leaf .normal w59S1 [(0,0),(1,0),(2,0)] [(1,.symi .i64 1),(6,.symi .i64 6),(7,.symi .i64 23),(0,.syms 0),(1,.symi .i64 1),(2,.symi .i64 2),(3,.symi .i64 3),(4,.symi .u8 4),(5,.syms 5),(6,.symi .i64 6)] [])) (.leaf (.exit 0) w59S1 [(0,0),(1,0),(2,0)] [(1,.symi .i64 1),(6,.symi .i64 6),(7,.symi .i64 7),(0,.syms 0),(1,.symi .i64 1),(2,.symi .i64 2),(3,.symi .i64 3),(4,.symi .u8 4),(5,.syms 5),(6,.symi .i64 6)] []))) (.dead)) (.dead)) (.dead)
def wt59BKd:KdT:=.n (.n (.n (.n (.n .e none .e) (some .i64) (.n .e (some .i64) .e)) (some .i64) (.n (.n .e none .e) (some .i64) .e)) (some .i64) (.n (.n (.n .e none .e) none .e) none (.n (.n .e none .e) none .e))) none (.n (.n (.n (.n .e none .e) none .e) (some .u8) (.n (.n .e (some .i64) .e) (some .u8) .e)) (some .i64) (.n (.n (.n .e none .e) (some .i64) .e) (some .i64) (.n (.n .e none .e) none .e)))
def wt59BX:Ing:={m:=8,ins:=w59K1,G:=wt59BG,T:=wt59BT,tab:=wTab,lsts:=wL,kb:=24,kt:=wt59BKd}
theorem wt59B_lt:okLT 8 wt59BG wt59BT=true:=by kernel_rfl
theorem wt59B_ok:okG wt59BG 8=true:=by kernel_rfl
theorem wt59B_seg:SegOk Try.prog wTab 71 ([loopOf (bodyOf Try.f59)]) w59S1 wt59BX wt59BW where
 lt:=wt59B_lt
 ok:=wt59B_ok
 hook:=fun F=>no_hooks rfl F
 n0:=rfl
 id:=by kernel_rfl
 reck:=by kernel_rfl
 tab:=rfl
 cuts:=rfl
 kt:=by kernel_rfl
def wt59CG:List SDef:=[.sop (.row [.some .i64,.some .i64,.some .u8]) [.symi .i64 2,.symi .i64 3,.symi .u8 4],
 .sop .cat [.syms 5,.syms 8],
 .bin .add (.symi .i64 6) (.int .i64 1),
 .bin .leq (.int .i64 0) (.symi .i64 10),
 .bin .leq (.symi .i64 10) (.int .i64 5864062014805)]
def wt59CT:LT:=.n (.n (.n (.e) 212340526 11 (.bin .leq (.int .i64 0) (.symi .i64 10)) (.e)) 376851380 9 (.sop .cat [.syms 5,.syms 8]) (.e)) 548137269 12 (.bin .leq (.symi .i64 10) (.int .i64 5864062014805)) (.n (.n (.e) 606062170 10 (.bin .add (.symi .i64 6) (.int .i64 1)) (.e)) 690447981 8 (.sop (.row [.some .i64,.some .i64,.some .u8]) [.symi .i64 2,.symi .i64 3,.symi .u8 4]) (.e))
def wt59CW:Sw:=.node 11 (.node 12 (.run (.leaf .normal w59S2 [(0,0),(1,0),(4,0)] [(1,.symi .i64 1),(6,.symi .i64 10),(7,.int .i64 0),(0,.syms 0),(1,.symi .i64 1),(2,.symi .i64 2),(3,.symi .i64 3),(4,.symi .u8 4),(5,.syms 9),(6,.symi .i64 10)] [])) (.dead)) (.dead)
def wt59CKd:KdT:=.n (.n (.n (.n .e (some .i64) .e) (some .i64) (.n .e none .e)) (some .i64) (.n (.n .e none .e) none .e)) none (.n (.n (.n .e none .e) (some .u8) (.n .e none .e)) (some .i64) (.n (.n .e (some .i64) .e) (some .i64) .e))
def wt59CX:Ing:={m:=8,ins:=w59K1,G:=wt59CG,T:=wt59CT,tab:=wTab,lsts:=wL,kb:=13,kt:=wt59CKd}
theorem wt59C_lt:okLT 8 wt59CG wt59CT=true:=by kernel_rfl
theorem wt59C_ok:okG wt59CG 8=true:=by kernel_rfl
theorem wt59C_seg:SegOk Try.prog wTab 71 (((flatC (bodyOf Try.f59)).drop 10).take 2) w59S1 wt59CX wt59CW where
 lt:=wt59C_lt
 ok:=wt59C_ok
 hook:=fun F=>no_hooks rfl F
 n0:=rfl
 id:=by kernel_rfl
 reck:=by kernel_rfl
 tab:=rfl
 cuts:=rfl
 kt:=by kernel_rfl
def wt59DG:List SDef:=[.bin .lss (.symi .i64 7) (.symi .i64 1),
 .bin .leq (.int .i64 0) (.symi .i64 7),
 .sop (.cell [.some .i64,.some .i64,.some .u8] 0) [.syms 0,.symi .i64 7],
 .sop (.cell [.some .i64,.some .i64,.some .u8] 1) [.syms 0,.symi .i64 7],
 .sop (.cell [.some .i64,.some .i64,.some .u8] 2) [.syms 0,.symi .i64 7],
 .bin .lss (.symi .i64 2) (.symi .i64 10),
 .bin .eql (.symi .i64 2) (.symi .i64 10),
 .bin .lss (.symi .i64 3) (.symi .i64 11),
 .ite (.symb 14) (.symb 15) (.bool false),
 .ite (.symb 13) (.bool true) (.symb 16),
 .sop (.row [.some .i64,.some .i64,.some .u8]) [.symi .i64 10,.symi .i64 11,.symi .u8 12],
 .sop .cat [.syms 5,.syms 18],
 .bin .add (.symi .i64 6) (.int .i64 1),
 .bin .leq (.int .i64 0) (.symi .i64 20),
 .bin .leq (.symi .i64 20) (.int .i64 5864062014805),
 .bin .add (.symi .i64 7) (.int .i64 1)]
def wt59DT:LT:=.n (.n (.n (.n (.n (.e) 197529753 18 (.sop (.row [.some .i64,.some .i64,.some .u8]) [.symi .i64 10,.symi .i64 11,.symi .u8 12]) (.e)) 256021619 9 (.bin .leq (.int .i64 0) (.symi .i64 7)) (.e)) 414341313 14 (.bin .eql (.symi .i64 2) (.symi .i64 10)) (.n (.e) 414341327 13 (.bin .lss (.symi .i64 2) (.symi .i64 10)) (.e))) 424650825 21 (.bin .leq (.int .i64 0) (.symi .i64 20)) (.n (.n (.e) 484398472 22 (.bin .leq (.symi .i64 20) (.int .i64 5864062014805)) (.e)) 606062170 20 (.bin .add (.symi .i64 6) (.int .i64 1)) (.n (.e) 609159174 19 (.sop .cat [.syms 5,.syms 18]) (.e)))) 707062473 23 (.bin .add (.symi .i64 7) (.int .i64 1)) (.n (.n (.n (.e) 805806361 10 (.sop (.cell [.some .i64,.some .i64,.some .u8] 0) [.syms 0,.symi .i64 7]) (.e)) 805806363 11 (.sop (.cell [.some .i64,.some .i64,.some .u8] 1) [.syms 0,.symi .i64 7]) (.n (.e) 805806365 12 (.sop (.cell [.some .i64,.some .i64,.some .u8] 2) [.syms 0,.symi .i64 7]) (.e))) 858695208 15 (.bin .lss (.symi .i64 3) (.symi .i64 11)) (.n (.n (.e) 959917136 16 (.ite (.symb 14) (.symb 15) (.bool false)) (.e)) 1001917906 17 (.ite (.symb 13) (.bool true) (.symb 16)) (.n (.e) 1050386121 8 (.bin .lss (.symi .i64 7) (.symi .i64 1)) (.e))))
def wt59DW:Sw:=.node 9 (.node 21 (.node 22 (.run (.node 8 (.node 17 (.leaf .normal w59S2 [(0,0),(1,0),(4,0)] [(1,.symi .i64 1),(6,.symi .i64 20),(7,.symi .i64 23),(0,.syms 0),(1,.symi .i64 1),(2,.symi .i64 2),(3,.symi .i64 3),(4,.symi .u8 4),(5,.syms 19),(6,.symi .i64 20)] []) (.leaf .normal w59S2 [(0,0),(1,0),(2,0)] [(1,.symi .i64 1),(6,.symi .i64 6),(7,.symi .i64 23),(0,.syms 0),(1,.symi .i64 1),(2,.symi .i64 2),(3,.symi .i64 3),(4,.symi .u8 4),(5,.syms 5),(6,.symi .i64 6)] [])) (.leaf (.exit 2) w59S2 [(0,0),(1,0),(2,0)] [(1,.symi .i64 1),(6,.symi .i64 6),(7,.symi .i64 7),(0,.syms 0),(1,.symi .i64 1),(2,.symi .i64 2),(3,.symi .i64 3),(4,.symi .u8 4),(5,.syms 5),(6,.symi .i64 6)] []))) (.dead)) (.dead)) (.dead)
def wt59DKd:KdT:=.n (.n (.n (.n (.n .e none .e) (some .i64) (.n .e (some .i64) .e)) (some .i64) (.n (.n .e none .e) (some .i64) .e)) (some .i64) (.n (.n (.n .e none .e) none .e) none (.n (.n .e none .e) none .e))) none (.n (.n (.n (.n .e none .e) none .e) (some .u8) (.n (.n .e (some .i64) .e) (some .u8) .e)) (some .i64) (.n (.n (.n .e none .e) (some .i64) .e) (some .i64) (.n (.n .e none .e) none .e)))
def wt59DX:Ing:={m:=8,ins:=w59K1,G:=wt59DG,T:=wt59DT,tab:=wTab,lsts:=wL,kb:=24,kt:=wt59DKd}
theorem wt59D_lt:okLT 8 wt59DG wt59DT=true:=by kernel_rfl
theorem wt59D_ok:okG wt59DG 8=true:=by kernel_rfl
theorem wt59D_seg:SegOk Try.prog wTab 71 ([loopAt 12 (bodyOf Try.f59)]) w59S2 wt59DX wt59DW where
 lt:=wt59D_lt
 ok:=wt59D_ok
 hook:=fun F=>no_hooks rfl F
 n0:=rfl
 id:=by kernel_rfl
 reck:=by kernel_rfl
 tab:=rfl
 cuts:=rfl
 kt:=by kernel_rfl
def wt59EG:List SDef:=[]
def wt59ET:LT:=.e
def wt59EW:Sw:=.run (.leaf .ret w59Se [(0,0),(2,0)] [(1,.symi .i64 1),(5,.symi .i64 6),(0,.syms 0),(1,.symi .i64 1),(6,.syms 5),(5,.symi .i64 6)] [])
def wt59EKd:KdT:=.n (.n (.n (.n .e (some .i64) .e) (some .i64) .e) (some .i64) (.n .e none .e)) none (.n (.n .e (some .u8) .e) (some .i64) (.n .e (some .i64) .e))
def wt59EX:Ing:={m:=8,ins:=w59K1,G:=wt59EG,T:=wt59ET,tab:=wTab,lsts:=wL,kb:=8,kt:=wt59EKd}
theorem wt59E_lt:okLT 8 wt59EG wt59ET=true:=by kernel_rfl
theorem wt59E_ok:okG wt59EG 8=true:=by kernel_rfl
theorem wt59E_seg:SegOk Try.prog wTab 71 ((flatC (bodyOf Try.f59)).drop 13) w59S2 wt59EX wt59EW where
 lt:=wt59E_lt
 ok:=wt59E_ok
 hook:=fun F=>no_hooks rfl F
 n0:=rfl
 id:=by kernel_rfl
 reck:=by kernel_rfl
 tab:=rfl
 cuts:=rfl
 kt:=by kernel_rfl
structure J59 (O:Nat→List E3) (C:ByteArray) (N:Nat) (x:E3) (E:Nat→Option Fz) (σ:Sig):Prop where
 s:σ.sval 0=C
 n:σ.ival 1=N
 x2:σ.ival 2=x.t
 x3:σ.ival 3=x.k
 x4:σ.ival 4=x.v
 ex:σ.ext=E
 j: ∃j:Nat,σ.ival 7=j∧j≤N∧σ.sval 5=Wt.encL (O j)∧σ.ival 6=(O j).length
theorem J59.agree {O:Nat→List E3} {C:ByteArray} {N:Nat} {x:E3} {E:Nat→Option Fz} {σ τ:Sig} (ag:Agree 8 σ τ) (h:J59 O C N x E σ):J59 O C N x E τ:=
  ⟨by rw [←(ag.val 0 (by decide)).2.2];exact h.s,by rw [←(ag.val 1 (by decide)).1];exact h.n,by rw [←(ag.val 2 (by decide)).1];exact h.x2,by rw [←(ag.val 3 (by decide)).1];exact h.x3,by rw [←(ag.val 4 (by decide)).1];exact h.x4,by rw [←ag.ext];exact h.ex,
   by rw [←(ag.val 7 (by decide)).1,←(ag.val 5 (by decide)).2.2,←(ag.val 6 (by decide)).1];exact h.j⟩
theorem J59.to {O O':Nat→List E3} {C:ByteArray} {N:Nat} {x:E3} {E:Nat→Option Fz} {τ:Sig} (h:J59 O C N x E τ) {a b d:Nat} {j:Nat} (hj:τ.ival d=j) (hN:j≤N) (hs:τ.sval b=Wt.encL (O' j)) (hn:τ.ival a=(O' j).length):
  J59 O' C N x E (asgS τ ([(1,.symi .i64 1),(6,.symi .i64 a),(7,.symi .i64 d),(0,.syms 0),(1,.symi .i64 1),(2,.symi .i64 2),(3,.symi .i64 3),(4,.symi .u8 4),(5,.syms b),(6,.symi .i64 a)]++[])):=⟨h.s,h.n,h.x2,h.x3,h.x4,extS h.ex,j,hj,hN,hs,hn⟩
theorem J59.to0 {O O':Nat→List E3} {C:ByteArray} {N:Nat} {x:E3} {E:Nat→Option Fz} {τ:Sig} (h:J59 O C N x E τ) {a b:Nat} (hs:τ.sval b=Wt.encL (O' 0)) (hn:τ.ival a=(O' 0).length):
  J59 O' C N x E (asgS τ ([(1,.symi .i64 1),(6,.symi .i64 a),(7,.int .i64 0),(0,.syms 0),(1,.symi .i64 1),(2,.symi .i64 2),(3,.symi .i64 3),(4,.symi .u8 4),(5,.syms b),(6,.symi .i64 a)]++[])):=⟨h.s,h.n,h.x2,h.x3,h.x4,extS h.ex,0,rfl,Nat.zero_le _,hs,hn⟩
theorem J59.zero {O:Nat→List E3} {C:ByteArray} {N:Nat} {x:E3} {E:Nat→Option Fz} {τ:Sig} (a0:τ.sval 0=C) (a1:τ.ival 1=N) (a2:τ.ival 2=x.t) (a3:τ.ival 3=x.k) (a4:τ.ival 4=x.v) (hx:τ.ext=E) (h0:O 0=[]):
  J59 O C N x E (asgS τ ([(1,.symi .i64 1),(6,.int .i64 0),(7,.int .i64 0),(0,.syms 0),(1,.symi .i64 1),(2,.symi .i64 2),(3,.symi .i64 3),(4,.symi .u8 4),(5,.str ⟨#[]⟩),(6,.int .i64 0)]++[])):=
 ⟨a0,a1,a2,a3,a4,extS hx,0,rfl,Nat.zero_le _,by rw [h0];rfl,by rw [h0];rfl⟩
def out1 (l:List E3) (x:E3) (j:Nat):List E3:=(l.take j).filter fun a=>Wpl.ahead a x
def out2 (l:List E3) (x:E3) (j:Nat):List E3:=l.filter (fun a=>Wpl.ahead a x)++x::(l.take j).filter fun a=>Wpl.ahead x a
theorem out1_snoc {l:List E3} {x y:E3} {j:Nat} (h:l[j]? =some y):out1 l x (j+1)=if Wpl.ahead y x=true then out1 l x j++[y] else out1 l x j:=by
 unfold out1
 rw [take_snoc h,List.filter_append]
 by_cases g:Wpl.ahead y x=true
 ·rw [if_pos g,List.filter_cons_of_pos (by simpa using g),List.filter_nil]
 ·rw [if_neg g,List.filter_cons_of_neg (by simpa using g),List.filter_nil,List.append_nil]
theorem out2_snoc {l:List E3} {x y:E3} {j:Nat} (h:l[j]? =some y):out2 l x (j+1)=if Wpl.ahead x y=true then out2 l x j++[y] else out2 l x j:=by
 unfold out2
 rw [take_snoc h,List.filter_append]
 by_cases g:Wpl.ahead x y=true
 ·rw [if_pos g,List.filter_cons_of_pos (by simpa using g),List.filter_nil];simp
 ·rw [if_neg g,List.filter_cons_of_neg (by simpa using g),List.filter_nil,List.append_nil]
theorem out1_le (l:List E3) (x:E3) (j:Nat):(out1 l x j).length≤l.length:=
 Nat.le_trans (List.length_filter_le _ _) (by rw [List.length_take];omega)
theorem out2_le (l:List E3) (x:E3) (j:Nat):(out2 l x j).length≤l.length+l.length+1:=by
 unfold out2
 have h1:=List.length_filter_le (fun a=>Wpl.ahead a x) l
 have h2:=List.length_filter_le (fun a=>Wpl.ahead x a) (l.take j)
 have h3:(l.take j).length≤l.length:=by rw [List.length_take];omega
 rw [List.length_append,List.length_cons]
 exact Nat.le_trans (Nat.add_le_add h1 (Nat.add_le_add_right h2 1)) (by omega)
def L59:Asg:=[(5,.symi .i64 5),(0,.syms 0),(1,.symi .i64 1),(6,.syms 6),(5,.symi .i64 5)]
theorem tab202': ∀C:ByteArray,wTab 201 [encB C]=(check (decL (encB C))).2:=fun _=>rfl
set_option maxHeartbeats 2000000 in
theorem c59:SymFOk Try.prog wTab (fun _=>True) sf59:=
 symF_of_stage Try.func59 rfl (n:=71) rfl (by decide) (by decide) rfl rfl (by kernel_rfl) (fun g w hg _ hE hI hpc hH=>by
  obtain ⟨N,hN,hC⟩:=lst_ok (i:=0) hH rfl
  have hp:=pc202 hg rfl hC (hpc _ (by simp [sf59,sf25]))
  have hq:(AVal.bool (!(g.sig.tab 205 [g.sig.ival 2,g.sig.ival 3,g.sig.ival 4]==0)))=.bool true:=Option.some.inj (hpc (.fnb 205 [.symi .i64 2,.symi .i64 3,.symi .u8 4]) (by simp [sf59,sf25]))
  generalize hCC:g.sig.sval 0=C at hC hp
  obtain ⟨hScr,hNb⟩:=hp
  generalize hx:(⟨g.sig.ival 2,g.sig.ival 3,g.sig.ival 4⟩:E3)=x
  have y2:g.sig.ival 2=x.t:=by rw [←hx]
  have y3:g.sig.ival 3=x.k:=by rw [←hx]
  have y4:g.sig.ival 4=x.v:=by rw [←hx]
  rw [hg,tab205,b01_ne,AVal.bool.injEq,decide_eq_true_eq,hx] at hq
  have hdec:decL (encB C)=lstE C N:=decL_of hC
  have hall:out2 (lstE C N) x N=set (lstE C N) x:=by
   unfold out2 Wpl.set
   rw [List.take_of_length_le (by rw [lstE_len];exact Nat.le_refl _)]
  have hl2:=out2_le (lstE C N) x N
  rw [hall,lstE_len] at hl2
  have r5:g.sig.ival 5=((set (lstE C N) x).length:Int):=by
   have h:g.sig.ival 5=IntKind.i64.wrap (g.sig.tab 253 [encB (g.sig.sval 0),g.sig.ival 2,g.sig.ival 3,g.sig.ival 4]):=eqFn (hE.at 0 _ rfl rfl)
   have e:wTab 253 [encB C,x.t,x.k,x.v]=((set (decL (encB C)) ⟨x.t,x.k,x.v⟩).length:Int):=rfl
   have e1:set (lstE C N) ⟨x.t,x.k,x.v⟩=set (lstE C N) x:=rfl
   rw [h,hg,hCC,y2,y3,y4,e,hdec,e1,wr_i64]
   omega
  have r6:g.sig.sval 6=Wt.encL (set (lstE C N) x):=by
   have h:g.sig.sval 6=decS (g.sig.tab 257 [encB (g.sig.sval 0),g.sig.ival 2,g.sig.ival 3,g.sig.ival 4]):=eqFs (hE.at 1 _ rfl rfl)
   have e:wTab 257 [encB C,x.t,x.k,x.v]=encB (Wt.encL (set (decL (encB C)) ⟨x.t,x.k,x.v⟩)):=rfl
   rw [h,hg,hCC,y2,y3,y4,e,decS_enc,hdec]
  have hlast:Stage Try.prog wTab 71 (fraOf g w 1) (bodyPost Try.prog Try.f59 (MemR wTab sf59 g w)) ((flatC (bodyOf Try.f59)).drop 13) w59S2 8 w59K1 (fun σ=>J59 (out2 (lstE C N) x) C N x g.sig.ext σ∧σ.ival 7=N):=by
   refine Stage.last mixed wt59E_seg ⟨rfl,rfl⟩ (fun σ τ ag h=>⟨h.1.agree ag,by rw [←(ag.val 7 (by decide)).1];exact h.2⟩) (fun τ h=>rows_nil) (fun τ e ht hi hj=> ?_) (pin0 (by kernel_rfl))
   refine segsPw_segs ?_
   obtain ⟨hj,hjN⟩:=hj
   obtain ⟨j,k1,k2,k3,k4⟩:=hj.j
   have:j=N:=by omega
   subst this
   rw [hall] at k3 k4
   exact endZ_mem (M:=7) (l:=L59) (vs:=[.lsl 1 3 true (.int .i64 0) (.symi .i64 5),.int .i64 0]) (by kernel_rfl) rfl rfl hH hg rfl rfl rfl (by kernel_rfl) (by kernel_rfl) ⟨congrArg (AVal.int .i64) (k4.trans r5.symm),congrArg AVal.str (hj.s.trans hCC.symm),congrArg (AVal.int .i64) (hj.n.trans hN.symm),congrArg AVal.str (k3.trans r6.symm),congrArg (AVal.int .i64) (k4.trans r5.symm),trivial⟩ (by decide) (extS hj.ex) (.inl rfl)
  have hloop2:Stage Try.prog wTab 71 (fraOf g w 1) (bodyPost Try.prog Try.f59 (MemR wTab sf59 g w)) (.block 2 (.loop (loopAt 12 (bodyOf Try.f59)))::(flatC (bodyOf Try.f59)).drop 13) w59S2 8 w59K1 (J59 (out2 (lstE C N) x) C N x g.sig.ext):=by
   refine Stage.loop (μ:=fun σ=>(N-σ.ival 7).toNat) mixed wt59D_seg ⟨rfl,rfl⟩ (fun σ τ ag h=>h.agree ag) (fun σ τ ag=>by rw [(ag.val 7 (by decide)).1]) (fun τ h=>rows_nil) hlast (fun τ e ht hi hj=> ?_) (pin0 (by kernel_rfl))
   obtain ⟨j,k1,k2,k3,k4⟩:=hj.j
   have a0:τ.sval 0=C:=hj.s
   have a1:τ.ival 1=N:=hj.n
   have x2:τ.ival 2=x.t:=hj.x2
   have x3:τ.ival 3=x.k:=hj.x3
   have hle:=out2_le (lstE C N) x j
   rw [lstE_len] at hle
   have c10:=eqCell (m:=j) (e.at 2 _ rfl rfl) (show den τ (.symi .i64 7)=_ by rw [←k1];rfl)
   have c11:=eqCell (m:=j) (e.at 3 _ rfl rfl) (show den τ (.symi .i64 7)=_ by rw [←k1];rfl)
   have c12:=eqCell (m:=j) (e.at 4 _ rfl rfl) (show den τ (.symi .i64 7)=_ by rw [←k1];rfl)
   rw [a0] at c10 c11 c12
   have v10:τ.ival 10=(rowE C j).t:=by simp only [rowE,c10,iOf]
   have v11:τ.ival 11=(rowE C j).k:=by simp only [rowE,c11,iOf]
   have v12:τ.ival 12=(rowE C j).v:=by simp only [rowE,c12,iOf]
   have b8:τ.bval 8=decide (τ.ival 7<τ.ival 1):=eqB (e.at 0 _ rfl rfl) rfl
   have b9:τ.bval 9=decide ((0:Int)≤τ.ival 7):=eqB (e.at 1 _ rfl rfl) rfl
   have b13:τ.bval 13=decide (τ.ival 2<τ.ival 10):=eqB (e.at 5 _ rfl rfl) rfl
   have b14:τ.bval 14=(τ.ival 2==τ.ival 10):=eqB (e.at 6 _ rfl rfl) rfl
   have b15:τ.bval 15=decide (τ.ival 3<τ.ival 11):=eqB (e.at 7 _ rfl rfl) rfl
   have b16:τ.bval 16=(bif τ.bval 14 then τ.bval 15 else false):=eqIteB (e.at 8 _ rfl rfl) rfl rfl rfl
   have b17:τ.bval 17=(bif τ.bval 13 then true else τ.bval 16):=eqIteB (e.at 9 _ rfl rfl) rfl rfl rfl
   have i20:τ.ival 20=IntKind.i64.wrap (τ.ival 6+1):=eqI (e.at 12 _ rfl rfl) rfl
   have b21:τ.bval 21=decide ((0:Int)≤τ.ival 20):=eqB (e.at 13 _ rfl rfl) rfl
   have b22:τ.bval 22=decide (τ.ival 20≤5864062014805):=eqB (e.at 14 _ rfl rfl) rfl
   have i23:τ.ival 23=IntKind.i64.wrap (τ.ival 7+1):=eqI (e.at 15 _ rfl rfl) rfl
   have s18:τ.sval 18=encX (rowE C j):=(eqRow (e.at 10 _ rfl rfl)).trans (encX_row' v10 v11 v12)
   have s19:τ.sval 19=τ.sval 5++τ.sval 18:=eqCat (e.at 11 _ rfl rfl) rfl rfl
   rw [wr_i64] at i20 i23
   have hb:τ.bval 17=Wpl.ahead x (rowE C j):=by
    rw [b17,b13,b16,b14,b15,v10,v11,x2,x3]
    simp only [Wpl.ahead]
    by_cases g1:(x).t<((rowE C j)).t
    ·simp [g1]
    ·by_cases g2:(x).t=((rowE C j)).t
     ·simp [g2]
     ·have g3:((x).t==((rowE C j)).t)=false:=beq_eq_false_iff_ne.2 g2
      simp [g1,g2,g3]
   refine segsPw_segs ?_
   refine ⟨fun _=>⟨fun _=>⟨fun _=>⟨fun f8=>⟨fun f17=> ?_,fun f17=> ?_⟩,fun f8=> .inr (.inl ⟨rfl,rfl,insOk_kt (X:=wt59DX) e hi (by kernel_rfl) (by kernel_rfl),⟨hj.to k1 k2 k3 k4,?_⟩,tabS ht⟩)⟩,fun f=> ?_⟩,fun f=> ?_⟩,fun f=> ?_⟩
   ·rw [b8,decide_eq_true_eq] at f8
    have hg:(lstE C N)[j]? =some (rowE C j):=lstE_get (by omega)
    have hu:=out2_snoc (x:=x) hg
    rw [if_pos (by rw [←hb];exact f17)] at hu
    have hst:J59 (out2 (lstE C N) x) C N x g.sig.ext _:=hj.to (a:=20) (b:=19) (d:=23) (j:=j+1) (by omega) (by omega) (by rw [hu,Wt.encL_snoc,s19,s18,k3]) (by rw [hu,List.length_append,List.length_singleton];omega)
    refine .inl ⟨rfl,rfl,insOk_kt (X:=wt59DX) e hi (by kernel_rfl) (by kernel_rfl),hst,tabS ht,?_⟩
    show (N-τ.ival 23).toNat<(N-τ.ival 7).toNat
    omega
   ·rw [b8,decide_eq_true_eq] at f8
    have hg:(lstE C N)[j]? =some (rowE C j):=lstE_get (by omega)
    have hu:=out2_snoc (x:=x) hg
    rw [if_neg (by rw [←hb,f17];simp)] at hu
    have hst:J59 (out2 (lstE C N) x) C N x g.sig.ext _:=hj.to (a:=6) (b:=5) (d:=23) (j:=j+1) (by omega) (by omega) (by rw [hu];exact k3) (by rw [hu];exact k4)
    refine .inl ⟨rfl,rfl,insOk_kt (X:=wt59DX) e hi (by kernel_rfl) (by kernel_rfl),hst,tabS ht,?_⟩
    show (N-τ.ival 23).toNat<(N-τ.ival 7).toNat
    omega
   ·rw [b8,decide_eq_false_iff_not] at f8
    show τ.ival 7=N
    omega
   ·rw [b22,decide_eq_false_iff_not] at f
    exfalso;omega
   ·rw [b21,decide_eq_false_iff_not] at f
    exfalso;omega
   ·rw [b9,decide_eq_false_iff_not] at f
    exfalso;omega
  have hmid:Stage Try.prog wTab 71 (fraOf g w 1) (bodyPost Try.prog Try.f59 (MemR wTab sf59 g w)) ((flatC (bodyOf Try.f59)).drop 10) w59S1 8 w59K1 (fun σ=>J59 (out1 (lstE C N) x) C N x g.sig.ext σ∧σ.ival 7=N):=by
   rw [show (flatC (bodyOf Try.f59)).drop 10=((flatC (bodyOf Try.f59)).drop 10).take 2++(.block 2 (.loop (loopAt 12 (bodyOf Try.f59)))::(flatC (bodyOf Try.f59)).drop 13) from rfl]
   refine Stage.seg mixed wt59C_seg ⟨rfl,rfl⟩ (fun σ τ ag h=>⟨h.1.agree ag,by rw [←(ag.val 7 (by decide)).1];exact h.2⟩) (fun τ h=>rows_nil) hloop2 (fun τ e ht hi hj=> ?_) (pin0 (by kernel_rfl))
   obtain ⟨hj,hjN⟩:=hj
   obtain ⟨j,k1,k2,k3,k4⟩:=hj.j
   have hle:=out1_le (lstE C N) x j
   rw [lstE_len] at hle
   have:j=N:=by omega
   subst this
   have h1:out1 (lstE C j) x j=(lstE C j).filter fun a=>Wpl.ahead a x:=by
    unfold out1;rw [List.take_of_length_le (by rw [lstE_len];exact Nat.le_refl _)]
   have h2:out2 (lstE C j) x 0=out1 (lstE C j) x j++[x]:=by rw [h1];rfl
   have i10:τ.ival 10=IntKind.i64.wrap (τ.ival 6+1):=eqI (e.at 2 _ rfl rfl) rfl
   have b11:τ.bval 11=decide ((0:Int)≤τ.ival 10):=eqB (e.at 3 _ rfl rfl) rfl
   have b12:τ.bval 12=decide (τ.ival 10≤5864062014805):=eqB (e.at 4 _ rfl rfl) rfl
   have s8:τ.sval 8=encX x:=(eqRow (e.at 0 _ rfl rfl)).trans (encX_row' hj.x2 hj.x3 hj.x4)
   have s9:τ.sval 9=τ.sval 5++τ.sval 8:=eqCat (e.at 1 _ rfl rfl) rfl rfl
   rw [wr_i64] at i10
   refine segsPw_segs ?_
   refine ⟨fun _=>⟨fun _=> .inl ⟨rfl,rfl,insOk_kt (X:=wt59CX) e hi (by kernel_rfl) (by kernel_rfl),?_,tabS ht⟩,fun f=> ?_⟩,fun f=> ?_⟩
   ·exact hj.to0 (O':=out2 (lstE C j) x) (a:=10) (b:=9) (by rw [h2,Wt.encL_snoc,s9,s8,k3]) (by rw [h2,List.length_append,List.length_singleton];omega)
   ·rw [b12,decide_eq_false_iff_not] at f
    exfalso;omega
   ·rw [b11,decide_eq_false_iff_not] at f
    exfalso;omega
  have hloop1:Stage Try.prog wTab 71 (fraOf g w 1) (bodyPost Try.prog Try.f59 (MemR wTab sf59 g w)) (.block (idOf (bodyOf Try.f59)) (.loop (loopOf (bodyOf Try.f59)))::(flatC (bodyOf Try.f59)).drop 10) w59S1 8 w59K1 (J59 (out1 (lstE C N) x) C N x g.sig.ext):=by
   refine Stage.loop (μ:=fun σ=>(N-σ.ival 7).toNat) mixed wt59B_seg ⟨rfl,rfl⟩ (fun σ τ ag h=>h.agree ag) (fun σ τ ag=>by rw [(ag.val 7 (by decide)).1]) (fun τ h=>rows_nil) hmid (fun τ e ht hi hj=> ?_) (pin0 (by kernel_rfl))
   obtain ⟨j,k1,k2,k3,k4⟩:=hj.j
   have a0:τ.sval 0=C:=hj.s
   have a1:τ.ival 1=N:=hj.n
   have x2:τ.ival 2=x.t:=hj.x2
   have x3:τ.ival 3=x.k:=hj.x3
   have hle:=out1_le (lstE C N) x j
   rw [lstE_len] at hle
   have c10:=eqCell (m:=j) (e.at 2 _ rfl rfl) (show den τ (.symi .i64 7)=_ by rw [←k1];rfl)
   have c11:=eqCell (m:=j) (e.at 3 _ rfl rfl) (show den τ (.symi .i64 7)=_ by rw [←k1];rfl)
   have c12:=eqCell (m:=j) (e.at 4 _ rfl rfl) (show den τ (.symi .i64 7)=_ by rw [←k1];rfl)
   rw [a0] at c10 c11 c12
   have v10:τ.ival 10=(rowE C j).t:=by simp only [rowE,c10,iOf]
   have v11:τ.ival 11=(rowE C j).k:=by simp only [rowE,c11,iOf]
   have v12:τ.ival 12=(rowE C j).v:=by simp only [rowE,c12,iOf]
   have b8:τ.bval 8=decide (τ.ival 7<τ.ival 1):=eqB (e.at 0 _ rfl rfl) rfl
   have b9:τ.bval 9=decide ((0:Int)≤τ.ival 7):=eqB (e.at 1 _ rfl rfl) rfl
   have b13:τ.bval 13=decide (τ.ival 10<τ.ival 2):=eqB (e.at 5 _ rfl rfl) rfl
   have b14:τ.bval 14=(τ.ival 10==τ.ival 2):=eqB (e.at 6 _ rfl rfl) rfl
   have b15:τ.bval 15=decide (τ.ival 11<τ.ival 3):=eqB (e.at 7 _ rfl rfl) rfl
   have b16:τ.bval 16=(bif τ.bval 14 then τ.bval 15 else false):=eqIteB (e.at 8 _ rfl rfl) rfl rfl rfl
   have b17:τ.bval 17=(bif τ.bval 13 then true else τ.bval 16):=eqIteB (e.at 9 _ rfl rfl) rfl rfl rfl
   have i20:τ.ival 20=IntKind.i64.wrap (τ.ival 6+1):=eqI (e.at 12 _ rfl rfl) rfl
   have b21:τ.bval 21=decide ((0:Int)≤τ.ival 20):=eqB (e.at 13 _ rfl rfl) rfl
   have b22:τ.bval 22=decide (τ.ival 20≤5864062014805):=eqB (e.at 14 _ rfl rfl) rfl
   have i23:τ.ival 23=IntKind.i64.wrap (τ.ival 7+1):=eqI (e.at 15 _ rfl rfl) rfl
   have s18:τ.sval 18=encX (rowE C j):=(eqRow (e.at 10 _ rfl rfl)).trans (encX_row' v10 v11 v12)
   have s19:τ.sval 19=τ.sval 5++τ.sval 18:=eqCat (e.at 11 _ rfl rfl) rfl rfl
   rw [wr_i64] at i20 i23
   have hb:τ.bval 17=Wpl.ahead (rowE C j) x:=by
    rw [b17,b13,b16,b14,b15,v10,v11,x2,x3]
    simp only [Wpl.ahead]
    by_cases g1:((rowE C j)).t<(x).t
    ·simp [g1]
    ·by_cases g2:((rowE C j)).t=(x).t
     ·simp [g2]
     ·have g3:(((rowE C j)).t==(x).t)=false:=beq_eq_false_iff_ne.2 g2
      simp [g1,g2,g3]
   refine segsPw_segs ?_
   refine ⟨fun _=>⟨fun _=>⟨fun _=>⟨fun f8=>⟨fun f17=> ?_,fun f17=> ?_⟩,fun f8=> .inr (.inl ⟨rfl,rfl,insOk_kt (X:=wt59BX) e hi (by kernel_rfl) (by kernel_rfl),⟨hj.to k1 k2 k3 k4,?_⟩,tabS ht⟩)⟩,fun f=> ?_⟩,fun f=> ?_⟩,fun f=> ?_⟩
   ·rw [b8,decide_eq_true_eq] at f8
    have hg:(lstE C N)[j]? =some (rowE C j):=lstE_get (by omega)
    have hu:=out1_snoc (x:=x) hg
    rw [if_pos (by rw [←hb];exact f17)] at hu
    have hst:J59 (out1 (lstE C N) x) C N x g.sig.ext _:=hj.to (a:=20) (b:=19) (d:=23) (j:=j+1) (by omega) (by omega) (by rw [hu,Wt.encL_snoc,s19,s18,k3]) (by rw [hu,List.length_append,List.length_singleton];omega)
    refine .inl ⟨rfl,rfl,insOk_kt (X:=wt59BX) e hi (by kernel_rfl) (by kernel_rfl),hst,tabS ht,?_⟩
    show (N-τ.ival 23).toNat<(N-τ.ival 7).toNat
    omega
   ·rw [b8,decide_eq_true_eq] at f8
    have hg:(lstE C N)[j]? =some (rowE C j):=lstE_get (by omega)
    have hu:=out1_snoc (x:=x) hg
    rw [if_neg (by rw [←hb,f17];simp)] at hu
    have hst:J59 (out1 (lstE C N) x) C N x g.sig.ext _:=hj.to (a:=6) (b:=5) (d:=23) (j:=j+1) (by omega) (by omega) (by rw [hu];exact k3) (by rw [hu];exact k4)
    refine .inl ⟨rfl,rfl,insOk_kt (X:=wt59BX) e hi (by kernel_rfl) (by kernel_rfl),hst,tabS ht,?_⟩
    show (N-τ.ival 23).toNat<(N-τ.ival 7).toNat
    omega
   ·rw [b8,decide_eq_false_iff_not] at f8
    show τ.ival 7=N
    omega
   ·rw [b22,decide_eq_false_iff_not] at f
    exfalso;omega
   ·rw [b21,decide_eq_false_iff_not] at f
    exfalso;omega
   ·rw [b9,decide_eq_false_iff_not] at f
    exfalso;omega
  rw [show flatC (bodyOf Try.f59)=(flatC (bodyOf Try.f59)).take 9++(.block (idOf (bodyOf Try.f59)) (.loop (loopOf (bodyOf Try.f59)))::(flatC (bodyOf Try.f59)).drop 10) from rfl]
  refine Stage.seg (q2:=8) (ins2:=w59K1) (S2:=w59S1) (J2:=J59 (out1 (lstE C N) x) C N x g.sig.ext) mixed wt59A_seg ⟨rfl,rfl⟩ (fun σ τ (ag:Agree 5 σ τ) (h:Agree 5 g.sig σ)=>h.trans' ag) (fun τ h=>rows_nil) hloop1 (fun τ e ht hi ag=> ?_) (pin0 (by kernel_rfl))
  refine segsPw_segs ?_
  have a0:τ.sval 0=C:=by rw [←(ag.val 0 (by decide)).2.2];exact hCC
  have a1:τ.ival 1=N:=by rw [←(ag.val 1 (by decide)).1];exact hN
  have a2:τ.ival 2=x.t:=by rw [←(ag.val 2 (by decide)).1];exact y2
  have a3:τ.ival 3=x.k:=by rw [←(ag.val 3 (by decide)).1];exact y3
  have a4:τ.ival 4=x.v:=by rw [←(ag.val 4 (by decide)).1];exact y4
  have i5:τ.ival 5=IntKind.i64.wrap (τ.tab 200 [encB (τ.sval 0)]):=eqFn (e.at 0 _ rfl rfl)
  have i6:τ.ival 6=IntKind.i64.wrap (τ.tab 201 [encB (τ.sval 0)]):=eqFn (e.at 1 _ rfl rfl)
  have b7:τ.bval 7= !(τ.ival 6==0):=eqB (e.at 2 _ rfl rfl) rfl
  have i8:τ.ival 8=IntKind.i64.wrap (τ.tab 255 [τ.ival 2,τ.ival 3,τ.ival 4]):=eqFn (e.at 3 _ rfl rfl)
  have i9:τ.ival 9=IntKind.i64.wrap (τ.tab 256 [τ.ival 2,τ.ival 3,τ.ival 4]):=eqFn (e.at 4 _ rfl rfl)
  have b10:τ.bval 10= !(τ.ival 9==0):=eqB (e.at 5 _ rfl rfl) rfl
  have i6':τ.ival 6=0:=by rw [i6,ht,a0,tab202',hdec,check_zero.2 hScr];rfl
  have i9':τ.ival 9=0:=by
   have e2:wTab 256 [x.t,x.k,x.v]=(check [x]).2:=rfl
   have e3:codeOf none x=0:=codeOf_zero.2 ⟨hq,fun q h=>by cases h⟩
   rw [i9,ht,a2,a3,a4,e2,check_one,if_pos e3];rfl
  refine ⟨fun f=>(by rw [b7,i6'] at f;cases f),fun _=>⟨fun f=>(by rw [b10,i9'] at f;cases f),fun _=> .inl ⟨rfl,rfl,insOk_kt (X:=wt59AX) e hi (by kernel_rfl) (by kernel_rfl),.zero a0 a1 a2 a3 a4 ag.ext.symm rfl,tabS ht⟩⟩⟩)
end Go.Proofs.Ytapfkgenachpgaa.wc
