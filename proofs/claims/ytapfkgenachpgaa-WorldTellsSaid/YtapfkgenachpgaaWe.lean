/-
 Contracts of the world's functions: over lists of inputs.
 No conditions.
-/
import Derived.Test.YtapfkgenachpgaaWd
import Derived.WalkKit
set_option maxRecDepth 100000
namespace Go.Proofs.Ytapfkgenachpgaa.wc
open Go.Ev Go.RowKit Go.Wpl Go.Wt
set_option linter.unusedVariables false
set_option linter.unusedSimpArgs false
def wq95AG:List SDef:=[]
def wq95AT:LT:=.e
def wq95AW:Sw:=.run (.leaf .normal w95S1 [(0,0),(1,0),(2,0),(3,0)] [(1,.symi .i64 1),(2,.symi .i64 2),(0,.syms 0),(1,.symi .i64 1)] [(4,.int .i64 0)])
def wq95AKd:KdT:=.n (.n .e (some .i64) .e) none (.n .e (some .i64) .e)
def wq95AX:Ing:={m:=3,ins:=w95K,G:=wq95AG,T:=wq95AT,tab:=wTab,lsts:=wL,kb:=3,kt:=wq95AKd}
theorem wq95A_lt:okLT 3 wq95AG wq95AT=true:=by kernel_rfl
theorem wq95A_ok:okG wq95AG 3=true:=by kernel_rfl
theorem wq95A_seg:SegOk Try.prog wTab 13 ((flatC (bodyOf Try.f95)).take 2) w95S0 wq95AX wq95AW where
 lt:=wq95A_lt
 ok:=wq95A_ok
 hook:=fun F=>no_hooks rfl F
 n0:=rfl
 id:=by kernel_rfl
 reck:=by kernel_rfl
 tab:=rfl
 cuts:=rfl
 kt:=by kernel_rfl
def wq95QG:List SDef:=[.sop (.row [.some .i64,.some .i64,.some .u8]) [.symi .i64 5,.symi .i64 6,.symi .u8 7],
 .sop .cat [.syms 3,.syms 8],
 .bin .add (.symi .i64 4) (.int .i64 1),
 .bin .leq (.int .i64 0) (.symi .i64 10),
 .bin .leq (.symi .i64 10) (.int .i64 5864062014805)]
def wq95QT:LT:=.n (.n (.n (.e) 42839022 9 (.sop .cat [.syms 3,.syms 8]) (.e)) 212340526 11 (.bin .leq (.int .i64 0) (.symi .i64 10)) (.e)) 404061564 10 (.bin .add (.symi .i64 4) (.int .i64 1)) (.n (.n (.e) 548137269 12 (.bin .leq (.symi .i64 10) (.int .i64 5864062014805)) (.e)) 1042474559 8 (.sop (.row [.some .i64,.some .i64,.some .u8]) [.symi .i64 5,.symi .i64 6,.symi .u8 7]) (.e))
def wq95QW:Sw:=.node 11 (.node 12 (.run (.leaf .normal w95S2 [(0,0),(1,0),(2,0),(3,0),(9,0)] [(1,.symi .i64 1),(2,.symi .i64 2),(0,.syms 0),(1,.symi .i64 1),(4,.symi .i64 10),(3,.syms 9),(4,.symi .i64 10)] [])) (.dead)) (.dead)
def wq95QKd:KdT:=.n (.n (.n (.n .e (some .u8) .e) none (.n .e none .e)) (some .i64) (.n (.n .e none .e) (some .i64) .e)) none (.n (.n (.n .e none .e) (some .i64) (.n .e none .e)) (some .i64) (.n (.n .e (some .i64) .e) (some .i64) .e))
def wq95QX:Ing:={m:=8,ins:=(w95K1++[some .i64,some .i64,some .u8]),G:=wq95QG,T:=wq95QT,tab:=wTab,lsts:=wL,kb:=13,kt:=wq95QKd}
theorem wq95Q_lt:okLT 8 wq95QG wq95QT=true:=by kernel_rfl
theorem wq95Q_ok:okG wq95QG 8=true:=by kernel_rfl
def wq95RW:Sw:=.run (.leaf .normal w95S2 [(0,0),(1,0),(2,0),(3,0),(8,0)] [(1,.symi .i64 1),(2,.symi .i64 2),(0,.syms 0),(1,.symi .i64 1),(4,.int .i64 1),(3,.syms 8),(4,.int .i64 1)] [])
theorem wq95Q_rd:RdOk Try.prog wTab wq95QX 5 w95K1 true 1000 40 4 (tmOf w95S1 13) (rngPs (flatC (bodyOf Try.f95))) (rngAsg (flatC (bodyOf Try.f95))) (rngBody (flatC (bodyOf Try.f95))) w95S1.t w95S2 wq95QW where
 mixed:=mixed
 lt:=wq95Q_lt
 ok:=wq95Q_ok
 hook:=fun F=>no_hooks rfl F
 n0:=rfl
 tab:=rfl
 m:=rfl
 ins:=rfl
 inl:=rfl
 rows:=rfl
 cuts:=rfl
 inv:=fun _=>trivial
 kt:=by kernel_rfl
 t:=rfl
 cells:=by kernel_rfl
 id:=by kernel_rfl
 tf:=fun i v h=>tmOf_get h
 df:=rfl
 uniq:=fun i u v h1 h2=>by
  simp only [w95S1,w28T,w95T,w32S1,List.mem_cons,List.not_mem_nil,or_false,Prod.mk.injEq] at h1 h2
  rcases h1 with h1|h1|h1<;>rcases h2 with h2|h2|h2<;>first|(exfalso;omega)|(rw [h1.2,h2.2])
 reck:=by kernel_rfl
 pins:=pins_of (by kernel_rfl)
theorem wq95R_rd:RdOk Try.prog wTab wq95QX 5 w95K1 true 1000 40 4 (tmOf w95S1 13) (rngPs (flatC (bodyOf Try.f95))) (rngAsg (flatC (bodyOf Try.f95))) (rngBody (flatC (bodyOf Try.f95))) w95S1.t w95S1 wq95RW where
 mixed:=mixed
 lt:=wq95Q_lt
 ok:=wq95Q_ok
 hook:=fun F=>no_hooks rfl F
 n0:=rfl
 tab:=rfl
 m:=rfl
 ins:=rfl
 inl:=rfl
 rows:=rfl
 cuts:=rfl
 inv:=fun _=>trivial
 kt:=by kernel_rfl
 t:=rfl
 cells:=by kernel_rfl
 id:=by kernel_rfl
 tf:=fun i v h=>tmOf_get h
 df:=rfl
 uniq:=fun i u v h1 h2=>by
  simp only [w95S1,w28T,w95T,w32S1,List.mem_cons,List.not_mem_nil,or_false,Prod.mk.injEq] at h1 h2
  rcases h1 with h1|h1|h1<;>rcases h2 with h2|h2|h2<;>first|(exfalso;omega)|(rw [h1.2,h2.2])
 reck:=by kernel_rfl
 pins:=pins_of (by kernel_rfl)
def wq95CG:List SDef:=[]
def wq95CT:LT:=.e
def wq95CW:Sw:=.run (.leaf .ret w95Se [(0,0),(1,0),(2,0),(1000003,0)] [(4,.int .i64 0),(1,.symi .i64 1),(2,.symi .i64 2),(0,.syms 0),(1,.symi .i64 1),(3,.str ⟨#[]⟩),(4,.int .i64 0)] [])
def wq95CKd:KdT:=.n (.n (.n .e none .e) (some .i64) .e) none (.n (.n .e (some .i64) .e) (some .i64) .e)
def wq95CX:Ing:={m:=5,ins:=w95K1,G:=wq95CG,T:=wq95CT,tab:=wTab,lsts:=wL,kb:=5,kt:=wq95CKd}
theorem wq95C_lt:okLT 5 wq95CG wq95CT=true:=by kernel_rfl
theorem wq95C_ok:okG wq95CG 5=true:=by kernel_rfl
theorem wq95C_reck:okSw (fun F=>unmarkT w95S1.heap.length (runL Try.prog (cxOf wq95CX) true 1000 (evD Try.prog (cxOf wq95CX) true 1000 40).1 (evD Try.prog (cxOf wq95CX) true 1000 40).2 ((flatC (bodyOf Try.f95)).drop 3) F ⟨13,(tmOf w95S1 13).tr,[.mark w95S1.heap.length]⟩ ⟨w95S1.heap++[.dfr],[]⟩)) wq95CW []=true:=by kernel_rfl
def wq95DG:List SDef:=[]
def wq95DT:LT:=.e
def wq95DW:Sw:=.run (.leaf .ret w95Se [(0,0),(1,0),(2,0),(4,0)] [(4,.symi .i64 4),(1,.symi .i64 1),(2,.symi .i64 2),(0,.syms 0),(1,.symi .i64 1),(3,.syms 3),(4,.symi .i64 4)] [])
def wq95DKd:KdT:=.n (.n (.n .e none .e) (some .i64) .e) none (.n (.n .e (some .i64) .e) (some .i64) .e)
def wq95DX:Ing:={m:=5,ins:=w95K1,G:=wq95DG,T:=wq95DT,tab:=wTab,lsts:=wL,kb:=5,kt:=wq95DKd}
theorem wq95D_lt:okLT 5 wq95DG wq95DT=true:=by kernel_rfl
theorem wq95D_ok:okG wq95DG 5=true:=by kernel_rfl
theorem wq95D_reck:okSw (fun F=>unmarkT w95S2.heap.length (runL Try.prog (cxOf wq95DX) true 1000 (evD Try.prog (cxOf wq95DX) true 1000 40).1 (evD Try.prog (cxOf wq95DX) true 1000 40).2 ((flatC (bodyOf Try.f95)).drop 3) F ⟨13,(tmOf w95S2 13).tr,[.mark w95S2.heap.length]⟩ ⟨w95S2.heap++[.dfr],[]⟩)) wq95DW []=true:=by kernel_rfl
theorem tab202 (C:ByteArray):wTab 202 [encB C]=b01 (decide ((check (decL (encB C))).2=0∧(decL (encB C)).length≤1000000)):=rfl
theorem pc202 {σ:Sig} {i N:Nat} {C:ByteArray} (ht:σ.tab=wTab) (hs:σ.sval i=C) (hC:C.data.toList.length=N*17) (h:evalS σ (.fnb 202 [.syms i])=some (.bool true)):Script (lstE C N)∧(N:Int)≤1000000:=by
 have h:(AVal.bool (!(σ.tab 202 [encB (σ.sval i)]==0)))=.bool true:=Option.some.inj h
 rw [ht,hs,tab202,b01_ne,decL_of hC] at h
 simp only [AVal.bool.injEq,decide_eq_true_eq,lstE_len] at h
 exact ⟨check_zero.1 h.1,by omega⟩
theorem tab207 (C:ByteArray):wTab 207 [encB C]=b01 (decide ((decL (encB C)).length≤1000000)):=rfl
theorem pc207 {σ:Sig} {i N:Nat} {C:ByteArray} (ht:σ.tab=wTab) (hs:σ.sval i=C) (hC:C.data.toList.length=N*17) (h:evalS σ (.fnb 207 [.syms i])=some (.bool true)):(N:Int)≤1000000:=by
 have h:(AVal.bool (!(σ.tab 207 [encB (σ.sval i)]==0)))=.bool true:=Option.some.inj h
 rw [ht,hs,tab207,b01_ne,decL_of hC] at h
 simp only [AVal.bool.injEq,decide_eq_true_eq,lstE_len] at h
 omega
theorem bval207 {σ:Sig} {i N:Nat} {C:ByteArray} (ht:σ.tab=wTab) (hs:σ.sval i=C) (hC:C.data.toList.length=N*17) (h:(N:Int)≤1000000):(!(σ.tab 207 [encB (σ.sval i)]==0))=true:=by
 rw [ht,hs,tab207,b01_ne,decL_of hC]
 simp only [decide_eq_true_eq,lstE_len]
 omega
theorem tabS {σ:Sig} {l:Asg} {t:TabF} (h:σ.tab=t):(asgS σ l).tab=t:=h
theorem extS {σ:Sig} {l:Asg} {t:Nat→Option Fz} (h:σ.ext=t):(asgS σ l).ext=t:=h
theorem pin3 {g:Inj} {w:World} {W:Sw} (h:pinsB 3 W=true): ∀i,(fraOf g w 3).pin i≠none→pinW i W=true:=by
 intro i hi
 have hi:(if i<3 then some (g.loc i) else none)≠none:=hi
 split at hi
 ·exact pins_of h i (by assumption)
 ·exact absurd rfl hi
structure K95 (C:ByteArray) (N:Nat) (c:Int) (E:Nat→Option Fz) (k:Bool) (pre:List E3) (σ:Sig):Prop where
 s:σ.sval 0=C
 n:σ.ival 1=N
 cy:σ.ival 2=c
 x:σ.ext=E
 ok: ∀x,x∈pre→okV x
 out:if k then σ.sval 3=Wt.encL pre∧σ.ival 4=pre.length∧pre≠[] else pre=[]
theorem K95.agree {C:ByteArray} {N:Nat} {c:Int} {E:Nat→Option Fz} {k:Bool} {pre:List E3} {σ τ:Sig} (ag:Agree 5 σ τ) (h:K95 C N c E k pre σ):K95 C N c E k pre τ:=
  ⟨by rw [←(ag.val 0 (by decide)).2.2];exact h.s,by rw [←(ag.val 1 (by decide)).1];exact h.n,by rw [←(ag.val 2 (by decide)).1];exact h.cy,by rw [←ag.ext];exact h.x,h.ok,
   by rw [←(ag.val 3 (by decide)).2.2,←(ag.val 4 (by decide)).1];exact h.out⟩
def L95:Asg:=[(4,.symi .i64 4),(1,.symi .i64 1),(2,.symi .i64 2),(0,.syms 0),(1,.symi .i64 1),(3,.syms 3),(4,.symi .i64 4)]
theorem den95 {σ τ:Sig} (h4:σ.ival 4=τ.ival 4) (h1:σ.ival 1=τ.ival 1) (h2:σ.ival 2=τ.ival 2) (h0:σ.sval 0=τ.sval 0) (h3:σ.sval 3=τ.sval 3):DenEq σ τ L95:=
 ⟨congrArg (AVal.int .i64) h4,congrArg (AVal.int .i64) h1,congrArg (AVal.int .i64) h2,congrArg AVal.str h0,congrArg (AVal.int .i64) h1,congrArg AVal.str h3,congrArg (AVal.int .i64) h4,trivial⟩
def w95Sh:Bool→Shape
 |false=>w95S1
 |true=>w95S2
def w95Wt:Bool→Sw
 |false=>wq95RW
 |true=>wq95QW
theorem lst95 {k:Bool} {i:Nat} {s n:AVal} {cl:List (Option IntKind)} {e:TypeId} (h:(w95Sh k).heap[i]? =some (.lst s n cl e)):(i=2∧n=.symi .i64 1)∨(k=true∧i=4∧n=.symi .i64 4):=by
 cases k<;>match i,h with
 |0,h=>cases h
 |1,h=>cases h
 |2,h=>cases h;exact .inl ⟨rfl,rfl⟩
 |3,h=>cases h
 |4,h=>first|(cases h;done)|(cases h;exact .inr ⟨rfl,rfl,rfl⟩)
 |i+5,h=>cases h
theorem gone95 {k:Bool} {i:Nat} (h:(w95Sh k).heap[i]? =some .gone):False:=by
 cases k<;>match i,h with
 |0,h=>cases h
 |1,h=>cases h
 |2,h=>cases h
 |3,h=>cases h
 |4,h=>cases h
 |i+5,h=>cases h
theorem uptoE_len (f:Nat→E3) (c:Int) (n:Nat):(uptoE f c n).length≤n:=by
 have:=List.length_filter_le (fun x:E3=>decide (x.t≤c)) ((List.range n).map f)
 simpa [uptoE] using this
theorem encX_row {σ:Sig} {a b c:Nat} {x:E3} (h1:σ.ival a=x.t) (h2:σ.ival b=x.k) (h3:σ.ival c=x.v):(⟨(rowB cl3 ([.symi .i64 a,.symi .i64 b,.symi .u8 c].map (den σ))).toArray⟩:ByteArray)=encX x:=by
 simp only [List.map,den,h1,h2,h3,encX]
theorem upto_zero {C:ByteArray} {N:Nat} {c:Int}:uptoE (fun j=>rowE C (0+j)) c N=upto (lstE C N) c:=by
 rw [uptoE_eq C 0 c (N:=N) (by omega),List.drop_zero,List.take_of_length_le (by rw [lstE_len];exact Nat.le_refl _)]
theorem piece_all {C:ByteArray} {N:Nat} {c:Int} (hC:C.data.toList.length=N*17):piece [encB C,0,N,c]=lstE C N:=by
 have:piece [encB C,0,(N:Int),c]=((decL (encB C)).drop (0:Int).toNat).take (N:Int).toNat:=rfl
 rw [this,decL_of hC]
 simp only [Int.toNat_zero,List.drop_zero,Int.toNat_natCast]
 exact List.take_of_length_le (by rw [lstE_len];exact Nat.le_refl _)
theorem K95.one {C:ByteArray} {N:Nat} {c:Int} {E:Nat→Option Fz} {x:E3} {τ:Sig} (hk:K95 C N c E false [] τ) (h8:τ.sval 8=encX x) (ho:okV x):
  K95 C N c E true ([]++[x]) (asgS τ ([(1,.symi .i64 1),(2,.symi .i64 2),(0,.syms 0),(1,.symi .i64 1),(4,.int .i64 1),(3,.syms 8),(4,.int .i64 1)]++[])):=by
 refine ⟨hk.s,hk.n,hk.cy,extS hk.x,fun y hy=> ?_,?_⟩
 ·simp only [List.nil_append,List.mem_singleton] at hy;subst hy;exact ho
 ·show τ.sval 8=Wt.encL ([]++[x])∧(1:Int)=(([]++[x]:List E3).length:Int)∧([]++[x]:List E3)≠[]
  refine ⟨?_,rfl,by simp⟩
  rw [h8];simp [Wt.encL]
theorem K95.more {C:ByteArray} {N:Nat} {c:Int} {E:Nat→Option Fz} {pre:List E3} {x:E3} {τ:Sig} (hk:K95 C N c E true pre τ) (h9:τ.sval 9=Wt.encL (pre++[x])) (h10:τ.ival 10=((pre++[x]).length:Int)) (ho:okV x):
  K95 C N c E true (pre++[x]) (asgS τ ([(1,.symi .i64 1),(2,.symi .i64 2),(0,.syms 0),(1,.symi .i64 1),(4,.symi .i64 10),(3,.syms 9),(4,.symi .i64 10)]++[])):=by
 refine ⟨hk.s,hk.n,hk.cy,extS hk.x,fun y hy=> ?_,?_⟩
 ·rcases List.mem_append.1 hy with h1|h1
  ·exact hk.ok y h1
  ·simp only [List.mem_singleton] at h1;subst h1;exact ho
 ·show τ.sval 9=Wt.encL (pre++[x])∧τ.ival 10=((pre++[x]).length:Int)∧(pre++[x])≠[]
  exact ⟨h9,h10,by simp⟩
set_option maxHeartbeats 1000000 in
theorem c95:SymFOk Try.prog wTab (fun _=>True) sf95:=
 symF_of_stageM Try.func95 rfl (n:=13) rfl (by decide) (by decide) rfl rfl (by kernel_rfl) (fun g w hg _ hE hI hpc hH=>by
  obtain ⟨N,hN,hC⟩:=lst_ok (i:=2) hH rfl
  have hNb:=pc207 hg rfl hC (hpc _ (by simp [sf95]))
  generalize hCC:g.sig.sval 0=C at hC
  generalize hcc:g.sig.ival 2=c
  have hdec:decL (encB C)=lstE C N:=decL_of hC
  have r3:g.sig.sval 3=Wt.encL (upto (lstE C N) c):=by
   have h:g.sig.sval 3=decS (g.sig.tab 220 [encB (g.sig.sval 0),0,g.sig.ival 1,g.sig.ival 2]):=eqFs (hE.at 0 _ rfl rfl)
   have e:wTab 220 [encB C,0,(N:Int),c]=encB (Wt.encL (upto (piece [encB C,0,(N:Int),c]) c)):=rfl
   rw [h,hg,hCC,hcc,hN,e,decS_enc,piece_all hC]
  have r4:g.sig.ival 4=(upto (lstE C N) c).length:=by
   have h:g.sig.ival 4=IntKind.i64.wrap (g.sig.tab 221 [encB (g.sig.sval 0),0,g.sig.ival 1,g.sig.ival 2]):=eqFn (hE.at 1 _ rfl rfl)
   have e:wTab 221 [encB C,0,(N:Int),c]=((upto (piece [encB C,0,(N:Int),c]) c).length:Int):=rfl
   have hle:(upto (lstE C N) c).length≤N:=by
    have:=List.length_filter_le (fun x:E3=>decide (x.t≤c)) (lstE C N)
    rw [lstE_len] at this
    exact this
   rw [h,hg,hCC,hcc,hN,e,piece_all hC,wr_i64]
   omega
  rw [show flatC (bodyOf Try.f95)=(flatC (bodyOf Try.f95)).take 2++(.block 0 (.rangeFunc (.tmp 6) (rngPs (flatC (bodyOf Try.f95))) (rngAsg (flatC (bodyOf Try.f95))) (rngBody (flatC (bodyOf Try.f95))))::(flatC (bodyOf Try.f95)).drop 3) from rfl]
  have hlast: ∀k,StageM Try.prog wTab 13 (fraOf g w 3) (bodyPostM (FR none) 0 Try.prog Try.f95 (MemR wTab sf95 g w)) ((flatC (bodyOf Try.f95)).drop 3) (w95Sh k) 5 w95K1 (K95 C N c g.sig.ext k (upto (lstE C N) c)):=by
   intro k
   cases k
   ·refine StageM.last (X:=wq95CX) (Wt:=wq95CW) mixed wq95C_lt wq95C_ok (fun F=>no_hooks rfl F) rfl (by kernel_rfl) rfl rfl rfl (fun _=>trivial) (by kernel_rfl) wq95C_reck ⟨rfl,rfl⟩ (fun σ τ ag h=>h.agree ag) (fun τ e ht hi hj=> ?_) (pin3 (by kernel_rfl))
    refine segsPw_segs ?_
    have hnil:upto (lstE C N) c=[]:=hj.out
    refine endZ_memM (M:=5) (l:=L95) (vs:=[.lsl 3 3 true (.int .i64 0) (.symi .i64 4)]) (by kernel_rfl) rfl rfl hH hg rfl rfl rfl (by kernel_rfl) (by kernel_rfl) (den95 ?_ (hj.n.trans hN.symm) (hj.cy.trans hcc.symm) (hj.s.trans hCC.symm) ?_) (by decide) hj.x (.inl rfl)
    ·show (0:Int)=_
     rw [r4,hnil];rfl
    ·show ByteArray.empty=_
     rw [r3,hnil];rfl
   ·refine StageM.last (X:=wq95DX) (Wt:=wq95DW) mixed wq95D_lt wq95D_ok (fun F=>no_hooks rfl F) rfl (by kernel_rfl) rfl rfl rfl (fun _=>trivial) (by kernel_rfl) wq95D_reck ⟨rfl,rfl⟩ (fun σ τ ag h=>h.agree ag) (fun τ e ht hi hj=> ?_) (pin3 (by kernel_rfl))
    refine segsPw_segs ?_
    have ho:τ.sval 3=Wt.encL (upto (lstE C N) c)∧τ.ival 4=(upto (lstE C N) c).length∧upto (lstE C N) c≠[]:=hj.out
    refine endZ_memM (M:=5) (l:=L95) (vs:=[.lsl 3 3 true (.int .i64 0) (.symi .i64 4)]) (by kernel_rfl) rfl rfl hH hg rfl rfl rfl (by kernel_rfl) (by kernel_rfl) (den95 ?_ (hj.n.trans hN.symm) (hj.cy.trans hcc.symm) (hj.s.trans hCC.symm) ?_) (by decide) hj.x (.inl rfl)
    ·show τ.ival 4=_
     rw [r4,ho.2.1]
    ·show τ.sval 3=_
     rw [r3,ho.1]
  have hmid:Stage Try.prog wTab 13 (fraOf g w 3) (bodyPostM (FR none) 0 Try.prog Try.f95 (MemR wTab sf95 g w)) (.block 0 (.rangeFunc (.tmp 6) (rngPs (flatC (bodyOf Try.f95))) (rngAsg (flatC (bodyOf Try.f95))) (rngBody (flatC (bodyOf Try.f95))))::(flatC (bodyOf Try.f95)).drop 3) (w95Sh false) 5 w95K1 (K95 C N c g.sig.ext false []):=by
   refine Stage.block ?_
   refine Stage.rangeUp (ι:=Bool) (Sh:=w95Sh) (X:=wq95QX) (Wt:=w95Wt) (Jr:=fun k=>K95 C N c g.sig.ext k) (i1:=0) (i2:=1) (il:=2) (T1:=61) (T2:=3) (e:=0) (ap:=false) (offA:=.int .i64 0) (nA:=.symi .i64 1) (cA:=.symi .i64 2) (sA:=.syms 0) (NA:=.symi .i64 1) (c:=c) (C:=C) (o:=0) (len:=N) (N:=N) (tm:=tmOf w95S1 13) false
    up.up_ok enter94 rfl (by kernel_rfl) rfl (fun k=>by cases k<;>rfl) (fun k=>by cases k<;>rfl) (fun k=>match k with|false=>wq95R_rd|true=>wq95Q_rd) (by omega) (by omega) (fun σ h hi=>⟨rfl,congrArg (AVal.int .i64) h.n,h⟩)
    (fun _ pre σ h=>⟨congrArg (AVal.int .i64) h.cy,congrArg AVal.str h.s,congrArg (AVal.int .i64) h.n⟩) ?_ ?_ ?_ ?_ ?_
   ·intro k pre σ h hN0 τ ag i s n cl e hi hz
    rcases lst95 hi with ⟨rfl,rfl⟩|⟨rfl,rfl,rfl⟩
    ·have h1:=h.n
     rw [(ag.val 1 (by decide)).1] at h1
     simp only [den,AVal.int.injEq,true_and] at hz
     omega
    ·obtain ⟨_,h1,h2⟩:σ.sval 3=Wt.encL pre∧σ.ival 4=pre.length∧pre≠[]:=h.out
     rw [(ag.val 4 (by decide)).1] at h1
     simp only [den,AVal.int.injEq,true_and] at hz
     have:=List.length_pos_iff.2 h2
     omega
   ·intro k pre σ h i s n cl e hi hh hz
    rcases lst95 hh with ⟨rfl,rfl⟩|⟨rfl,rfl,rfl⟩
    ·exact absurd hi (by decide)
    ·obtain ⟨_,h1,h2⟩:σ.sval 3=Wt.encL pre∧σ.ival 4=pre.length∧pre≠[]:=h.out
     simp only [den,AVal.int.injEq,true_and] at hz
     have:=List.length_pos_iff.2 h2
     omega
   ·intro k i hh
    exact gone95 hh
   ·intro k j σ hj hle h hi ht
    have hlen:=uptoE_len (fun j=>rowE C (0+j)) c j
    generalize uptoE (fun j=>rowE C (0+j)) c j=pre at h hlen⊢
    rw [Nat.zero_add]
    have ag1:=agree_solve wq95QX.G wq95QX.m (ext3 σ 5 (rowE C j))
    have e:Eqs (solve wq95QX.G wq95QX.m (ext3 σ 5 (rowE C j))) 8 wq95QG:=eqs_solve wq95Q_ok
    have hi2:InsOk (solve wq95QX.G wq95QX.m (ext3 σ 5 (rowE C j))) 8 (w95K1++[some .i64,some .i64,some .u8]):=by
     intro i k hlt hik
     rw [←(ag1.val i hlt).1]
     exact ins3 (q:=5) rfl hi i k hlt hik
    have ht2:(solve wq95QX.G wq95QX.m (ext3 σ 5 (rowE C j))).tab=wTab:=by rw [←ag1.tab];exact ht
    have x5:(solve wq95QX.G wq95QX.m (ext3 σ 5 (rowE C j))).ival 5=(rowE C j).t:=(ag1.val 5 (by decide)).1.symm
    have x6:(solve wq95QX.G wq95QX.m (ext3 σ 5 (rowE C j))).ival 6=(rowE C j).k:=(ag1.val 6 (by decide)).1.symm
    have x7:(solve wq95QX.G wq95QX.m (ext3 σ 5 (rowE C j))).ival 7=(rowE C j).v:=(ag1.val 7 (by decide)).1.symm
    have hk:K95 C N c g.sig.ext k pre (solve wq95QX.G wq95QX.m (ext3 σ 5 (rowE C j))):=by
     refine K95.agree (σ:=σ) ?_ h
     exact ⟨fun i hi=>by
      obtain ⟨a1,a2,a3⟩:=(ext3_agree σ 5 (rowE C j)).val i hi
      obtain ⟨b1,b2,b3⟩:=ag1.val i (show i<8 by omega)
      exact ⟨a1.trans b1,a2.trans b2,a3.trans b3⟩,ag1.tab,ag1.ext⟩
    clear ag1
    generalize solve wq95QX.G wq95QX.m (ext3 σ 5 (rowE C j))=τ at*
    refine segsPw_segs ?_
    have s8:τ.sval 8=encX (rowE C j):=(eqRow (e.at 0 _ rfl rfl)).trans (encX_row x5 x6 x7)
    have i10:τ.ival 10=IntKind.i64.wrap (τ.ival 4+1):=eqI (e.at 2 _ rfl rfl) rfl
    have b11:τ.bval 11=decide ((0:Int)≤τ.ival 10):=eqB (e.at 3 _ rfl rfl) rfl
    have b12:τ.bval 12=decide (τ.ival 10≤5864062014805):=eqB (e.at 4 _ rfl rfl) rfl
    rw [wr_i64] at i10
    cases k
    ·have hnil:pre=[]:=hk.out
     subst hnil
     exact ⟨rfl,true,rfl,insOk_kt (X:=wq95QX) e hi2 (by kernel_rfl) (by kernel_rfl),hk.one s8 (rowE_ok C j),tabS ht2⟩
    ·obtain ⟨h3,h4,hne⟩:τ.sval 3=Wt.encL pre∧τ.ival 4=pre.length∧pre≠[]:=hk.out
     have s9:τ.sval 9=Wt.encL pre++encX (rowE C j):=by
      rw [eqCat (e.at 1 _ rfl rfl) rfl rfl,h3,s8]
     have hm:((pre++[rowE C j]).length:Int)=pre.length+1:=by rw [List.length_append,List.length_singleton];omega
     refine ⟨fun f11=>⟨fun f12=>⟨rfl,true,rfl,insOk_kt (X:=wq95QX) e hi2 (by kernel_rfl) (by kernel_rfl),hk.more (by rw [s9,Wt.encL_snoc]) (by omega) (rowE_ok C j),tabS ht2⟩,fun f12=> ?_⟩,fun f11=> ?_⟩
     ·exfalso
      rw [b12,decide_eq_false_iff_not] at f12
      omega
     ·exfalso
      rw [b11,decide_eq_false_iff_not] at f11
      omega
   ·intro k a w g' D h1 h2 h3 h4 h5 h6 h7 h8
    rw [upto_zero] at h7
    exact hlast k a w g' D h1 h2 h3 h4 h5 h6 h7 h8
  have:=Stage.seg mixed wq95A_seg ⟨rfl,rfl⟩ (fun σ τ (ag:Agree 3 σ τ) (h:Agree 3 g.sig σ)=>h.trans' ag) (fun τ h=>rows_nil) hmid (fun τ e ht hi ag=>by
   refine segsPw_segs ?_
   have a0:τ.sval 0=C:=by rw [←(ag.val 0 (by decide)).2.2];exact hCC
   have a1:τ.ival 1=N:=by rw [←(ag.val 1 (by decide)).1];exact hN
   have a2:τ.ival 2=c:=by rw [←(ag.val 2 (by decide)).1];exact hcc
   exact .inl ⟨rfl,rfl,insOk_kt (X:=wq95AX) e hi (by kernel_rfl) (by kernel_rfl),⟨a0,a1,a2,ag.ext.symm,fun x hx=>(by cases hx),rfl⟩,ht⟩) (pin3 (by kernel_rfl))
  exact this)
end Go.Proofs.Ytapfkgenachpgaa.wc
