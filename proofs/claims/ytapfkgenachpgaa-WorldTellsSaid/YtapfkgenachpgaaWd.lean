/-
 Contracts of the world's functions: over lists of inputs.
 No conditions.
-/
import Derived.Test.YtapfkgenachpgaaWc
import Derived.WalkKit
set_option maxRecDepth 100000
namespace Go.Proofs.Ytapfkgenachpgaa.wc
open Go.Ev Go.RowKit Go.Wpl Go.Wt
set_option linter.unusedVariables false
set_option linter.unusedSimpArgs false
def wq28AG:List SDef:=[.fn 200 .i64 [.syms 0],
 .fn 201 .i64 [.syms 0],
 .bin .neq (.symi .i64 4) (.int .i64 0),
 .bin .lss (.symi .i64 2) (.int .i64 1)]
def wq28AT:LT:=.n (.n (.n (.e) 14149 3 (.fn 200 .i64 [.syms 0]) (.e)) 14192 4 (.fn 201 .i64 [.syms 0]) (.e)) 202061049 6 (.bin .lss (.symi .i64 2) (.int .i64 1)) (.n (.e) 404011613 5 (.bin .neq (.symi .i64 4) (.int .i64 0)) (.e))
def wq28AW:Sw:=.run (.node 5 (.leaf .ret w28Se [(0,0),(1,0)] [(1,.symi .i64 1),(0,.syms 0),(1,.symi .i64 1),(3,.int .u8 0),(4,.int .u8 0),(5,.bool false),(6,.int .u8 0)] []) (.node 6 (.leaf .ret w28Se [(0,0),(1,0)] [(1,.symi .i64 1),(0,.syms 0),(1,.symi .i64 1),(3,.int .u8 0),(4,.int .u8 0),(5,.bool false),(6,.int .u8 0)] []) (.leaf .normal w28S1 [(0,0),(1,0),(2,0),(3,0),(4,0)] [(1,.symi .i64 1),(2,.symi .i64 2),(0,.syms 0),(1,.symi .i64 1),(3,.int .u8 0),(4,.int .u8 0),(5,.int .u8 0),(6,.int .i64 0),(1,.symi .i64 1),(2,.symi .i64 2)] [])))
def wq28AKd:KdT:=.n (.n (.n .e (some .i64) .e) (some .i64) (.n .e none .e)) none (.n (.n .e (some .i64) .e) (some .i64) (.n .e none .e))
def wq28AY:Ing:={m:=3,ins:=w28K,G:=wq28AG,T:=wq28AT,tab:=wTab,lsts:=wL,kb:=7,kt:=wq28AKd}
def wq28AX:Ing:={m:=3,ins:=w28K,G:=wq28AG,T:=wq28AT,tab:=wTab,lsts:=wL,kb:=7,kt:=wq28AKd,mh:=symMf (kdX wq28AY) [sf26]}
theorem wq28A_lt:okLT 3 wq28AG wq28AT=true:=by kernel_rfl
theorem wq28A_ok:okG wq28AG 3=true:=by kernel_rfl
theorem wq28A_hooks (F:List Fact):Hooks Try.prog (cxOf wq28AX F) where
 val:=fun f args v h=>by simp only [wq28AX,cxOf,noHook,reduceCtorEq] at h
 mem:=fun f args hp v hp' h=>by
  replace h:(symMf (kdX wq28AY) [sf26]) (symS (baseOf wq28AX F)) f args hp=some (v,hp'):=h
  exact mem_symF (X:=wq28AX) (tbl:=[sf26]) (inv:=fun _=>True) (fun e he=>by
   simp only [List.mem_cons,List.not_mem_nil,or_false] at he
   rcases he with rfl
   ·exact c26) wq28A_lt rfl (fun _ _ _ _=>trivial) F f args hp v hp' h
 ovl:=fun f k h=>by simp only [wq28AX,cxOf,reduceCtorEq] at h
 atm:=fun k b h=>by simp only [wq28AX,cxOf,List.not_mem_nil] at h
theorem wq28A_seg:SegOk Try.prog wTab 29 ((flatC (bodyOf Try.f28)).take 6) w28S0 wq28AX wq28AW where
 lt:=wq28A_lt
 ok:=wq28A_ok
 hook:=wq28A_hooks
 n0:=rfl
 id:=by kernel_rfl
 reck:=by kernel_rfl
 tab:=rfl
 cuts:=rfl
 kt:=by kernel_rfl
def wq28RG:List SDef:=[.bin .eql (.symi .i64 8) (.int .i64 1),
 .ite (.symb 10) (.symi .u8 9) (.symi .u8 4),
 .ite (.symb 10) (.symi .u8 5) (.symi .u8 9),
 .ite (.symb 10) (.symi .i64 7) (.symi .i64 6),
 .bin .eql (.symi .i64 8) (.int .i64 0),
 .ite (.symb 14) (.symi .u8 9) (.symi .u8 3),
 .ite (.symb 14) (.symi .u8 4) (.symi .u8 11),
 .ite (.symb 14) (.symi .u8 5) (.symi .u8 12),
 .ite (.symb 14) (.symi .i64 6) (.symi .i64 13)]
def wq28RT:LT:=.n (.n (.n (.n (.e) 113828158 11 (.ite (.symb 10) (.symi .u8 9) (.symi .u8 4)) (.e)) 117828170 13 (.ite (.symb 10) (.symi .i64 7) (.symi .i64 6)) (.e)) 208106515 17 (.ite (.symb 14) (.symi .u8 5) (.symi .u8 12)) (.n (.e) 272828635 12 (.ite (.symb 10) (.symi .u8 5) (.symi .u8 9)) (.e))) 508107415 18 (.ite (.symb 14) (.symi .i64 6) (.symi .i64 13)) (.n (.n (.n (.e) 518846053 15 (.ite (.symb 14) (.symi .u8 9) (.symi .u8 3)) (.e)) 808012818 14 (.bin .eql (.symi .i64 8) (.int .i64 0)) (.e)) 808062853 10 (.bin .eql (.symi .i64 8) (.int .i64 1)) (.n (.e) 981847442 16 (.ite (.symb 14) (.symi .u8 4) (.symi .u8 11)) (.e)))
def wq28RW:Sw:=.run (.req (.pick 8 0 (.ok) (.pick 8 1 (.ok) (.pick 8 2 (.ok) (.no)))) (.leaf .normal w28S1 [(0,0),(1,0),(2,0),(3,0),(4,0)] [(1,.symi .i64 1),(2,.symi .i64 2),(0,.syms 0),(1,.symi .i64 1),(3,.symi .u8 15),(4,.symi .u8 16),(5,.symi .u8 17),(6,.symi .i64 18),(1,.symi .i64 1),(2,.symi .i64 2)] []))
def wq28RKd:KdT:=.n (.n (.n (.n (.n .e (some .u8) .e) (some .i64) .e) (some .u8) (.n .e (some .u8) .e)) (some .i64) (.n (.n (.n .e (some .u8) .e) (some .u8) .e) (some .u8) (.n .e (some .i64) .e))) none (.n (.n (.n (.n .e (some .u8) .e) (some .i64) .e) (some .u8) (.n .e (some .u8) .e)) (some .i64) (.n (.n (.n .e (some .i64) .e) none .e) (some .i64) (.n .e none .e)))
def wq28RX:Ing:={m:=10,ins:=(w28K1++[some .i64,some .i64,some .u8]),G:=wq28RG,T:=wq28RT,tab:=wTab,lsts:=wL,kb:=19,kt:=wq28RKd}
theorem wq28R_lt:okLT 10 wq28RG wq28RT=true:=by kernel_rfl
theorem wq28R_ok:okG wq28RG 10=true:=by kernel_rfl
theorem wq28R_rd:RdOk Try.prog wTab wq28RX 7 w28K1 true 1000 40 5 (tmOf w28S1 29) (rngPs (flatC (bodyOf Try.f28))) (rngAsg (flatC (bodyOf Try.f28))) (rngBody (flatC (bodyOf Try.f28))) w28S1.t w28S1 wq28RW where
 mixed:=mixed
 lt:=wq28R_lt
 ok:=wq28R_ok
 hook:=fun F=>no_hooks rfl F
 n0:=rfl
 tab:=rfl
 m:=rfl
 ins:=rfl
 inl:=rfl
 rows:=rfl
 cuts:=rfl
 inv:=fun _=>trivial
 kt:=by kernel_rfl
 t:=rfl
 cells:=by kernel_rfl
 id:=by kernel_rfl
 tf:=fun i v h=>tmOf_get h
 df:=rfl
 uniq:=fun i u v h1 h2=>by
  simp only [w28S1,w28T,w95T,w32S1,List.mem_cons,List.not_mem_nil,or_false,Prod.mk.injEq] at h1 h2
  rcases h1 with h1|h1|h1|h1|h1<;>rcases h2 with h2|h2|h2|h2|h2<;>first|(exfalso;omega)|(rw [h1.2,h2.2])
 reck:=by kernel_rfl
 pins:=pins_of (by kernel_rfl)
def wq28CG:List SDef:=[.bin .eql (.symi .i64 6) (.symi .i64 2),
 .ite (.symb 7) (.symi .u8 4) (.int .u8 0)]
def wq28CT:LT:=.n (.n (.e) 218997555 7 (.bin .eql (.symi .i64 6) (.symi .i64 2)) (.e)) 495293702 8 (.ite (.symb 7) (.symi .u8 4) (.int .u8 0)) (.e)
def wq28CW:Sw:=.run (.leaf .ret w28Se [(0,0),(1,0)] [(1,.symi .i64 1),(0,.syms 0),(1,.symi .i64 1),(3,.symi .u8 3),(4,.symi .u8 5),(5,.symb 7),(6,.symi .u8 8)] [])
def wq28CKd:KdT:=.n (.n (.n (.n .e none .e) (some .u8) .e) (some .i64) (.n .e (some .u8) .e)) none (.n (.n (.n .e (some .u8) .e) (some .u8) .e) (some .i64) (.n .e (some .i64) .e))
def wq28CX:Ing:={m:=7,ins:=w28K1,G:=wq28CG,T:=wq28CT,tab:=wTab,lsts:=wL,kb:=9,kt:=wq28CKd}
theorem wq28C_lt:okLT 7 wq28CG wq28CT=true:=by kernel_rfl
theorem wq28C_ok:okG wq28CG 7=true:=by kernel_rfl
theorem wq28C_reck:okSw (fun F=>unmarkT w28S1.heap.length (runL Try.prog (cxOf wq28CX) true 1000 (evD Try.prog (cxOf wq28CX) true 1000 40).1 (evD Try.prog (cxOf wq28CX) true 1000 40).2 ((flatC (bodyOf Try.f28)).drop 7) F ⟨29,(tmOf w28S1 29).tr,[.mark w28S1.heap.length]⟩ ⟨w28S1.heap++[.dfr],[]⟩)) wq28CW []=true:=by kernel_rfl
theorem enter94 (args:Array Value) (w:World):(callFunc 94 args).run Try.prog w=.ok (.enter 94 args) w:=(enterA_run (P:=Try.prog) (w:=w) (show enterA Try.prog 94 []=some (94,[]) by kernel_rfl) args).1
structure K28 (C:ByteArray) (N:Nat) (c:Int) (E:Nat→Option Fz) (pre:List E3) (σ:Sig):Prop where
 s:σ.sval 0=C
 n:σ.ival 1=N
 cy:σ.ival 2=c
 x:σ.ext=E
 ok:Script (lstE C N)∧1≤c
 v0:σ.ival 3=(pre.foldl Lv.take .zero).v0
 v1:σ.ival 4=(pre.foldl Lv.take .zero).v1
 v2:σ.ival 5=(pre.foldl Lv.take .zero).v2
 vc:σ.ival 6=(pre.foldl Lv.take .zero).came
theorem K28.agree {C:ByteArray} {N:Nat} {c:Int} {E:Nat→Option Fz} {pre:List E3} {σ τ:Sig} (ag:Agree 7 σ τ) (h:K28 C N c E pre σ):K28 C N c E pre τ:=
  ⟨by rw [←(ag.val 0 (by decide)).2.2];exact h.s,by rw [←(ag.val 1 (by decide)).1];exact h.n,by rw [←(ag.val 2 (by decide)).1];exact h.cy,by rw [←ag.ext];exact h.x,h.ok,
   by rw [←(ag.val 3 (by decide)).1];exact h.v0,by rw [←(ag.val 4 (by decide)).1];exact h.v1,by rw [←(ag.val 5 (by decide)).1];exact h.v2,by rw [←(ag.val 6 (by decide)).1];exact h.vc⟩
def L28:Asg:=[(3,.symi .u8 3),(4,.symi .u8 4),(5,.symb 5),(6,.symi .u8 6),(0,.syms 0),(1,.symi .i64 1),(3,.symi .u8 3),(4,.symi .u8 4),(5,.symb 5),(6,.symi .u8 6)]
theorem den28 {σ τ:Sig} (h3:σ.ival 3=τ.ival 3) (h4:σ.ival 4=τ.ival 4) (h5:σ.bval 5=τ.bval 5) (h6:σ.ival 6=τ.ival 6) (h0:σ.sval 0=τ.sval 0) (h1:σ.ival 1=τ.ival 1):DenEq σ τ L28:=
 ⟨congrArg (AVal.int .u8) h3,congrArg (AVal.int .u8) h4,congrArg AVal.bool h5,congrArg (AVal.int .u8) h6,congrArg AVal.str h0,congrArg (AVal.int .i64) h1,congrArg (AVal.int .u8) h3,congrArg (AVal.int .u8) h4,congrArg AVal.bool h5,congrArg (AVal.int .u8) h6,trivial⟩
theorem lst28 {i:Nat} {s n:AVal} {cl:List (Option IntKind)} {e:TypeId} (h:w28S1.heap[i]? =some (.lst s n cl e)):i=0∧n=.symi .i64 1:=by
 match i,h with
 |0,h=>cases h;exact ⟨rfl,rfl⟩
 |1,h=>cases h
 |2,h=>cases h
 |3,h=>cases h
 |4,h=>cases h
 |i+5,h=>cases h
theorem gone28 {i:Nat} (h:w28S1.heap[i]? =some .gone):False:=by
 match i,h with
 |0,h=>cases h
 |1,h=>cases h
 |2,h=>cases h
 |3,h=>cases h
 |4,h=>cases h
 |i+5,h=>cases h
theorem b01_ne (b:Bool):(!(b01 b==0))=b:=by cases b<;>rfl
set_option maxHeartbeats 1000000 in
theorem c28:SymFOk Try.prog wTab (fun _=>True) sf28:=
 symF_of_stageM Try.func28 rfl (n:=29) rfl (by decide) (by decide) rfl rfl (by kernel_rfl) (fun g w hg _ hE hI hpc hH=>by
  obtain ⟨N,hN,hC⟩:=lst_ok (i:=0) hH rfl
  generalize hCC:g.sig.sval 0=C at hC
  generalize hcc:g.sig.ival 2=c
  have hN1:(N:Int)<9223372036854775808:=by
   have:=hI 1 .i64 (by decide) rfl
   rw [wr_i64,hN] at this;omega
  have hdec:decL (encB C)=lstE C N:=decL_of hC
  have r3:g.sig.ival 3=IntKind.u8.wrap (at_ (lstE C N) c).pins:=by
   have h:g.sig.ival 3=IntKind.u8.wrap (g.sig.tab 210 [encB (g.sig.sval 0),g.sig.ival 2]):=eqFn (hE.at 0 _ rfl rfl)
   rw [hg,hCC,hcc] at h
   rw [h,←hdec];rfl
  have r4:g.sig.ival 4=IntKind.u8.wrap (at_ (lstE C N) c).mask:=by
   have h:g.sig.ival 4=IntKind.u8.wrap (g.sig.tab 211 [encB (g.sig.sval 0),g.sig.ival 2]):=eqFn (hE.at 1 _ rfl rfl)
   rw [hg,hCC,hcc] at h
   rw [h,←hdec];rfl
  have r5:g.sig.bval 5=(at_ (lstE C N) c).isb:=by
   have h:g.sig.bval 5= !(g.sig.tab 212 [encB (g.sig.sval 0),g.sig.ival 2]==0):=eqFnb (hE.at 2 _ rfl rfl)
   rw [hg,hCC,hcc] at h
   have e:wTab 212 [encB C,c]=b01 (at_ (decL (encB C)) c).isb:=rfl
   rw [h,e,b01_ne,hdec]
  have r6:g.sig.ival 6=IntKind.u8.wrap (at_ (lstE C N) c).byte:=by
   have h:g.sig.ival 6=IntKind.u8.wrap (g.sig.tab 213 [encB (g.sig.sval 0),g.sig.ival 2]):=eqFn (hE.at 3 _ rfl rfl)
   rw [hg,hCC,hcc] at h
   rw [h,←hdec];rfl
  rw [show flatC (bodyOf Try.f28)=(flatC (bodyOf Try.f28)).take 6++(.block 0 (.rangeFunc (.tmp 23) (rngPs (flatC (bodyOf Try.f28))) (rngAsg (flatC (bodyOf Try.f28))) (rngBody (flatC (bodyOf Try.f28))))::(flatC (bodyOf Try.f28)).drop 7) from rfl]
  have hlast:StageM Try.prog wTab 29 (fraOf g w 1) (bodyPostM (FR none) 0 Try.prog Try.f28 (MemR wTab sf28 g w)) ((flatC (bodyOf Try.f28)).drop 7) w28S1 7 w28K1 (K28 C N c g.sig.ext (upto (lstE C N) c)):=by
   refine StageM.last (X:=wq28CX) (Wt:=wq28CW) mixed wq28C_lt wq28C_ok (fun F=>no_hooks rfl F) rfl (by kernel_rfl) rfl rfl rfl (fun _=>trivial) (by kernel_rfl) wq28C_reck ⟨rfl,rfl⟩ (fun σ τ ag h=>h.agree ag) (fun τ e ht hi hj=> ?_) (pin1 (by kernel_rfl))
   refine segsPw_segs ?_
   have b7:τ.bval 7=(τ.ival 6==τ.ival 2):=eqB (e.at 0 _ rfl rfl) rfl
   have i8:τ.ival 8=(bif τ.bval 7 then τ.ival 4 else 0):=eqIteI (e.at 1 _ rfl rfl) rfl rfl rfl
   have hat:at_ (lstE C N) c=(lv (lstE C N) c).now c:=at_script hj.ok.1 hj.ok.2
   have w0:=hi 3 .u8 (by decide) rfl
   have w1:=hi 4 .u8 (by decide) rfl
   have w2:=hi 5 .u8 (by decide) rfl
   rw [hj.v0] at w0
   rw [hj.v1] at w1
   rw [hj.v2] at w2
   refine endZ_memM (M:=7) (l:=L28) (vs:=[.agg [.symi .u8 3,.symi .u8 4,.symb 5,.symi .u8 6]]) (by kernel_rfl) rfl rfl hH hg rfl rfl rfl (by kernel_rfl) (by kernel_rfl) (den28 ?_ ?_ ?_ ?_ (hj.s.trans hCC.symm) (hj.n.trans hN.symm)) (by decide) hj.x (.inl rfl)
   ·show τ.ival 3=_
    rw [r3,hat,hj.v0]
    exact w0.symm
   ·show τ.ival 5=_
    rw [r4,hat,hj.v2]
    exact w2.symm
   ·show τ.bval 7=_
    rw [r5,hat,b7,hj.vc,hj.cy]
    rw [Bool.eq_iff_iff]
    simp only [Lv.now,lv,beq_iff_eq]
    exact ⟨fun h=>decide_eq_true h,fun h=>of_decide_eq_true h⟩
   ·show τ.ival 8=_
    rw [r6,hat,i8,b7,hj.vc,hj.cy,hj.v1]
    by_cases h:((upto (lstE C N) c).foldl Lv.take .zero).came=c
    ·simp only [Lv.now,lv,h,if_true,beq_self_eq_true,cond_true]
     exact w1.symm
    ·simp only [Lv.now,lv,h,if_false,beq_eq_false_iff_ne.2 h,cond_false]
     rfl
  have hmid:Stage Try.prog wTab 29 (fraOf g w 1) (bodyPostM (FR none) 0 Try.prog Try.f28 (MemR wTab sf28 g w)) (.block 0 (.rangeFunc (.tmp 23) (rngPs (flatC (bodyOf Try.f28))) (rngAsg (flatC (bodyOf Try.f28))) (rngBody (flatC (bodyOf Try.f28))))::(flatC (bodyOf Try.f28)).drop 7) w28S1 7 w28K1 (K28 C N c g.sig.ext []):=by
   refine Stage.block ?_
   refine Stage.rangeUp (ι:=Unit) (Sh:=fun _=>w28S1) (X:=wq28RX) (Wt:=fun _=>wq28RW) (Jr:=fun _=>K28 C N c g.sig.ext) (i1:=3) (i2:=4) (il:=0) (T1:=61) (T2:=3) (e:=0) (ap:=false) (offA:=.int .i64 0) (nA:=.symi .i64 1) (cA:=.symi .i64 2) (sA:=.syms 0) (NA:=.symi .i64 1) (c:=c) (C:=C) (o:=0) (len:=N) (N:=N) (tm:=tmOf w28S1 29) ()
    up.up_ok enter94 rfl (by kernel_rfl) rfl (fun _=>rfl) (fun _=>rfl) (fun _=>wq28R_rd) (by omega) (by omega) (fun σ h hi=>⟨rfl,congrArg (AVal.int .i64) h.n,h⟩)
    (fun _ pre σ h=>⟨congrArg (AVal.int .i64) h.cy,congrArg AVal.str h.s,congrArg (AVal.int .i64) h.n⟩) ?_ ?_ ?_ ?_ ?_
   ·intro _ pre σ h hN0 τ ag i s n cl e hi hz
    obtain ⟨rfl,rfl⟩:=lst28 hi
    have h1:=h.n
    rw [(ag.val 1 (by decide)).1] at h1
    simp only [den,AVal.int.injEq,true_and] at hz
    omega
   ·intro _ pre σ h i s n cl e hi hh
    obtain ⟨rfl,rfl⟩:=lst28 hh
    exact absurd hi (by decide)
   ·intro _ i hh
    exact gone28 hh
   ·intro _ j σ hj hle h hi ht
    have hpre:uptoE (fun j=>rowE C (0+j)) c j++[rowE C (0+j)]=uptoE (fun j=>rowE C (0+j)) c j++[rowE C j]:=by rw [Nat.zero_add]
    rw [hpre]
    rw [Nat.zero_add]
    generalize uptoE (fun j=>rowE C (0+j)) c j=pre at h
    have hx:rowE C j∈lstE C N:=List.mem_of_getElem? (lstE_get hj)
    have hxk:=h.ok.1.1 _ hx
    have ag1:=agree_solve wq28RX.G wq28RX.m (ext3 σ 7 (rowE C j))
    have e:Eqs (solve wq28RX.G wq28RX.m (ext3 σ 7 (rowE C j))) 10 wq28RG:=eqs_solve wq28R_ok
    have hi2:InsOk (solve wq28RX.G wq28RX.m (ext3 σ 7 (rowE C j))) 10 (w28K1++[some .i64,some .i64,some .u8]):=by
     intro i k hlt hik
     rw [←(ag1.val i hlt).1]
     exact ins3 (q:=7) rfl hi i k hlt hik
    have ht2:(solve wq28RX.G wq28RX.m (ext3 σ 7 (rowE C j))).tab=wTab:=by rw [←ag1.tab];exact ht
    have x8:(solve wq28RX.G wq28RX.m (ext3 σ 7 (rowE C j))).ival 8=(rowE C j).k:=(ag1.val 8 (by decide)).1.symm
    have x7:(solve wq28RX.G wq28RX.m (ext3 σ 7 (rowE C j))).ival 7=(rowE C j).t:=(ag1.val 7 (by decide)).1.symm
    have x9:(solve wq28RX.G wq28RX.m (ext3 σ 7 (rowE C j))).ival 9=(rowE C j).v:=(ag1.val 9 (by decide)).1.symm
    have hk:K28 C N c g.sig.ext pre (solve wq28RX.G wq28RX.m (ext3 σ 7 (rowE C j))):=by
     refine K28.agree (σ:=σ) ?_ h
     exact ⟨fun i hi=>by
      obtain ⟨a1,a2,a3⟩:=(ext3_agree σ 7 (rowE C j)).val i hi
      obtain ⟨b1,b2,b3⟩:=ag1.val i (show i<10 by omega)
      exact ⟨a1.trans b1,a2.trans b2,a3.trans b3⟩,ag1.tab,ag1.ext⟩
    clear ag1
    generalize solve wq28RX.G wq28RX.m (ext3 σ 7 (rowE C j))=τ at*
    refine segsPw_segs ?_
    have b10:τ.bval 10=(τ.ival 8==1):=eqB (e.at 0 _ rfl rfl) rfl
    have i11:τ.ival 11=(bif τ.bval 10 then τ.ival 9 else τ.ival 4):=eqIteI (e.at 1 _ rfl rfl) rfl rfl rfl
    have i12:τ.ival 12=(bif τ.bval 10 then τ.ival 5 else τ.ival 9):=eqIteI (e.at 2 _ rfl rfl) rfl rfl rfl
    have i13:τ.ival 13=(bif τ.bval 10 then τ.ival 7 else τ.ival 6):=eqIteI (e.at 3 _ rfl rfl) rfl rfl rfl
    have b14:τ.bval 14=(τ.ival 8==0):=eqB (e.at 4 _ rfl rfl) rfl
    have i15:τ.ival 15=(bif τ.bval 14 then τ.ival 9 else τ.ival 3):=eqIteI (e.at 5 _ rfl rfl) rfl rfl rfl
    have i16:τ.ival 16=(bif τ.bval 14 then τ.ival 4 else τ.ival 11):=eqIteI (e.at 6 _ rfl rfl) rfl rfl rfl
    have i17:τ.ival 17=(bif τ.bval 14 then τ.ival 5 else τ.ival 12):=eqIteI (e.at 7 _ rfl rfl) rfl rfl rfl
    have i18:τ.ival 18=(bif τ.bval 14 then τ.ival 6 else τ.ival 13):=eqIteI (e.at 8 _ rfl rfl) rfl rfl rfl
    obtain ⟨z1,z2,z3,z4⟩:=hxk
    refine ⟨⟨fun _=>trivial,fun q0=>⟨fun _=>trivial,fun q1=>⟨fun _=>trivial,fun q2=>(by exfalso;omega)⟩⟩⟩,rfl,(),rfl,insOk_kt (X:=wq28RX) e hi2 (by kernel_rfl) (by kernel_rfl),⟨hk.s,hk.n,hk.cy,hk.x,hk.ok,?_,?_,?_,?_⟩,ht2⟩
    all_goals rw [List.foldl_append,List.foldl_cons,List.foldl_nil]
    ·show τ.ival 15=_
     rw [i15,b14,hk.v0,x8,x9]
     rw [tk0]
    ·show τ.ival 16=_
     rw [i16,b14,i11,b10,hk.v1,x8,x9]
     rw [tk1]
    ·show τ.ival 17=_
     rw [i17,b14,i12,b10,hk.v2,x8,x9]
     rw [tk2]
    ·show τ.ival 18=_
     rw [i18,b14,i13,b10,hk.vc,x8,x7]
     rw [tkc]
   ·intro _ a w g' D h1 h2 h3 h4 h5 h6 h7 h8
    have e1:uptoE (fun j=>rowE C (0+j)) c N=upto (lstE C N) c:=by
     rw [uptoE_eq C 0 c (N:=N) (by omega),List.drop_zero,List.take_of_length_le (by rw [lstE_len];exact Nat.le_refl _)]
    rw [e1] at h7
    exact hlast a w g' D h1 h2 h3 h4 h5 h6 h7 h8
  have early: ∀τ,Agree 3 g.sig τ→ ¬((check (lstE C N)).2=0∧1≤c)→EndZ wTab 29 (fraOf g w 1) (bodyPostM (FR none) 0 Try.prog Try.f28 (MemR wTab sf28 g w)) .ret w28Se (asgS τ ([(1,.symi .i64 1),(0,.syms 0),(1,.symi .i64 1),(3,.int .u8 0),(4,.int .u8 0),(5,.bool false),(6,.int .u8 0)]++[])):=by
   intro τ ag hn
   have hat:at_ (lstE C N) c=.zero:=by unfold at_;rw [if_neg hn]
   rw [hat] at r3 r4 r5 r6
   exact endZ_mem0 (M:=7) (l:=L28) (vs:=[.agg [.symi .u8 3,.symi .u8 4,.symb 5,.symi .u8 6]]) (by kernel_rfl) rfl rfl hH hg rfl rfl rfl (by kernel_rfl) (by kernel_rfl) (den28 r3.symm r4.symm r5.symm r6.symm (ag.val 0 (by decide)).2.2.symm (ag.val 1 (by decide)).1.symm) (by decide) ag.ext.symm (.inl rfl)
  have:=Stage.seg mixed wq28A_seg ⟨rfl,rfl⟩ (fun σ τ (ag:Agree 3 σ τ) (h:Agree 3 g.sig σ)=>h.trans' ag) (fun τ h=>rows_nil) hmid (fun τ e ht hi ag=>by
   refine segsPw_segs ?_
   have a0:τ.sval 0=C:=by rw [←(ag.val 0 (by decide)).2.2];exact hCC
   have a1:τ.ival 1=N:=by rw [←(ag.val 1 (by decide)).1];exact hN
   have a2:τ.ival 2=c:=by rw [←(ag.val 2 (by decide)).1];exact hcc
   have i4:τ.ival 4=(check (lstE C N)).2:=by
    have h:τ.ival 4=IntKind.i64.wrap (τ.tab 201 [encB (τ.sval 0)]):=eqFn (e.at 1 _ rfl rfl)
    rw [ht,a0] at h
    have e2:wTab 201 [encB C]=(check (decL (encB C))).2:=rfl
    rw [e2,hdec,wr_i64] at h
    have:=ck_snd (l:=lstE C N) (p:=none) (i:=0)
    unfold check at h⊢
    omega
   have b5:τ.bval 5= !(τ.ival 4==0):=eqB (e.at 2 _ rfl rfl) rfl
   have b6:τ.bval 6=decide (τ.ival 2<1):=eqB (e.at 3 _ rfl rfl) rfl
   refine ⟨fun f5=> .inr ⟨by simp,early τ ag ?_⟩,fun f5=>⟨fun f6=> .inr ⟨by simp,early τ ag ?_⟩,fun f6=> .inl ⟨rfl,rfl,insOk_kt (X:=wq28AX) e hi (by kernel_rfl) (by kernel_rfl),⟨a0,a1,a2,ag.ext.symm,?_,rfl,rfl,rfl,rfl⟩,ht⟩⟩⟩
   ·rw [b5,i4] at f5
    intro h
    rw [h.1] at f5
    simp at f5
   ·rw [b6,decide_eq_true_eq] at f6
    intro h;omega
   ·rw [b5,i4] at f5
    rw [b6,decide_eq_false_iff_not] at f6
    refine ⟨check_zero.1 ?_,by omega⟩
    simpa using f5) (pin1 (by kernel_rfl))
  exact this)
end Go.Proofs.Ytapfkgenachpgaa.wc
