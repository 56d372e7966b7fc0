/-
 Contracts of the world's functions: over lists of inputs.
 No conditions.
-/
import Derived.Test.YtapfkgenachpgaaWe
import Derived.WalkKit
set_option maxRecDepth 100000
namespace Go.Proofs.Ytapfkgenachpgaa.wc
open Go.Ev Go.RowKit Go.Wpl Go.Wt
set_option linter.unusedVariables false
set_option linter.unusedSimpArgs false
def wq35G:List SDef:=[.fnb 207 [.syms 0],
 .sop (.fs 220) [.syms 0,.int .i64 0,.symi .i64 1,.symi .i64 2],
 .fn 221 .i64 [.syms 0,.int .i64 0,.symi .i64 1,.symi .i64 2]]
def wq35T:LT:=.n (.n (.e) 16784 3 (.fnb 207 [.syms 0]) (.e)) 528150862 4 (.sop (.fs 220) [.syms 0,.int .i64 0,.symi .i64 1,.symi .i64 2]) (.n (.e) 632741016 5 (.fn 221 .i64 [.syms 0,.int .i64 0,.symi .i64 1,.symi .i64 2]) (.e))
def wq35W:Sw:=.node 3 (.run (.leaf .ret w35Se [(0,0),(3,0)] [(1,.symi .i64 1),(4,.symi .i64 5),(0,.syms 0),(1,.symi .i64 1),(3,.syms 4),(4,.symi .i64 5)] [])) (.dead)
def wq35Kd:KdT:=.n (.n (.n .e none .e) (some .i64) (.n .e (some .i64) .e)) none (.n (.n .e none .e) (some .i64) .e)
def wq35Y:Ing:={m:=3,ins:=w35K,G:=wq35G,T:=wq35T,tab:=wTab,lsts:=wL,kb:=6,kt:=wq35Kd}
def wq35X:Ing:={m:=3,ins:=w35K,G:=wq35G,T:=wq35T,tab:=wTab,lsts:=wL,kb:=6,kt:=wq35Kd,mh:=symMf (kdX wq35Y) [sf95]}
theorem wq35_lt:okLT 3 wq35G wq35T=true:=by kernel_rfl
theorem wq35_ok:okG wq35G 3=true:=by kernel_rfl
theorem wq35_hooks (F:List Fact):Hooks Try.prog (cxOf wq35X F) where
 val:=fun f args v h=>by simp only [wq35X,cxOf,noHook,reduceCtorEq] at h
 mem:=fun f args hp v hp' h=>by
  replace h:(symMf (kdX wq35Y) [sf95]) (symS (baseOf wq35X F)) f args hp=some (v,hp'):=h
  exact mem_symF (X:=wq35X) (tbl:=[sf95]) (inv:=fun _=>True) (fun e he=>by
   simp only [List.mem_cons,List.not_mem_nil,or_false] at he
   rcases he with rfl
   ·exact c95) wq35_lt rfl (fun _ _ _ _=>trivial) F f args hp v hp' h
 ovl:=fun f k h=>by simp only [wq35X,cxOf,reduceCtorEq] at h
 atm:=fun k b h=>by simp only [wq35X,cxOf,List.not_mem_nil] at h
theorem wq35_seg:SegOk Try.prog wTab 9 (flatC (bodyOf Try.f35)) w35S0 wq35X wq35W where
 lt:=wq35_lt
 ok:=wq35_ok
 hook:=wq35_hooks
 n0:=rfl
 id:=by kernel_rfl
 reck:=by kernel_rfl
 tab:=rfl
 cuts:=rfl
 kt:=by kernel_rfl
def wq51G:List SDef:=[.bin .lss (.int .i64 0) (.symi .i64 1),
 .bin .leq (.int .i64 0) (.symi .i64 1),
 .bin .leq (.symi .i64 1) (.int .i64 5864062014805)]
def wq51T:LT:=.n (.n (.e) 343383798 2 (.bin .lss (.int .i64 0) (.symi .i64 1)) (.e)) 343383805 3 (.bin .leq (.int .i64 0) (.symi .i64 1)) (.n (.e) 712876369 4 (.bin .leq (.symi .i64 1) (.int .i64 5864062014805)) (.e))
def wq51W:Sw:=.node 2 (.node 3 (.node 4 (.run (.leaf .ret w51Se [(0,0),(2,0)] [(1,.symi .i64 1),(1,.symi .i64 1),(0,.syms 0),(1,.symi .i64 1),(0,.syms 0),(1,.symi .i64 1)] [])) (.dead)) (.dead)) (.dead)
def wq51Kd:KdT:=.n (.n (.n .e none .e) (some .i64) .e) none (.n (.n .e none .e) none .e)
def wq51X:Ing:={m:=2,ins:=w30K,G:=wq51G,T:=wq51T,tab:=wTab,lsts:=wL,kb:=5,kt:=wq51Kd}
theorem wq51_lt:okLT 2 wq51G wq51T=true:=by kernel_rfl
theorem wq51_ok:okG wq51G 2=true:=by kernel_rfl
theorem wq51_seg:SegOk Try.prog wTab 8 (flatC (bodyOf Try.f51)) w30S0 wq51X wq51W where
 lt:=wq51_lt
 ok:=wq51_ok
 hook:=fun F=>no_hooks rfl F
 n0:=rfl
 id:=by kernel_rfl
 reck:=by kernel_rfl
 tab:=rfl
 cuts:=rfl
 kt:=by kernel_rfl
theorem bval202 {σ:Sig} {i N:Nat} {C:ByteArray} (ht:σ.tab=wTab) (hs:σ.sval i=C) (hC:C.data.toList.length=N*17) (h:Script (lstE C N)∧(N:Int)≤1000000):(!(σ.tab 202 [encB (σ.sval i)]==0))=true:=by
 rw [ht,hs,tab202,b01_ne,decL_of hC]
 simp only [decide_eq_true_eq,lstE_len]
 exact ⟨check_zero.2 h.1,by omega⟩
def L35:Asg:=[(4,.symi .i64 4),(0,.syms 0),(1,.symi .i64 1),(3,.syms 3),(4,.symi .i64 4)]
theorem den35 {σ τ:Sig} (h4:σ.ival 4=τ.ival 4) (h0:σ.sval 0=τ.sval 0) (h1:σ.ival 1=τ.ival 1) (h3:σ.sval 3=τ.sval 3):DenEq σ τ L35:=
 ⟨congrArg (AVal.int .i64) h4,congrArg AVal.str h0,congrArg (AVal.int .i64) h1,congrArg AVal.str h3,congrArg (AVal.int .i64) h4,trivial⟩
theorem pin0 {g:Inj} {w:World} {n:Nat} {W:Sw} (h:pinsB n W=true): ∀i,(fraOf g w n).pin i≠none→pinW i W=true:=by
 intro i hi
 have hi:(if i<n then some (g.loc i) else none)≠none:=hi
 split at hi
 ·exact pins_of h i (by assumption)
 ·exact absurd rfl hi
set_option maxHeartbeats 1000000 in
theorem c35:SymFOk Try.prog wTab (fun _=>True) sf35:=
 symF_of_stage Try.func35 rfl (n:=9) rfl (by decide) (by decide) rfl rfl (by kernel_rfl) (fun g w hg _ hE hI hpc hH=>by
  obtain ⟨N,hN,hC⟩:=lst_ok (i:=0) hH rfl
  have hp:=pc207 hg rfl hC (hpc _ (by simp [sf35]))
  refine Stage.last mixed wq35_seg ⟨rfl,rfl⟩ (fun σ τ (ag:Agree 3 σ τ) (h:Agree 3 g.sig σ)=>h.trans' ag) (fun τ h=>rows_nil) (fun τ e ht hi ag=> ?_) (pin0 (by kernel_rfl))
  refine segsPw_segs ?_
  have a0:τ.sval 0=g.sig.sval 0:=(ag.val 0 (by decide)).2.2.symm
  have a1:τ.ival 1=g.sig.ival 1:=(ag.val 1 (by decide)).1.symm
  have a2:τ.ival 2=g.sig.ival 2:=(ag.val 2 (by decide)).1.symm
  have b3:τ.bval 3=true:=(eqFnb (e.at 0 _ rfl rfl)).trans (bval207 ht a0 hC hp)
  have s4:τ.sval 4=g.sig.sval 3:=by
   have h:τ.sval 4=decS (τ.tab 220 [encB (τ.sval 0),0,τ.ival 1,τ.ival 2]):=eqFs (e.at 1 _ rfl rfl)
   have k:g.sig.sval 3=decS (g.sig.tab 220 [encB (g.sig.sval 0),0,g.sig.ival 1,g.sig.ival 2]):=eqFs (hE.at 0 _ rfl rfl)
   rw [h,k,ht,hg,a0,a1,a2]
  have i5:τ.ival 5=g.sig.ival 4:=by
   have h:τ.ival 5=IntKind.i64.wrap (τ.tab 221 [encB (τ.sval 0),0,τ.ival 1,τ.ival 2]):=eqFn (e.at 2 _ rfl rfl)
   have k:g.sig.ival 4=IntKind.i64.wrap (g.sig.tab 221 [encB (g.sig.sval 0),0,g.sig.ival 1,g.sig.ival 2]):=eqFn (hE.at 1 _ rfl rfl)
   rw [h,k,ht,hg,a0,a1,a2]
  refine ⟨fun _=> ?_,fun f3=> ?_⟩
  ·exact endZ_mem (M:=5) (l:=L35) (vs:=[.lsl 1 3 true (.int .i64 0) (.symi .i64 4)]) (by kernel_rfl) rfl rfl hH hg rfl rfl rfl (by kernel_rfl) (by kernel_rfl) (den35 i5 a0 a1 s4) (by decide) ag.ext.symm (.inl rfl)
  ·rw [b3] at f3;cases f3)
def L51:Asg:=[(1,.symi .i64 1),(0,.syms 0),(1,.symi .i64 1),(0,.syms 0),(1,.symi .i64 1)]
theorem den51 {σ τ:Sig} (h0:σ.sval 0=τ.sval 0) (h1:σ.ival 1=τ.ival 1):DenEq σ τ L51:=
 ⟨congrArg (AVal.int .i64) h1,congrArg AVal.str h0,congrArg (AVal.int .i64) h1,congrArg AVal.str h0,congrArg (AVal.int .i64) h1,trivial⟩
def sf51p:SymF:={sf51 with pcs:=[.fnb 207 [.syms 0],.bin .lss (.int .i64 0) (.symi .i64 1)]}
theorem c51p:SymFOk Try.prog wTab (fun _=>True) sf51p:=
 symF_of_stage Try.func51 rfl (n:=8) rfl (by decide) (by decide) rfl rfl (by kernel_rfl) (fun g w hg _ hE hI hpc hH=>by
  obtain ⟨N,hN,hC⟩:=lst_ok (i:=0) hH rfl
  have hp:=pc207 hg rfl hC (hpc _ (by simp [sf51p]))
  have h0:(AVal.bool (decide ((0:Int)<g.sig.ival 1)))=.bool true:=Option.some.inj (hpc (.bin .lss (.int .i64 0) (.symi .i64 1)) (by simp [sf51p]))
  simp only [AVal.bool.injEq,decide_eq_true_eq] at h0
  refine Stage.last mixed wq51_seg ⟨rfl,rfl⟩ (fun σ τ (ag:Agree 2 σ τ) (h:Agree 2 g.sig σ)=>h.trans' ag) (fun τ h=>rows_nil) (fun τ e ht hi ag=> ?_) (pin0 (by kernel_rfl))
  refine segsPw_segs ?_
  have a0:τ.sval 0=g.sig.sval 0:=(ag.val 0 (by decide)).2.2.symm
  have a1:τ.ival 1=g.sig.ival 1:=(ag.val 1 (by decide)).1.symm
  have b2:τ.bval 2=decide ((0:Int)<τ.ival 1):=eqB (e.at 0 _ rfl rfl) rfl
  have b3:τ.bval 3=decide ((0:Int)≤τ.ival 1):=eqB (e.at 1 _ rfl rfl) rfl
  have b4:τ.bval 4=decide (τ.ival 1≤5864062014805):=eqB (e.at 2 _ rfl rfl) rfl
  refine ⟨fun f2=>⟨fun f3=>⟨fun f4=> ?_,fun f4=> ?_⟩,fun f3=> ?_⟩,fun f2=> ?_⟩
  ·exact endZ_mem (M:=2) (l:=L51) (vs:=[.lsl 1 3 true (.int .i64 0) (.symi .i64 1)]) (by kernel_rfl) rfl rfl hH hg rfl rfl rfl (by kernel_rfl) (by kernel_rfl) (den51 a0 a1) (by decide) ag.ext.symm (.inl rfl)
  ·exfalso
   rw [b4,decide_eq_false_iff_not] at f4
   omega
  ·exfalso
   rw [b3,decide_eq_false_iff_not] at f3
   omega
  ·exfalso
   rw [b2,decide_eq_false_iff_not] at f2
   omega)
theorem c51:SymFOk Try.prog wTab (fun _=>True) sf51 where
 len:=by decide
 cpre:=rfl
 cpost:=rfl
 ok:=rfl
 call:=fun g w args' ht hi he hins hpc hH ha=>by
  obtain ⟨N,hN,hC⟩:=lst_ok (i:=0) hH rfl
  by_cases h0:N=0
  ·subst h0
   obtain ⟨u,hu,ho⟩: ∃u,args'= #[u]∧VRel g (.lsl 0 3 false (.int .i64 0) (.symi .i64 1)) u:=by
    generalize hal:args'.toList=l at ha
    cases ha with
    |cons _ v _ m hv hm=>
     cases hm
     exact ⟨v,by rw [←Array.toArray_toList (xs:=args'),hal],hv⟩
   subst hu
   have hz:NoneL g (.lst (.syms 0) (.symi .i64 1) cl3 64):=by
    refine ⟨_,_,_,_,rfl,?_,by simp only [den,hN];rfl⟩
    simp only [den,AVal.str.injEq]
    have:(g.sig.sval 0).data.toList=[]:=List.eq_nil_of_length_eq_zero (by omega)
    generalize g.sig.sval 0=S at this
    cases S with
    |mk d=>cases d with
     |mk l=>(first|(simp at this;subst this;rfl)|(cases l with|nil=>rfl|cons a l=>cases this))
   cases ho with
   |lsl _ _ _ _ _ o m cap ao d1 d2 d3 d4 d5=>
    simp only [den,AVal.int.injEq,true_and] at d1 d2
    have hm:m=0:=by omega
    subst hm
    have hres: ∀ao',VRel g (.lsl 1 3 true (.int .i64 0) (.symi .i64 1)) (.slice ao' 0 0):=fun ao'=> .lsl 1 3 true (.int .i64 0) (.symi .i64 1) 0 0 0 ao' rfl (by simp only [den,hN]) ⟨Nat.le_refl _,by decide⟩ (fun _=>⟨rfl,fun _=>rfl⟩) (fun h=>absurd h (by decide))
    have fin: ∀{w':World},Below w.heap.size w w'→ ∀ao',∃(u:Value) (g1:Inj),Ending.returned (.slice ao' 0 0)=.returned u∧g1.sig=g.sig∧VRel g1 sf51.v u∧HRel (cx0 wTab) g1 sf51.post w'∧(∀i,i<sf51.pre.length→g1 i=g i)∧(∀i L,sf51.pre.length≤i→g1 i=some L→w.heap.size≤L.blk∨ ∃j M,g j=some M∧M.blk=L.blk)∧
      w.heap.size≤w'.heap.size∧(∀b,b<w.heap.size→(∀i L,g i=some L→L.blk≠b)→w'.heap[b]? =w.heap[b]?)∧w'.os=w.os∧w'.tape=w.tape∧w'.output=w.output:=by
     intro w' hb ao'
     have h1:=(hH.below hb).1
     have h2:=(h1.snocNone hz).1
     exact ⟨_,g,rfl,rfl,hres ao',h2,fun _ _=>rfl,fun i L _ hL=> .inr ⟨i,L,hL,rfl⟩,hb.size,fun b hb' _=>hb.block b hb',hb.os,hb.tape,hb.output⟩
    cases ao with
    |none=>
     refine Calls.mono (wcl.clone_nil cap w) ?_
     rintro en w' ⟨rfl,rfl⟩
     exact fin (Below.refl _ _) none
    |some a=>
     refine Calls.mono (wcl.clone_none a cap w) ?_
     rintro en w' ⟨a',rfl,hb⟩
     exact fin hb a'
  ·refine c51p.call g w args' ht hi he hins (fun d hd=> ?_) hH ha
   simp only [sf51p,List.mem_cons,List.not_mem_nil,or_false] at hd
   rcases hd with rfl|rfl
   ·exact hpc _ (by simp [sf51])
   ·simp only [evalS,den]
    show some (AVal.bool (decide ((0:Int)<g.sig.ival 1)))=_
    rw [decide_eq_true (by omega)]
def wq30G:List SDef:=[.fnb 202 [.syms 0],
 .fnb 207 [.syms 0],
 .fn 200 .i64 [.syms 0],
 .fn 201 .i64 [.syms 0],
 .bin .neq (.symi .i64 5) (.int .i64 0)]
def wq30T:LT:=.n (.n (.n (.e) 14149 4 (.fn 200 .i64 [.syms 0]) (.e)) 14192 5 (.fn 201 .i64 [.syms 0]) (.e)) 16519 2 (.fnb 202 [.syms 0]) (.n (.n (.e) 16784 3 (.fnb 207 [.syms 0]) (.e)) 505011916 6 (.bin .neq (.symi .i64 5) (.int .i64 0)) (.e))
def wq30W:Sw:=.node 2 (.node 3 (.node 6 (.dead) (.run (.leaf .ret w30Se [(0,0),(2,0),(1,0)] [(1,.symi .i64 1),(0,.syms 0),(1,.symi .i64 1),(1,.symi .i64 1),(0,.syms 0),(1,.symi .i64 1)] []))) (.dead)) (.dead)
def wq30Kd:KdT:=.n (.n (.n .e none .e) (some .i64) (.n .e (some .i64) .e)) none (.n (.n .e (some .i64) .e) none (.n .e none .e))
def wq30Y:Ing:={m:=2,ins:=w30K,G:=wq30G,T:=wq30T,tab:=wTab,lsts:=wL,kb:=7,kt:=wq30Kd}
def wq30X:Ing:={m:=2,ins:=w30K,G:=wq30G,T:=wq30T,tab:=wTab,lsts:=wL,kb:=7,kt:=wq30Kd,mh:=symMf (kdX wq30Y) [sf26,sf51]}
theorem wq30_lt:okLT 2 wq30G wq30T=true:=by kernel_rfl
theorem wq30_ok:okG wq30G 2=true:=by kernel_rfl
theorem wq30_hooks (F:List Fact):Hooks Try.prog (cxOf wq30X F) where
 val:=fun f args v h=>by simp only [wq30X,cxOf,noHook,reduceCtorEq] at h
 mem:=fun f args hp v hp' h=>by
  replace h:(symMf (kdX wq30Y) [sf26,sf51]) (symS (baseOf wq30X F)) f args hp=some (v,hp'):=h
  exact mem_symF (X:=wq30X) (tbl:=[sf26,sf51]) (inv:=fun _=>True) (fun e he=>by
   simp only [List.mem_cons,List.not_mem_nil,or_false] at he
   rcases he with rfl|rfl
   ·exact c26
   ·exact c51) wq30_lt rfl (fun _ _ _ _=>trivial) F f args hp v hp' h
 ovl:=fun f k h=>by simp only [wq30X,cxOf,reduceCtorEq] at h
 atm:=fun k b h=>by simp only [wq30X,cxOf,List.not_mem_nil] at h
theorem wq30_seg:SegOk Try.prog wTab 16 (flatC (bodyOf Try.f30)) w30S0 wq30X wq30W where
 lt:=wq30_lt
 ok:=wq30_ok
 hook:=wq30_hooks
 n0:=rfl
 id:=by kernel_rfl
 reck:=by kernel_rfl
 tab:=rfl
 cuts:=rfl
 kt:=by kernel_rfl
def L30:Asg:=[(0,.syms 0),(1,.symi .i64 1),(1,.symi .i64 1),(0,.syms 0),(1,.symi .i64 1)]
theorem den30 {σ τ:Sig} (h0:σ.sval 0=τ.sval 0) (h1:σ.ival 1=τ.ival 1):DenEq σ τ L30:=
 ⟨congrArg AVal.str h0,congrArg (AVal.int .i64) h1,congrArg (AVal.int .i64) h1,congrArg AVal.str h0,congrArg (AVal.int .i64) h1,trivial⟩
theorem c30:SymFOk Try.prog wTab (fun _=>True) sf30:=
 symF_of_stage Try.func30 rfl (n:=16) rfl (by decide) (by decide) rfl rfl (by kernel_rfl) (fun g w hg _ hE hI hpc hH=>by
  obtain ⟨N,hN,hC⟩:=lst_ok (i:=0) hH rfl
  have hp:=pc202 hg rfl hC (hpc _ (by simp [sf30]))
  refine Stage.last mixed wq30_seg ⟨rfl,rfl⟩ (fun σ τ (ag:Agree 2 σ τ) (h:Agree 2 g.sig σ)=>h.trans' ag) (fun τ h=>rows_nil) (fun τ e ht hi ag=> ?_) (pin0 (by kernel_rfl))
  refine segsPw_segs ?_
  have a0:τ.sval 0=g.sig.sval 0:=(ag.val 0 (by decide)).2.2.symm
  have a1:τ.ival 1=g.sig.ival 1:=(ag.val 1 (by decide)).1.symm
  have b2:τ.bval 2=true:=(eqFnb (e.at 0 _ rfl rfl)).trans (bval202 ht a0 hC hp)
  have b3:τ.bval 3=true:=(eqFnb (e.at 1 _ rfl rfl)).trans (bval207 ht a0 hC hp.2)
  have i5:τ.ival 5=0:=by
   have h:τ.ival 5=IntKind.i64.wrap (τ.tab 201 [encB (τ.sval 0)]):=eqFn (e.at 3 _ rfl rfl)
   have e2:wTab 201 [encB (g.sig.sval 0)]=(check (decL (encB (g.sig.sval 0)))).2:=rfl
   rw [h,ht,a0,e2,decL_of hC,check_zero.2 hp.1];rfl
  have b6:τ.bval 6= !(τ.ival 5==0):=eqB (e.at 4 _ rfl rfl) rfl
  refine ⟨fun f2=>⟨fun f3=>⟨fun f6=> ?_,fun f6=> ?_⟩,fun f3=>(by rw [b3] at f3;cases f3)⟩,fun f2=> ?_⟩
  ·exfalso
   rw [b6,i5] at f6
   simp at f6
  ·exact endZ_mem (M:=2) (l:=L30) (vs:=[.ptr 1 0]) (by kernel_rfl) rfl rfl hH hg rfl rfl rfl (by kernel_rfl) (by kernel_rfl) (den30 a0 a1) (by decide) ag.ext.symm (.inl rfl)
  ·rw [b2] at f2;cases f2)
end Go.Proofs.Ytapfkgenachpgaa.wc
