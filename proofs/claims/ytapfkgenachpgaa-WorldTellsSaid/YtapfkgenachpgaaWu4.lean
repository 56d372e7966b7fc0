/-
 Contracts of the document's answer for the world; what is refused; alike.
 No conditions.
-/
import Derived.Test.YtapfkgenachpgaaWu3
import Derived.Test.YtapfkgenachpgaaWs4
import Derived.WalkKit
set_option maxRecDepth 100000
namespace Go.Proofs.Ytapfkgenachpgaa.wc
open Go.Ev Go.RowKit Go.Wpl Go.Wt
set_option linter.unusedVariables false
set_option linter.unusedSimpArgs false
theorem tab201 (C:ByteArray):wTab 201 [encB C]=(check (decL (encB C))).2:=rfl
theorem tab208 (C:ByteArray):wTab 208 [encB C]=b01 (decide ((check (decL (encB C))).2≠0∧(decL (encB C)).length≤1000000)):=rfl
theorem pc208 {σ:Sig} {i N:Nat} {C:ByteArray} (ht:σ.tab=wTab) (hs:σ.sval i=C) (hC:C.data.toList.length=N*17) (h:evalS σ (.fnb 208 [.syms i])=some (.bool true)):(check (lstE C N)).2≠0∧(N:Int)≤1000000:=by
 have h:(AVal.bool (!(σ.tab 208 [encB (σ.sval i)]==0)))=.bool true:=Option.some.inj h
 rw [ht,hs,tab208,b01_ne,decL_of hC] at h
 simp only [AVal.bool.injEq,decide_eq_true_eq,lstE_len] at h
 exact ⟨h.1,by omega⟩
theorem bval208 {σ:Sig} {i N:Nat} {C:ByteArray} (ht:σ.tab=wTab) (hs:σ.sval i=C) (hC:C.data.toList.length=N*17) (h:(check (lstE C N)).2≠0∧(N:Int)≤1000000):(!(σ.tab 208 [encB (σ.sval i)]==0))=true:=by
 rw [ht,hs,tab208,b01_ne,decL_of hC]
 simp only [decide_eq_true_eq,lstE_len]
 exact ⟨h.1,by omega⟩
theorem bval205 {σ:Sig} {a b d:Nat} {x:E3} (ht:σ.tab=wTab) (h1:σ.ival a=x.t) (h2:σ.ival b=x.k) (h3:σ.ival d=x.v):(!(σ.tab 205 [σ.ival a,σ.ival b,σ.ival d]==0))=decide (okIn x):=by
 rw [ht,h1,h2,h3,tab205,b01_ne]
theorem tab209 (a b c:Int):wTab 209 [a,b,c]=b01 (decide (¬okIn ⟨a,b,c⟩)):=rfl
theorem bval209 {σ:Sig} {a b d:Nat} {x:E3} (ht:σ.tab=wTab) (h1:σ.ival a=x.t) (h2:σ.ival b=x.k) (h3:σ.ival d=x.v):(!(σ.tab 209 [σ.ival a,σ.ival b,σ.ival d]==0))=decide (¬okIn x):=by
 rw [ht,h1,h2,h3,tab209,b01_ne]
theorem same206 (a:Int):(!(wTab 206 [a,a]==0))=true:=by
 have e:wTab 206 [a,a]=b01 (decide (decL a=decL a)):=rfl
 rw [e,b01_ne,decide_eq_true_eq]
theorem code_one {x:E3} (h: ¬okIn x):(check [x]).2≠0∧IntKind.i64.wrap (check [x]).2=(check [x]).2:=by
 have hn:codeOf none x≠0:=fun h0=>h (codeOf_zero.1 h0).1
 have hb:=code_b none x
 rw [check_one,if_neg hn]
 refine ⟨hn,?_⟩
 show IntKind.i64.wrap (codeOf none x)=codeOf none x
 rw [wr_i64];omega
theorem code_w (l:List E3):IntKind.i64.wrap (check l).2=(check l).2:=by
 have:=ck_snd (l:=l) (p:=none) (i:=0)
 rw [wr_i64]
 unfold check
 omega
def Lxx:Asg:=[(5,.symi .i64 5),(0,.syms 0),(1,.symi .i64 1)]
def Lx1:Asg:=[(0,.syms 0),(1,.symi .i64 1)]
def wt25bG:List SDef:=[.fn 201 .i64 [.syms 0],
 .bin .neq (.symi .i64 5) (.int .i64 0),
 .fn 200 .i64 [.syms 0]]
def wt25bT:LT:=.n (.n (.e) 14149 7 (.fn 200 .i64 [.syms 0]) (.e)) 14192 5 (.fn 201 .i64 [.syms 0]) (.n (.e) 505011916 6 (.bin .neq (.symi .i64 5) (.int .i64 0)) (.e))
def wt25bW:Sw:=.node 6 (.run (.leaf .ret w25Sx [(0,0)] [(1,.symi .i64 1),(5,.symi .i64 5),(0,.syms 0),(1,.symi .i64 1)] [])) (.dead)
def wt25bKd:KdT:=.n (.n (.n (.n .e (some .i64) .e) (some .i64) .e) (some .i64) (.n .e (some .i64) .e)) none (.n (.n .e (some .u8) .e) (some .i64) (.n .e none .e))
def wt25bY:Ing:={m:=5,ins:=w52K,G:=wt25bG,T:=wt25bT,tab:=wTab,lsts:=wL,kb:=8,kt:=wt25bKd}
def wt25bX:Ing:={m:=5,ins:=w52K,G:=wt25bG,T:=wt25bT,tab:=wTab,lsts:=wL,kb:=8,kt:=wt25bKd,mh:=symMf (kdX wt25bY) [sf26,sf26b]}
theorem wt25b_lt:okLT 5 wt25bG wt25bT=true:=by kernel_rfl
theorem wt25b_ok:okG wt25bG 5=true:=by kernel_rfl
theorem wt25b_hooks (F:List Fact):Hooks Try.prog (cxOf wt25bX F) where
 val:=fun f args v h=>by simp only [wt25bX,cxOf,noHook,reduceCtorEq] at h
 mem:=fun f args hp v hp' h=>by
  replace h:(symMf (kdX wt25bY) [sf26,sf26b]) (symS (baseOf wt25bX F)) f args hp=some (v,hp'):=h
  exact mem_symF (X:=wt25bX) (tbl:=[sf26,sf26b]) (inv:=fun _=>True) (fun e he=>by
   simp only [List.mem_cons,List.not_mem_nil,or_false] at he
   rcases he with rfl|rfl
   ·exact c26
   ·exact c26b) wt25b_lt rfl (fun _ _ _ _=>trivial) F f args hp v hp' h
 ovl:=fun f k h=>by simp only [wt25bX,cxOf,reduceCtorEq] at h
 atm:=fun k b h=>by simp only [wt25bX,cxOf,List.not_mem_nil] at h
theorem wt25b_seg:SegOk Try.prog wTab 50 (flatC (bodyOf Try.f25)) w25S0 wt25bX wt25bW where
 lt:=wt25b_lt
 ok:=wt25b_ok
 hook:=wt25b_hooks
 n0:=rfl
 id:=by kernel_rfl
 reck:=by kernel_rfl
 tab:=rfl
 cuts:=rfl
 kt:=by kernel_rfl
def wt25cG:List SDef:=[.fn 201 .i64 [.syms 0],
 .bin .neq (.symi .i64 5) (.int .i64 0),
 .fn 256 .i64 [.symi .i64 2,.symi .i64 3,.symi .u8 4],
 .bin .neq (.symi .i64 7) (.int .i64 0),
 .fn 200 .i64 [.syms 0],
 .fn 255 .i64 [.symi .i64 2,.symi .i64 3,.symi .u8 4]]
def wt25cT:LT:=.n (.n (.n (.e) 14149 9 (.fn 200 .i64 [.syms 0]) (.e)) 14192 5 (.fn 201 .i64 [.syms 0]) (.n (.e) 505011916 6 (.bin .neq (.symi .i64 5) (.int .i64 0)) (.e))) 618774949 10 (.fn 255 .i64 [.symi .i64 2,.symi .i64 3,.symi .u8 4]) (.n (.n (.e) 618774992 7 (.fn 256 .i64 [.symi .i64 2,.symi .i64 3,.symi .u8 4]) (.e)) 707012522 8 (.bin .neq (.symi .i64 7) (.int .i64 0)) (.e))
def wt25cW:Sw:=.node 6 (.dead) (.node 8 (.run (.leaf .ret w25Sx [(0,0)] [(1,.symi .i64 1),(5,.symi .i64 7),(0,.syms 0),(1,.symi .i64 1)] [])) (.dead))
def wt25cKd:KdT:=.n (.n (.n (.n .e (some .i64) .e) (some .i64) .e) (some .i64) (.n (.n .e (some .i64) .e) (some .i64) .e)) none (.n (.n (.n .e none .e) (some .u8) .e) (some .i64) (.n (.n .e (some .i64) .e) none .e))
def wt25cY:Ing:={m:=5,ins:=w52K,G:=wt25cG,T:=wt25cT,tab:=wTab,lsts:=wL,kb:=11,kt:=wt25cKd}
def wt25cX:Ing:={m:=5,ins:=w52K,G:=wt25cG,T:=wt25cT,tab:=wTab,lsts:=wL,kb:=11,kt:=wt25cKd,mh:=symMf (kdX wt25cY) [sf26,sf26b]}
theorem wt25c_lt:okLT 5 wt25cG wt25cT=true:=by kernel_rfl
theorem wt25c_ok:okG wt25cG 5=true:=by kernel_rfl
theorem wt25c_hooks (F:List Fact):Hooks Try.prog (cxOf wt25cX F) where
 val:=fun f args v h=>by simp only [wt25cX,cxOf,noHook,reduceCtorEq] at h
 mem:=fun f args hp v hp' h=>by
  replace h:(symMf (kdX wt25cY) [sf26,sf26b]) (symS (baseOf wt25cX F)) f args hp=some (v,hp'):=h
  exact mem_symF (X:=wt25cX) (tbl:=[sf26,sf26b]) (inv:=fun _=>True) (fun e he=>by
   simp only [List.mem_cons,List.not_mem_nil,or_false] at he
   rcases he with rfl|rfl
   ·exact c26
   ·exact c26b) wt25c_lt rfl (fun _ _ _ _=>trivial) F f args hp v hp' h
 ovl:=fun f k h=>by simp only [wt25cX,cxOf,reduceCtorEq] at h
 atm:=fun k b h=>by simp only [wt25cX,cxOf,List.not_mem_nil] at h
theorem wt25c_seg:SegOk Try.prog wTab 50 (flatC (bodyOf Try.f25)) w25S0 wt25cX wt25cW where
 lt:=wt25c_lt
 ok:=wt25c_ok
 hook:=wt25c_hooks
 n0:=rfl
 id:=by kernel_rfl
 reck:=by kernel_rfl
 tab:=rfl
 cuts:=rfl
 kt:=by kernel_rfl
theorem c25b:SymFOk Try.prog wTab (fun _=>True) sf25b:=
 symF_of_stage Try.func25 rfl (n:=50) rfl (by decide) (by decide) rfl rfl (by kernel_rfl) (fun g w hg _ hE hI hpc hH=>by
  obtain ⟨N,hN,hC⟩:=lst_ok (i:=0) hH rfl
  have hp:=pc208 hg rfl hC (hpc _ (by simp [sf25b,sf25]))
  generalize hCC:g.sig.sval 0=C at hC hp
  have r5:g.sig.ival 5=(check (lstE C N)).2:=by
   have h:g.sig.ival 5=IntKind.i64.wrap (g.sig.tab 201 [encB (g.sig.sval 0)]):=eqFn (hE.at 0 _ rfl rfl)
   rw [h,hg,hCC,tab201,decL_of hC,code_w]
  refine Stage.last mixed wt25b_seg ⟨rfl,rfl⟩ (fun σ τ (ag:Agree 5 σ τ) (h:Agree 5 g.sig σ)=>h.trans' ag) (fun τ h=>rows_nil) (fun τ e ht hi ag=> ?_) (pin0 (by kernel_rfl))
  refine segsPw_segs ?_
  have a0:τ.sval 0=C:=by rw [←(ag.val 0 (by decide)).2.2];exact hCC
  have a1:τ.ival 1=N:=by rw [←(ag.val 1 (by decide)).1];exact hN
  have i5:τ.ival 5=IntKind.i64.wrap (τ.tab 201 [encB (τ.sval 0)]):=eqFn (e.at 0 _ rfl rfl)
  have b6:τ.bval 6= !(τ.ival 5==0):=eqB (e.at 1 _ rfl rfl) rfl
  have i5':τ.ival 5=(check (lstE C N)).2:=by rw [i5,ht,a0,tab201,decL_of hC,code_w]
  refine ⟨fun _=> ?_,fun f=> ?_⟩
  ·exact endZ_mem (M:=6) (l:=Lxx) (vs:=[.nilslice,.symi .i64 5]) (by kernel_rfl) rfl rfl hH hg rfl rfl rfl (by kernel_rfl) (by kernel_rfl) ⟨congrArg (AVal.int .i64) (i5'.trans r5.symm),congrArg AVal.str (a0.trans hCC.symm),congrArg (AVal.int .i64) (a1.trans hN.symm),trivial⟩ (by decide) (extS ag.ext.symm) (.inl rfl)
  ·rw [b6,i5'] at f
   simp [hp.1] at f)
theorem c25c:SymFOk Try.prog wTab (fun _=>True) sf25c:=
 symF_of_stage Try.func25 rfl (n:=50) rfl (by decide) (by decide) rfl rfl (by kernel_rfl) (fun g w hg _ hE hI hpc hH=>by
  obtain ⟨N,hN,hC⟩:=lst_ok (i:=0) hH rfl
  have hp:=pc202 hg rfl hC (hpc _ (by simp [sf25c,sf25b,sf25]))
  have hq:(AVal.bool (!(g.sig.tab 209 [g.sig.ival 2,g.sig.ival 3,g.sig.ival 4]==0)))=.bool true:=Option.some.inj (hpc (.fnb 209 [.symi .i64 2,.symi .i64 3,.symi .u8 4]) (by simp [sf25c,sf25b,sf25]))
  generalize hCC:g.sig.sval 0=C at hC hp
  obtain ⟨hScr,hNb⟩:=hp
  generalize hx:(⟨g.sig.ival 2,g.sig.ival 3,g.sig.ival 4⟩:E3)=x
  have y2:g.sig.ival 2=x.t:=by rw [←hx]
  have y3:g.sig.ival 3=x.k:=by rw [←hx]
  have y4:g.sig.ival 4=x.v:=by rw [←hx]
  rw [bval209 hg y2 y3 y4,AVal.bool.injEq,decide_eq_true_eq] at hq
  have hco:=code_one hq
  have e9:wTab 256 [x.t,x.k,x.v]=(check [x]).2:=rfl
  have r5:g.sig.ival 5=(check [x]).2:=by
   have h:g.sig.ival 5=IntKind.i64.wrap (g.sig.tab 256 [g.sig.ival 2,g.sig.ival 3,g.sig.ival 4]):=eqFn (hE.at 0 _ rfl rfl)
   rw [h,hg,y2,y3,y4,e9,hco.2]
  refine Stage.last mixed wt25c_seg ⟨rfl,rfl⟩ (fun σ τ (ag:Agree 5 σ τ) (h:Agree 5 g.sig σ)=>h.trans' ag) (fun τ h=>rows_nil) (fun τ e ht hi ag=> ?_) (pin0 (by kernel_rfl))
  refine segsPw_segs ?_
  have a0:τ.sval 0=C:=by rw [←(ag.val 0 (by decide)).2.2];exact hCC
  have a1:τ.ival 1=N:=by rw [←(ag.val 1 (by decide)).1];exact hN
  have a2:τ.ival 2=x.t:=by rw [←(ag.val 2 (by decide)).1];exact y2
  have a3:τ.ival 3=x.k:=by rw [←(ag.val 3 (by decide)).1];exact y3
  have a4:τ.ival 4=x.v:=by rw [←(ag.val 4 (by decide)).1];exact y4
  have i5:τ.ival 5=IntKind.i64.wrap (τ.tab 201 [encB (τ.sval 0)]):=eqFn (e.at 0 _ rfl rfl)
  have b6:τ.bval 6= !(τ.ival 5==0):=eqB (e.at 1 _ rfl rfl) rfl
  have i7:τ.ival 7=IntKind.i64.wrap (τ.tab 256 [τ.ival 2,τ.ival 3,τ.ival 4]):=eqFn (e.at 2 _ rfl rfl)
  have b8:τ.bval 8= !(τ.ival 7==0):=eqB (e.at 3 _ rfl rfl) rfl
  have i5':τ.ival 5=0:=by rw [i5,ht,a0,tab201,decL_of hC,check_zero.2 hScr];rfl
  have i7':τ.ival 7=(check [x]).2:=by rw [i7,ht,a2,a3,a4,e9,hco.2]
  refine ⟨fun f=>(by rw [b6,i5'] at f;cases f),fun _=>⟨fun _=> ?_,fun f=> ?_⟩⟩
  ·exact endZ_mem (M:=6) (l:=Lxx) (vs:=[.nilslice,.symi .i64 5]) (by kernel_rfl) rfl rfl hH hg rfl rfl rfl (by kernel_rfl) (by kernel_rfl) ⟨congrArg (AVal.int .i64) (i7'.trans r5.symm),congrArg AVal.str (a0.trans hCC.symm),congrArg (AVal.int .i64) (a1.trans hN.symm),trivial⟩ (by decide) (extS ag.ext.symm) (.inl rfl)
  ·rw [b8,i7'] at f
   simp [hco.1] at f)
def wt59bG:List SDef:=[.fn 201 .i64 [.syms 0],
 .bin .neq (.symi .i64 5) (.int .i64 0),
 .fn 200 .i64 [.syms 0]]
def wt59bT:LT:=.n (.n (.e) 14149 7 (.fn 200 .i64 [.syms 0]) (.e)) 14192 5 (.fn 201 .i64 [.syms 0]) (.n (.e) 505011916 6 (.bin .neq (.symi .i64 5) (.int .i64 0)) (.e))
def wt59bW:Sw:=.node 6 (.run (.leaf .ret w25Sx [(0,0)] [(1,.symi .i64 1),(5,.symi .i64 5),(0,.syms 0),(1,.symi .i64 1)] [])) (.dead)
def wt59bKd:KdT:=.n (.n (.n (.n .e (some .i64) .e) (some .i64) .e) (some .i64) (.n .e (some .i64) .e)) none (.n (.n .e (some .u8) .e) (some .i64) (.n .e none .e))
def wt59bY:Ing:={m:=5,ins:=w52K,G:=wt59bG,T:=wt59bT,tab:=wTab,lsts:=wL,kb:=8,kt:=wt59bKd}
def wt59bX:Ing:={m:=5,ins:=w52K,G:=wt59bG,T:=wt59bT,tab:=wTab,lsts:=wL,kb:=8,kt:=wt59bKd,mh:=symMf (kdX wt59bY) [sf58,sf58b]}
theorem wt59b_lt:okLT 5 wt59bG wt59bT=true:=by kernel_rfl
theorem wt59b_ok:okG wt59bG 5=true:=by kernel_rfl
theorem wt59b_hooks (F:List Fact):Hooks Try.prog (cxOf wt59bX F) where
 val:=fun f args v h=>by simp only [wt59bX,cxOf,noHook,reduceCtorEq] at h
 mem:=fun f args hp v hp' h=>by
  replace h:(symMf (kdX wt59bY) [sf58,sf58b]) (symS (baseOf wt59bX F)) f args hp=some (v,hp'):=h
  exact mem_symF (X:=wt59bX) (tbl:=[sf58,sf58b]) (inv:=fun _=>True) (fun e he=>by
   simp only [List.mem_cons,List.not_mem_nil,or_false] at he
   rcases he with rfl|rfl
   ·exact c58
   ·exact c58b) wt59b_lt rfl (fun _ _ _ _=>trivial) F f args hp v hp' h
 ovl:=fun f k h=>by simp only [wt59bX,cxOf,reduceCtorEq] at h
 atm:=fun k b h=>by simp only [wt59bX,cxOf,List.not_mem_nil] at h
theorem wt59b_seg:SegOk Try.prog wTab 71 (flatC (bodyOf Try.f59)) w25S0 wt59bX wt59bW where
 lt:=wt59b_lt
 ok:=wt59b_ok
 hook:=wt59b_hooks
 n0:=rfl
 id:=by kernel_rfl
 reck:=by kernel_rfl
 tab:=rfl
 cuts:=rfl
 kt:=by kernel_rfl
def wt59cG:List SDef:=[.fn 201 .i64 [.syms 0],
 .bin .neq (.symi .i64 5) (.int .i64 0),
 .fn 256 .i64 [.symi .i64 2,.symi .i64 3,.symi .u8 4],
 .bin .neq (.symi .i64 7) (.int .i64 0),
 .fn 200 .i64 [.syms 0],
 .fn 255 .i64 [.symi .i64 2,.symi .i64 3,.symi .u8 4]]
def wt59cT:LT:=.n (.n (.n (.e) 14149 9 (.fn 200 .i64 [.syms 0]) (.e)) 14192 5 (.fn 201 .i64 [.syms 0]) (.n (.e) 505011916 6 (.bin .neq (.symi .i64 5) (.int .i64 0)) (.e))) 618774949 10 (.fn 255 .i64 [.symi .i64 2,.symi .i64 3,.symi .u8 4]) (.n (.n (.e) 618774992 7 (.fn 256 .i64 [.symi .i64 2,.symi .i64 3,.symi .u8 4]) (.e)) 707012522 8 (.bin .neq (.symi .i64 7) (.int .i64 0)) (.e))
def wt59cW:Sw:=.node 6 (.dead) (.node 8 (.run (.leaf .ret w25Sx [(0,0)] [(1,.symi .i64 1),(5,.symi .i64 7),(0,.syms 0),(1,.symi .i64 1)] [])) (.dead))
def wt59cKd:KdT:=.n (.n (.n (.n .e (some .i64) .e) (some .i64) .e) (some .i64) (.n (.n .e (some .i64) .e) (some .i64) .e)) none (.n (.n (.n .e none .e) (some .u8) .e) (some .i64) (.n (.n .e (some .i64) .e) none .e))
def wt59cY:Ing:={m:=5,ins:=w52K,G:=wt59cG,T:=wt59cT,tab:=wTab,lsts:=wL,kb:=11,kt:=wt59cKd}
def wt59cX:Ing:={m:=5,ins:=w52K,G:=wt59cG,T:=wt59cT,tab:=wTab,lsts:=wL,kb:=11,kt:=wt59cKd,mh:=symMf (kdX wt59cY) [sf58,sf58b]}
theorem wt59c_lt:okLT 5 wt59cG wt59cT=true:=by kernel_rfl
theorem wt59c_ok:okG wt59cG 5=true:=by kernel_rfl
theorem wt59c_hooks (F:List Fact):Hooks Try.prog (cxOf wt59cX F) where
 val:=fun f args v h=>by simp only [wt59cX,cxOf,noHook,reduceCtorEq] at h
 mem:=fun f args hp v hp' h=>by
  replace h:(symMf (kdX wt59cY) [sf58,sf58b]) (symS (baseOf wt59cX F)) f args hp=some (v,hp'):=h
  exact mem_symF (X:=wt59cX) (tbl:=[sf58,sf58b]) (inv:=fun _=>True) (fun e he=>by
   simp only [List.mem_cons,List.not_mem_nil,or_false] at he
   rcases he with rfl|rfl
   ·exact c58
   ·exact c58b) wt59c_lt rfl (fun _ _ _ _=>trivial) F f args hp v hp' h
 ovl:=fun f k h=>by simp only [wt59cX,cxOf,reduceCtorEq] at h
 atm:=fun k b h=>by simp only [wt59cX,cxOf,List.not_mem_nil] at h
theorem wt59c_seg:SegOk Try.prog wTab 71 (flatC (bodyOf Try.f59)) w25S0 wt59cX wt59cW where
 lt:=wt59c_lt
 ok:=wt59c_ok
 hook:=wt59c_hooks
 n0:=rfl
 id:=by kernel_rfl
 reck:=by kernel_rfl
 tab:=rfl
 cuts:=rfl
 kt:=by kernel_rfl
theorem c59b:SymFOk Try.prog wTab (fun _=>True) sf59b:=
 symF_of_stage Try.func59 rfl (n:=71) rfl (by decide) (by decide) rfl rfl (by kernel_rfl) (fun g w hg _ hE hI hpc hH=>by
  obtain ⟨N,hN,hC⟩:=lst_ok (i:=0) hH rfl
  have hp:=pc208 hg rfl hC (hpc _ (by simp [sf59b,sf25b,sf25]))
  generalize hCC:g.sig.sval 0=C at hC hp
  have r5:g.sig.ival 5=(check (lstE C N)).2:=by
   have h:g.sig.ival 5=IntKind.i64.wrap (g.sig.tab 201 [encB (g.sig.sval 0)]):=eqFn (hE.at 0 _ rfl rfl)
   rw [h,hg,hCC,tab201,decL_of hC,code_w]
  refine Stage.last mixed wt59b_seg ⟨rfl,rfl⟩ (fun σ τ (ag:Agree 5 σ τ) (h:Agree 5 g.sig σ)=>h.trans' ag) (fun τ h=>rows_nil) (fun τ e ht hi ag=> ?_) (pin0 (by kernel_rfl))
  refine segsPw_segs ?_
  have a0:τ.sval 0=C:=by rw [←(ag.val 0 (by decide)).2.2];exact hCC
  have a1:τ.ival 1=N:=by rw [←(ag.val 1 (by decide)).1];exact hN
  have i5:τ.ival 5=IntKind.i64.wrap (τ.tab 201 [encB (τ.sval 0)]):=eqFn (e.at 0 _ rfl rfl)
  have b6:τ.bval 6= !(τ.ival 5==0):=eqB (e.at 1 _ rfl rfl) rfl
  have i5':τ.ival 5=(check (lstE C N)).2:=by rw [i5,ht,a0,tab201,decL_of hC,code_w]
  refine ⟨fun _=> ?_,fun f=> ?_⟩
  ·exact endZ_mem (M:=6) (l:=Lxx) (vs:=[.nilslice,.symi .i64 5]) (by kernel_rfl) rfl rfl hH hg rfl rfl rfl (by kernel_rfl) (by kernel_rfl) ⟨congrArg (AVal.int .i64) (i5'.trans r5.symm),congrArg AVal.str (a0.trans hCC.symm),congrArg (AVal.int .i64) (a1.trans hN.symm),trivial⟩ (by decide) (extS ag.ext.symm) (.inl rfl)
  ·rw [b6,i5'] at f
   simp [hp.1] at f)
theorem c59c:SymFOk Try.prog wTab (fun _=>True) sf59c:=
 symF_of_stage Try.func59 rfl (n:=71) rfl (by decide) (by decide) rfl rfl (by kernel_rfl) (fun g w hg _ hE hI hpc hH=>by
  obtain ⟨N,hN,hC⟩:=lst_ok (i:=0) hH rfl
  have hp:=pc202 hg rfl hC (hpc _ (by simp [sf59c,sf25c,sf25b,sf25]))
  have hq:(AVal.bool (!(g.sig.tab 209 [g.sig.ival 2,g.sig.ival 3,g.sig.ival 4]==0)))=.bool true:=Option.some.inj (hpc (.fnb 209 [.symi .i64 2,.symi .i64 3,.symi .u8 4]) (by simp [sf59c,sf25c,sf25b,sf25]))
  generalize hCC:g.sig.sval 0=C at hC hp
  obtain ⟨hScr,hNb⟩:=hp
  generalize hx:(⟨g.sig.ival 2,g.sig.ival 3,g.sig.ival 4⟩:E3)=x
  have y2:g.sig.ival 2=x.t:=by rw [←hx]
  have y3:g.sig.ival 3=x.k:=by rw [←hx]
  have y4:g.sig.ival 4=x.v:=by rw [←hx]
  rw [bval209 hg y2 y3 y4,AVal.bool.injEq,decide_eq_true_eq] at hq
  have hco:=code_one hq
  have e9:wTab 256 [x.t,x.k,x.v]=(check [x]).2:=rfl
  have r5:g.sig.ival 5=(check [x]).2:=by
   have h:g.sig.ival 5=IntKind.i64.wrap (g.sig.tab 256 [g.sig.ival 2,g.sig.ival 3,g.sig.ival 4]):=eqFn (hE.at 0 _ rfl rfl)
   rw [h,hg,y2,y3,y4,e9,hco.2]
  refine Stage.last mixed wt59c_seg ⟨rfl,rfl⟩ (fun σ τ (ag:Agree 5 σ τ) (h:Agree 5 g.sig σ)=>h.trans' ag) (fun τ h=>rows_nil) (fun τ e ht hi ag=> ?_) (pin0 (by kernel_rfl))
  refine segsPw_segs ?_
  have a0:τ.sval 0=C:=by rw [←(ag.val 0 (by decide)).2.2];exact hCC
  have a1:τ.ival 1=N:=by rw [←(ag.val 1 (by decide)).1];exact hN
  have a2:τ.ival 2=x.t:=by rw [←(ag.val 2 (by decide)).1];exact y2
  have a3:τ.ival 3=x.k:=by rw [←(ag.val 3 (by decide)).1];exact y3
  have a4:τ.ival 4=x.v:=by rw [←(ag.val 4 (by decide)).1];exact y4
  have i5:τ.ival 5=IntKind.i64.wrap (τ.tab 201 [encB (τ.sval 0)]):=eqFn (e.at 0 _ rfl rfl)
  have b6:τ.bval 6= !(τ.ival 5==0):=eqB (e.at 1 _ rfl rfl) rfl
  have i7:τ.ival 7=IntKind.i64.wrap (τ.tab 256 [τ.ival 2,τ.ival 3,τ.ival 4]):=eqFn (e.at 2 _ rfl rfl)
  have b8:τ.bval 8= !(τ.ival 7==0):=eqB (e.at 3 _ rfl rfl) rfl
  have i5':τ.ival 5=0:=by rw [i5,ht,a0,tab201,decL_of hC,check_zero.2 hScr];rfl
  have i7':τ.ival 7=(check [x]).2:=by rw [i7,ht,a2,a3,a4,e9,hco.2]
  refine ⟨fun f=>(by rw [b6,i5'] at f;cases f),fun _=>⟨fun _=> ?_,fun f=> ?_⟩⟩
  ·exact endZ_mem (M:=6) (l:=Lxx) (vs:=[.nilslice,.symi .i64 5]) (by kernel_rfl) rfl rfl hH hg rfl rfl rfl (by kernel_rfl) (by kernel_rfl) ⟨congrArg (AVal.int .i64) (i7'.trans r5.symm),congrArg AVal.str (a0.trans hCC.symm),congrArg (AVal.int .i64) (a1.trans hN.symm),trivial⟩ (by decide) (extS ag.ext.symm) (.inl rfl)
  ·rw [b8,i7'] at f
   simp [hco.1] at f)
def wt30bG:List SDef:=[.fn 200 .i64 [.syms 0],
 .fn 201 .i64 [.syms 0],
 .bin .neq (.symi .i64 3) (.int .i64 0)]
def wt30bT:LT:=.n (.n (.e) 14149 2 (.fn 200 .i64 [.syms 0]) (.e)) 14192 3 (.fn 201 .i64 [.syms 0]) (.n (.e) 303011310 4 (.bin .neq (.symi .i64 3) (.int .i64 0)) (.e))
def wt30bW:Sw:=.node 4 (.run (.leaf .ret w30Sx [(0,0)] [(1,.symi .i64 1),(0,.syms 0),(1,.symi .i64 1)] [])) (.dead)
def wt30bKd:KdT:=.n (.n (.n .e (some .i64) .e) (some .i64) .e) none (.n (.n .e none .e) (some .i64) .e)
def wt30bY:Ing:={m:=2,ins:=w30K,G:=wt30bG,T:=wt30bT,tab:=wTab,lsts:=wL,kb:=5,kt:=wt30bKd}
def wt30bX:Ing:={m:=2,ins:=w30K,G:=wt30bG,T:=wt30bT,tab:=wTab,lsts:=wL,kb:=5,kt:=wt30bKd,mh:=symMf (kdX wt30bY) [sf26]}
theorem wt30b_lt:okLT 2 wt30bG wt30bT=true:=by kernel_rfl
theorem wt30b_ok:okG wt30bG 2=true:=by kernel_rfl
theorem wt30b_hooks (F:List Fact):Hooks Try.prog (cxOf wt30bX F) where
 val:=fun f args v h=>by simp only [wt30bX,cxOf,noHook,reduceCtorEq] at h
 mem:=fun f args hp v hp' h=>by
  replace h:(symMf (kdX wt30bY) [sf26]) (symS (baseOf wt30bX F)) f args hp=some (v,hp'):=h
  exact mem_symF (X:=wt30bX) (tbl:=[sf26]) (inv:=fun _=>True) (fun e he=>by
   simp only [List.mem_cons,List.not_mem_nil,or_false] at he
   rcases he with rfl
   ·exact c26) wt30b_lt rfl (fun _ _ _ _=>trivial) F f args hp v hp' h
 ovl:=fun f k h=>by simp only [wt30bX,cxOf,reduceCtorEq] at h
 atm:=fun k b h=>by simp only [wt30bX,cxOf,List.not_mem_nil] at h
theorem wt30b_seg:SegOk Try.prog wTab 16 (flatC (bodyOf Try.f30)) w30S0 wt30bX wt30bW where
 lt:=wt30b_lt
 ok:=wt30b_ok
 hook:=wt30b_hooks
 n0:=rfl
 id:=by kernel_rfl
 reck:=by kernel_rfl
 tab:=rfl
 cuts:=rfl
 kt:=by kernel_rfl
theorem c30b:SymFOk Try.prog wTab (fun _=>True) sf30b:=
 symF_of_stage Try.func30 rfl (n:=16) rfl (by decide) (by decide) rfl rfl (by kernel_rfl) (fun g w hg _ hE hI hpc hH=>by
  obtain ⟨N,hN,hC⟩:=lst_ok (i:=0) hH rfl
  have hp:=pc208 hg rfl hC (hpc _ (by simp [sf30b,sf30]))
  generalize hCC:g.sig.sval 0=C at hC hp
  refine Stage.last mixed wt30b_seg ⟨rfl,rfl⟩ (fun σ τ (ag:Agree 2 σ τ) (h:Agree 2 g.sig σ)=>h.trans' ag) (fun τ h=>rows_nil) (fun τ e ht hi ag=> ?_) (pin0 (by kernel_rfl))
  refine segsPw_segs ?_
  have a0:τ.sval 0=C:=by rw [←(ag.val 0 (by decide)).2.2];exact hCC
  have a1:τ.ival 1=N:=by rw [←(ag.val 1 (by decide)).1];exact hN
  have i2:τ.ival 2=IntKind.i64.wrap (τ.tab 200 [encB (τ.sval 0)]):=eqFn (e.at 0 _ rfl rfl)
  have i3:τ.ival 3=IntKind.i64.wrap (τ.tab 201 [encB (τ.sval 0)]):=eqFn (e.at 1 _ rfl rfl)
  have b4:τ.bval 4= !(τ.ival 3==0):=eqB (e.at 2 _ rfl rfl) rfl
  have i3':τ.ival 3=(check (lstE C N)).2:=by rw [i3,ht,a0,tab201,decL_of hC,code_w]
  refine ⟨fun _=> ?_,fun f=> ?_⟩
  ·exact endZ_mem (M:=2) (l:=Lx1) (vs:=[.nilptr]) (by kernel_rfl) rfl rfl hH hg rfl rfl rfl (by kernel_rfl) (by kernel_rfl) ⟨congrArg AVal.str (a0.trans hCC.symm),congrArg (AVal.int .i64) (a1.trans hN.symm),trivial⟩ (by decide) (extS ag.ext.symm) (.inl rfl)
  ·rw [b4,i3'] at f
   simp [hp.1] at f)
def wt29aG:List SDef:=[.fnb 202 [.syms 0],
 .fnb 205 [.symi .i64 2,.symi .i64 3,.symi .u8 4],
 .fnb 207 [.syms 0],
 .fn 200 .i64 [.syms 0],
 .fn 201 .i64 [.syms 0],
 .fn 253 .i64 [.syms 0,.symi .i64 2,.symi .i64 3,.symi .u8 4],
 .sop (.fs 252) [.syms 0,.symi .i64 2,.symi .i64 3,.symi .u8 4],
 .sop (.fs 257) [.syms 0,.symi .i64 2,.symi .i64 3,.symi .u8 4],
 .fnb 206 [.syms 12,.syms 13],
 .fn 210 .u8 [.syms 0,.symi .i64 5],
 .fn 211 .u8 [.syms 0,.symi .i64 5],
 .fnb 212 [.syms 0,.symi .i64 5],
 .fn 213 .u8 [.syms 0,.symi .i64 5],
 .sop (.fs 220) [.syms 0,.int .i64 0,.symi .i64 1,.symi .i64 5],
 .fn 221 .i64 [.syms 0,.int .i64 0,.symi .i64 1,.symi .i64 5],
 .fnb 206 [.syms 19,.syms 19],
 .bin .neq (.symi .i64 10) (.int .i64 0)]
def wt29aT:LT:=.n (.n (.n (.n (.n (.e) 14149 9 (.fn 200 .i64 [.syms 0]) (.e)) 14192 10 (.fn 201 .i64 [.syms 0]) (.e)) 16519 6 (.fnb 202 [.syms 0]) (.n (.e) 16784 8 (.fnb 207 [.syms 0]) (.e))) 449982997 20 (.fn 221 .i64 [.syms 0,.int .i64 0,.symi .i64 1,.symi .i64 5]) (.n (.n (.e) 621152131 21 (.fnb 206 [.syms 19,.syms 19]) (.e)) 630722189 7 (.fnb 205 [.symi .i64 2,.symi .i64 3,.symi .u8 4]) (.n (.e) 834126192 17 (.fnb 212 [.syms 0,.symi .i64 5]) (.e)))) 852531435 19 (.sop (.fs 220) [.syms 0,.int .i64 0,.symi .i64 1,.symi .i64 5]) (.n (.n (.n (.n (.e) 928083355 11 (.fn 253 .i64 [.syms 0,.symi .i64 2,.symi .i64 3,.symi .u8 4]) (.e)) 977856621 15 (.fn 210 .u8 [.syms 0,.symi .i64 5]) (.e)) 977856664 16 (.fn 211 .u8 [.syms 0,.symi .i64 5]) (.n (.e) 977856750 18 (.fn 213 .u8 [.syms 0,.symi .i64 5]) (.e))) 1003044257 12 (.sop (.fs 252) [.syms 0,.symi .i64 2,.symi .i64 3,.symi .u8 4]) (.n (.n (.e) 1003049257 13 (.sop (.fs 257) [.syms 0,.symi .i64 2,.symi .i64 3,.symi .u8 4]) (.e)) 1010013431 22 (.bin .neq (.symi .i64 10) (.int .i64 0)) (.n (.e) 1022719489 14 (.fnb 206 [.syms 12,.syms 13]) (.e))))
def wt29aW:Sw:=.node 6 (.node 7 (.node 8 (.node 14 (.node 21 (.node 22 (.dead) (.run (.leaf .ret w29Se [(0,0)] [(1,.symi .i64 1),(0,.syms 0),(1,.symi .i64 1)] []))) (.dead)) (.dead)) (.dead)) (.dead)) (.dead)
def wt29aKd:KdT:=.n (.n (.n (.n (.n .e (some .u8) .e) none .e) (some .i64) (.n (.n .e none .e) (some .i64) .e)) (some .i64) (.n (.n (.n .e none .e) (some .i64) .e) (some .i64) (.n (.n .e none .e) none .e))) none (.n (.n (.n (.n .e (some .u8) .e) none .e) (some .u8) (.n (.n .e (some .i64) .e) none .e)) (some .i64) (.n (.n (.n .e (some .u8) .e) (some .i64) .e) none (.n (.n .e none .e) none .e)))
def wt29aY:Ing:={m:=6,ins:=w29K,G:=wt29aG,T:=wt29aT,tab:=wTab,lsts:=wL,kb:=23,kt:=wt29aKd}
def wt29aX:Ing:={m:=6,ins:=w29K,G:=wt29aG,T:=wt29aT,tab:=wTab,lsts:=wL,kb:=23,kt:=wt29aKd,mh:=symMf (kdX wt29aY) [sf26,sf58,sf25,sf59,sf27,sf28,sf33,sf35,sf60,sf30]}
theorem wt29a_lt:okLT 6 wt29aG wt29aT=true:=by kernel_rfl
theorem wt29a_ok:okG wt29aG 6=true:=by kernel_rfl
theorem wt29a_hooks (F:List Fact):Hooks Try.prog (cxOf wt29aX F) where
 val:=fun f args v h=>by simp only [wt29aX,cxOf,noHook,reduceCtorEq] at h
 mem:=fun f args hp v hp' h=>by
  replace h:(symMf (kdX wt29aY) [sf26,sf58,sf25,sf59,sf27,sf28,sf33,sf35,sf60,sf30]) (symS (baseOf wt29aX F)) f args hp=some (v,hp'):=h
  exact mem_symF (X:=wt29aX) (tbl:=[sf26,sf58,sf25,sf59,sf27,sf28,sf33,sf35,sf60,sf30]) (inv:=fun _=>True) (fun e he=>by
   simp only [List.mem_cons,List.not_mem_nil,or_false] at he
   rcases he with rfl|rfl|rfl|rfl|rfl|rfl|rfl|rfl|rfl|rfl
   ·exact c26
   ·exact c58
   ·exact c25
   ·exact c59
   ·exact c27
   ·exact c28
   ·exact c33
   ·exact c35
   ·exact c60
   ·exact c30) wt29a_lt rfl (fun _ _ _ _=>trivial) F f args hp v hp' h
 ovl:=fun f k h=>by simp only [wt29aX,cxOf,reduceCtorEq] at h
 atm:=fun k b h=>by simp only [wt29aX,cxOf,List.not_mem_nil] at h
theorem wt29a_seg:SegOk Try.prog wTab 81 (flatC (bodyOf Try.f29)) w29S0 wt29aX wt29aW where
 lt:=wt29a_lt
 ok:=wt29a_ok
 hook:=wt29a_hooks
 n0:=rfl
 id:=by kernel_rfl
 reck:=by kernel_rfl
 tab:=rfl
 cuts:=rfl
 kt:=by kernel_rfl
theorem c29a:SymFOk Try.prog wTab (fun _=>True) sf29a:=
 symF_of_stage Try.func29 rfl (n:=81) rfl (by decide) (by decide) rfl rfl (by kernel_rfl) (fun g w hg _ hE hI hpc hH=>by
  obtain ⟨N,hN,hC⟩:=lst_ok (i:=0) hH rfl
  have hp:=pc202 hg rfl hC (hpc _ (by simp [sf29a]))
  have hq:(AVal.bool (!(g.sig.tab 205 [g.sig.ival 2,g.sig.ival 3,g.sig.ival 4]==0)))=.bool true:=Option.some.inj (hpc (.fnb 205 [.symi .i64 2,.symi .i64 3,.symi .u8 4]) (by simp [sf29a]))
  generalize hCC:g.sig.sval 0=C at hC hp
  obtain ⟨hScr,hNb⟩:=hp
  have hv:okV (⟨g.sig.ival 2,g.sig.ival 3,g.sig.ival 4⟩:E3):=⟨hI 2 .i64 (by decide) rfl,hI 3 .i64 (by decide) rfl,hI 4 .u8 (by decide) rfl⟩
  generalize hx:(⟨g.sig.ival 2,g.sig.ival 3,g.sig.ival 4⟩:E3)=x at hv
  have y2:g.sig.ival 2=x.t:=by rw [←hx]
  have y3:g.sig.ival 3=x.k:=by rw [←hx]
  have y4:g.sig.ival 4=x.v:=by rw [←hx]
  rw [bval205 hg y2 y3 y4,AVal.bool.injEq,decide_eq_true_eq] at hq
  refine Stage.last mixed wt29a_seg ⟨rfl,rfl⟩ (fun σ τ (ag:Agree 6 σ τ) (h:Agree 6 g.sig σ)=>h.trans' ag) (fun τ h=>rows_nil) (fun τ e ht hi ag=> ?_) (pin0 (by kernel_rfl))
  refine segsPw_segs ?_
  have a0:τ.sval 0=C:=by rw [←(ag.val 0 (by decide)).2.2];exact hCC
  have a1:τ.ival 1=N:=by rw [←(ag.val 1 (by decide)).1];exact hN
  have a2:τ.ival 2=x.t:=by rw [←(ag.val 2 (by decide)).1];exact y2
  have a3:τ.ival 3=x.k:=by rw [←(ag.val 3 (by decide)).1];exact y3
  have a4:τ.ival 4=x.v:=by rw [←(ag.val 4 (by decide)).1];exact y4
  have b6:τ.bval 6= !(τ.tab 202 [encB (τ.sval 0)]==0):=eqFnb (e.at 0 _ rfl rfl)
  have b7:τ.bval 7= !(τ.tab 205 [τ.ival 2,τ.ival 3,τ.ival 4]==0):=eqFnb (e.at 1 _ rfl rfl)
  have b8:τ.bval 8= !(τ.tab 207 [encB (τ.sval 0)]==0):=eqFnb (e.at 2 _ rfl rfl)
  have i9:τ.ival 9=IntKind.i64.wrap (τ.tab 200 [encB (τ.sval 0)]):=eqFn (e.at 3 _ rfl rfl)
  have i10:τ.ival 10=IntKind.i64.wrap (τ.tab 201 [encB (τ.sval 0)]):=eqFn (e.at 4 _ rfl rfl)
  have i11:τ.ival 11=IntKind.i64.wrap (τ.tab 253 [encB (τ.sval 0),τ.ival 2,τ.ival 3,τ.ival 4]):=eqFn (e.at 5 _ rfl rfl)
  have s12:τ.sval 12=decS (τ.tab 252 [encB (τ.sval 0),τ.ival 2,τ.ival 3,τ.ival 4]):=eqFs (e.at 6 _ rfl rfl)
  have s13:τ.sval 13=decS (τ.tab 257 [encB (τ.sval 0),τ.ival 2,τ.ival 3,τ.ival 4]):=eqFs (e.at 7 _ rfl rfl)
  have b14:τ.bval 14= !(τ.tab 206 [encB (τ.sval 12),encB (τ.sval 13)]==0):=eqFnb (e.at 8 _ rfl rfl)
  have i15:τ.ival 15=IntKind.u8.wrap (τ.tab 210 [encB (τ.sval 0),τ.ival 5]):=eqFn (e.at 9 _ rfl rfl)
  have i16:τ.ival 16=IntKind.u8.wrap (τ.tab 211 [encB (τ.sval 0),τ.ival 5]):=eqFn (e.at 10 _ rfl rfl)
  have b17:τ.bval 17= !(τ.tab 212 [encB (τ.sval 0),τ.ival 5]==0):=eqFnb (e.at 11 _ rfl rfl)
  have i18:τ.ival 18=IntKind.u8.wrap (τ.tab 213 [encB (τ.sval 0),τ.ival 5]):=eqFn (e.at 12 _ rfl rfl)
  have s19:τ.sval 19=decS (τ.tab 220 [encB (τ.sval 0),0,τ.ival 1,τ.ival 5]):=eqFs (e.at 13 _ rfl rfl)
  have i20:τ.ival 20=IntKind.i64.wrap (τ.tab 221 [encB (τ.sval 0),0,τ.ival 1,τ.ival 5]):=eqFn (e.at 14 _ rfl rfl)
  have b21:τ.bval 21= !(τ.tab 206 [encB (τ.sval 19),encB (τ.sval 19)]==0):=eqFnb (e.at 15 _ rfl rfl)
  have b22:τ.bval 22= !(τ.ival 10==0):=eqB (e.at 16 _ rfl rfl) rfl
  have fin:EndZ wTab 81 (fraOf g w 1) (bodyPost Try.prog Try.f29 (MemR wTab sf29a g w)) .ret w29Se (asgS τ ([(1,.symi .i64 1),(0,.syms 0),(1,.symi .i64 1)]++[])):=
   endZ_mem (M:=6) (l:=Lx1) (vs:=[.bool true]) (by kernel_rfl) rfl rfl hH hg rfl rfl rfl (by kernel_rfl) (by kernel_rfl) ⟨congrArg AVal.str (a0.trans hCC.symm),congrArg (AVal.int .i64) (a1.trans hN.symm),trivial⟩ (by decide) (extS ag.ext.symm) (.inl rfl)
  have d6:τ.bval 6=true:=b6.trans (bval202 ht a0 hC ⟨hScr,hNb⟩)
  have d7:τ.bval 7=true:=b7.trans ((bval205 ht a2 a3 a4).trans (decide_eq_true hq))
  have d8:τ.bval 8=true:=b8.trans (bval207 ht a0 hC hNb)
  have d10:τ.ival 10=0:=by rw [i10,ht,a0,tab201,decL_of hC,check_zero.2 hScr];rfl
  obtain ⟨hU,hUl⟩:=setS_lst (x:=x) hC rfl hScr hv
  have e12:wTab 252 [encB C,x.t,x.k,x.v]=encB (setS (decS (encB C)) (decL (encB C)) ⟨x.t,x.k,x.v⟩):=rfl
  have e13:wTab 257 [encB C,x.t,x.k,x.v]=encB (Wt.encL (set (decL (encB C)) ⟨x.t,x.k,x.v⟩)):=rfl
  have f12:τ.sval 12=setS C (lstE C N) x:=by rw [s12,ht,a0,a2,a3,a4,e12,decS_enc,decS_enc,decL_of hC]
  have f13:τ.sval 13=Wt.encL (set (lstE C N) x):=by rw [s13,ht,a0,a2,a3,a4,e13,decS_enc,decL_of hC]
  have e14: ∀A B:ByteArray,wTab 206 [encB A,encB B]=b01 (decide (decL (encB A)=decL (encB B))):=fun _ _=>rfl
  have d14:τ.bval 14=true:=by
   rw [b14,ht,f12,f13,e14,b01_ne,decL_of hU,hUl,decL_enc (set_okV lstE_ok hv),decide_eq_true_eq]
  have d21:τ.bval 21=true:=by rw [b21,ht];exact same206 _
  refine ⟨fun _=>⟨fun _=>⟨fun _=>⟨fun _=>⟨fun _=>⟨fun f=>(by rw [b22,d10] at f;cases f),fun _=>fin⟩,fun f=>(by rw [d21] at f;cases f)⟩,fun f=>(by rw [d14] at f;cases f)⟩,fun f=>(by rw [d8] at f;cases f)⟩,fun f=>(by rw [d7] at f;cases f)⟩,fun f=>(by rw [d6] at f;cases f)⟩)
def wt29bG:List SDef:=[.fnb 208 [.syms 0],
 .fnb 207 [.syms 0],
 .fn 200 .i64 [.syms 0],
 .fn 201 .i64 [.syms 0],
 .fn 210 .u8 [.syms 0,.symi .i64 5],
 .fn 211 .u8 [.syms 0,.symi .i64 5],
 .fnb 212 [.syms 0,.symi .i64 5],
 .fn 213 .u8 [.syms 0,.symi .i64 5],
 .sop (.fs 220) [.syms 0,.int .i64 0,.symi .i64 1,.symi .i64 5],
 .fn 221 .i64 [.syms 0,.int .i64 0,.symi .i64 1,.symi .i64 5],
 .fnb 206 [.syms 14,.syms 14],
 .bin .neq (.symi .i64 9) (.int .i64 0)]
def wt29bT:LT:=.n (.n (.n (.n (.e) 14149 8 (.fn 200 .i64 [.syms 0]) (.e)) 14192 9 (.fn 201 .i64 [.syms 0]) (.n (.e) 16784 7 (.fnb 207 [.syms 0]) (.e))) 16837 6 (.fnb 208 [.syms 0]) (.n (.n (.e) 175177631 16 (.fnb 206 [.syms 14,.syms 14]) (.e)) 449982997 15 (.fn 221 .i64 [.syms 0,.int .i64 0,.symi .i64 1,.symi .i64 5]) (.e))) 834126192 12 (.fnb 212 [.syms 0,.symi .i64 5]) (.n (.n (.n (.e) 852531435 14 (.sop (.fs 220) [.syms 0,.int .i64 0,.symi .i64 1,.symi .i64 5]) (.e)) 909013128 17 (.bin .neq (.symi .i64 9) (.int .i64 0)) (.e)) 977856621 10 (.fn 210 .u8 [.syms 0,.symi .i64 5]) (.n (.n (.e) 977856664 11 (.fn 211 .u8 [.syms 0,.symi .i64 5]) (.e)) 977856750 13 (.fn 213 .u8 [.syms 0,.symi .i64 5]) (.e)))
def wt29bW:Sw:=.node 6 (.node 7 (.node 12 (.dead) (.node 16 (.node 17 (.run (.leaf .ret w29Se [(0,0)] [(1,.symi .i64 1),(0,.syms 0),(1,.symi .i64 1)] [])) (.dead)) (.dead))) (.dead)) (.dead)
def wt29bKd:KdT:=.n (.n (.n (.n (.n .e (some .i64) .e) none .e) (some .i64) (.n .e (some .u8) .e)) (some .i64) (.n (.n (.n .e none .e) (some .i64) .e) (some .i64) (.n .e (some .u8) .e))) none (.n (.n (.n (.n .e none .e) (some .i64) .e) (some .u8) (.n .e none .e)) (some .i64) (.n (.n .e (some .u8) .e) none (.n .e none .e)))
def wt29bY:Ing:={m:=6,ins:=w29K,G:=wt29bG,T:=wt29bT,tab:=wTab,lsts:=wL,kb:=18,kt:=wt29bKd}
def wt29bX:Ing:={m:=6,ins:=w29K,G:=wt29bG,T:=wt29bT,tab:=wTab,lsts:=wL,kb:=18,kt:=wt29bKd,mh:=symMf (kdX wt29bY) [sf26,sf58,sf25b,sf59b,sf27,sf28,sf33,sf35,sf60,sf30b]}
theorem wt29b_lt:okLT 6 wt29bG wt29bT=true:=by kernel_rfl
theorem wt29b_ok:okG wt29bG 6=true:=by kernel_rfl
theorem wt29b_hooks (F:List Fact):Hooks Try.prog (cxOf wt29bX F) where
 val:=fun f args v h=>by simp only [wt29bX,cxOf,noHook,reduceCtorEq] at h
 mem:=fun f args hp v hp' h=>by
  replace h:(symMf (kdX wt29bY) [sf26,sf58,sf25b,sf59b,sf27,sf28,sf33,sf35,sf60,sf30b]) (symS (baseOf wt29bX F)) f args hp=some (v,hp'):=h
  exact mem_symF (X:=wt29bX) (tbl:=[sf26,sf58,sf25b,sf59b,sf27,sf28,sf33,sf35,sf60,sf30b]) (inv:=fun _=>True) (fun e he=>by
   simp only [List.mem_cons,List.not_mem_nil,or_false] at he
   rcases he with rfl|rfl|rfl|rfl|rfl|rfl|rfl|rfl|rfl|rfl
   ·exact c26
   ·exact c58
   ·exact c25b
   ·exact c59b
   ·exact c27
   ·exact c28
   ·exact c33
   ·exact c35
   ·exact c60
   ·exact c30b) wt29b_lt rfl (fun _ _ _ _=>trivial) F f args hp v hp' h
 ovl:=fun f k h=>by simp only [wt29bX,cxOf,reduceCtorEq] at h
 atm:=fun k b h=>by simp only [wt29bX,cxOf,List.not_mem_nil] at h
theorem wt29b_seg:SegOk Try.prog wTab 81 (flatC (bodyOf Try.f29)) w29S0 wt29bX wt29bW where
 lt:=wt29b_lt
 ok:=wt29b_ok
 hook:=wt29b_hooks
 n0:=rfl
 id:=by kernel_rfl
 reck:=by kernel_rfl
 tab:=rfl
 cuts:=rfl
 kt:=by kernel_rfl
theorem c29b:SymFOk Try.prog wTab (fun _=>True) sf29b:=
 symF_of_stage Try.func29 rfl (n:=81) rfl (by decide) (by decide) rfl rfl (by kernel_rfl) (fun g w hg _ hE hI hpc hH=>by
  obtain ⟨N,hN,hC⟩:=lst_ok (i:=0) hH rfl
  have hp:=pc208 hg rfl hC (hpc _ (by simp [sf29b,sf29a]))
  generalize hCC:g.sig.sval 0=C at hC hp
  refine Stage.last mixed wt29b_seg ⟨rfl,rfl⟩ (fun σ τ (ag:Agree 6 σ τ) (h:Agree 6 g.sig σ)=>h.trans' ag) (fun τ h=>rows_nil) (fun τ e ht hi ag=> ?_) (pin0 (by kernel_rfl))
  refine segsPw_segs ?_
  have a0:τ.sval 0=C:=by rw [←(ag.val 0 (by decide)).2.2];exact hCC
  have a1:τ.ival 1=N:=by rw [←(ag.val 1 (by decide)).1];exact hN
  have b6:τ.bval 6= !(τ.tab 208 [encB (τ.sval 0)]==0):=eqFnb (e.at 0 _ rfl rfl)
  have b7:τ.bval 7= !(τ.tab 207 [encB (τ.sval 0)]==0):=eqFnb (e.at 1 _ rfl rfl)
  have i8:τ.ival 8=IntKind.i64.wrap (τ.tab 200 [encB (τ.sval 0)]):=eqFn (e.at 2 _ rfl rfl)
  have i9:τ.ival 9=IntKind.i64.wrap (τ.tab 201 [encB (τ.sval 0)]):=eqFn (e.at 3 _ rfl rfl)
  have i10:τ.ival 10=IntKind.u8.wrap (τ.tab 210 [encB (τ.sval 0),τ.ival 5]):=eqFn (e.at 4 _ rfl rfl)
  have i11:τ.ival 11=IntKind.u8.wrap (τ.tab 211 [encB (τ.sval 0),τ.ival 5]):=eqFn (e.at 5 _ rfl rfl)
  have b12:τ.bval 12= !(τ.tab 212 [encB (τ.sval 0),τ.ival 5]==0):=eqFnb (e.at 6 _ rfl rfl)
  have i13:τ.ival 13=IntKind.u8.wrap (τ.tab 213 [encB (τ.sval 0),τ.ival 5]):=eqFn (e.at 7 _ rfl rfl)
  have s14:τ.sval 14=decS (τ.tab 220 [encB (τ.sval 0),0,τ.ival 1,τ.ival 5]):=eqFs (e.at 8 _ rfl rfl)
  have i15:τ.ival 15=IntKind.i64.wrap (τ.tab 221 [encB (τ.sval 0),0,τ.ival 1,τ.ival 5]):=eqFn (e.at 9 _ rfl rfl)
  have b16:τ.bval 16= !(τ.tab 206 [encB (τ.sval 14),encB (τ.sval 14)]==0):=eqFnb (e.at 10 _ rfl rfl)
  have b17:τ.bval 17= !(τ.ival 9==0):=eqB (e.at 11 _ rfl rfl) rfl
  have fin:EndZ wTab 81 (fraOf g w 1) (bodyPost Try.prog Try.f29 (MemR wTab sf29b g w)) .ret w29Se (asgS τ ([(1,.symi .i64 1),(0,.syms 0),(1,.symi .i64 1)]++[])):=
   endZ_mem (M:=6) (l:=Lx1) (vs:=[.bool true]) (by kernel_rfl) rfl rfl hH hg rfl rfl rfl (by kernel_rfl) (by kernel_rfl) ⟨congrArg AVal.str (a0.trans hCC.symm),congrArg (AVal.int .i64) (a1.trans hN.symm),trivial⟩ (by decide) (extS ag.ext.symm) (.inl rfl)
  have d6:τ.bval 6=true:=b6.trans (bval208 ht a0 hC hp)
  have d7:τ.bval 7=true:=b7.trans (bval207 ht a0 hC hp.2)
  have d9:τ.ival 9=(check (lstE C N)).2:=by rw [i9,ht,a0,tab201,decL_of hC,code_w]
  have d12:τ.bval 12=false:=by
   have e0:wTab 212 [encB C,τ.ival 5]=b01 (at_ (decL (encB C)) (τ.ival 5)).isb:=rfl
   have hat:at_ (lstE C N) (τ.ival 5)=.zero:=by unfold at_;rw [if_neg (fun h=>hp.1 h.1)]
   rw [b12,ht,a0,e0,b01_ne,decL_of hC,hat];rfl
  have d16:τ.bval 16=true:=by rw [b16,ht];exact same206 _
  have d17:τ.bval 17=true:=by rw [b17,d9];simp [hp.1]
  refine ⟨fun _=>⟨fun _=>⟨fun f=>(by rw [d12] at f;cases f),fun _=>⟨fun _=>⟨fun _=>fin,fun f=>(by rw [d17] at f;cases f)⟩,fun f=>(by rw [d16] at f;cases f)⟩⟩,fun f=>(by rw [d7] at f;cases f)⟩,fun f=>(by rw [d6] at f;cases f)⟩)
def wt29cG:List SDef:=[.fnb 202 [.syms 0],
 .fnb 209 [.symi .i64 2,.symi .i64 3,.symi .u8 4],
 .fnb 207 [.syms 0],
 .fn 200 .i64 [.syms 0],
 .fn 201 .i64 [.syms 0],
 .fn 256 .i64 [.symi .i64 2,.symi .i64 3,.symi .u8 4],
 .fn 210 .u8 [.syms 0,.symi .i64 5],
 .fn 211 .u8 [.syms 0,.symi .i64 5],
 .fnb 212 [.syms 0,.symi .i64 5],
 .fn 213 .u8 [.syms 0,.symi .i64 5],
 .sop (.fs 220) [.syms 0,.int .i64 0,.symi .i64 1,.symi .i64 5],
 .fn 221 .i64 [.syms 0,.int .i64 0,.symi .i64 1,.symi .i64 5],
 .fnb 206 [.syms 16,.syms 16],
 .bin .neq (.symi .i64 10) (.int .i64 0)]
def wt29cT:LT:=.n (.n (.n (.n (.e) 14149 9 (.fn 200 .i64 [.syms 0]) (.e)) 14192 10 (.fn 201 .i64 [.syms 0]) (.n (.e) 16519 6 (.fnb 202 [.syms 0]) (.e))) 16784 8 (.fnb 207 [.syms 0]) (.n (.n (.e) 353567431 18 (.fnb 206 [.syms 16,.syms 16]) (.e)) 449982997 17 (.fn 221 .i64 [.syms 0,.int .i64 0,.symi .i64 1,.symi .i64 5]) (.n (.e) 618774992 11 (.fn 256 .i64 [.symi .i64 2,.symi .i64 3,.symi .u8 4]) (.e)))) 630722401 7 (.fnb 209 [.symi .i64 2,.symi .i64 3,.symi .u8 4]) (.n (.n (.n (.e) 834126192 14 (.fnb 212 [.syms 0,.symi .i64 5]) (.e)) 852531435 16 (.sop (.fs 220) [.syms 0,.int .i64 0,.symi .i64 1,.symi .i64 5]) (.n (.e) 977856621 12 (.fn 210 .u8 [.syms 0,.symi .i64 5]) (.e))) 977856664 13 (.fn 211 .u8 [.syms 0,.symi .i64 5]) (.n (.n (.e) 977856750 15 (.fn 213 .u8 [.syms 0,.symi .i64 5]) (.e)) 1010013431 19 (.bin .neq (.symi .i64 10) (.int .i64 0)) (.e)))
def wt29cW:Sw:=.node 6 (.node 7 (.node 8 (.node 18 (.node 19 (.dead) (.run (.leaf .ret w29Se [(0,0)] [(1,.symi .i64 1),(0,.syms 0),(1,.symi .i64 1)] []))) (.dead)) (.dead)) (.dead)) (.dead)
def wt29cKd:KdT:=.n (.n (.n (.n (.n .e (some .u8) .e) none .e) (some .i64) (.n (.n .e none .e) (some .i64) .e)) (some .i64) (.n (.n (.n .e (some .i64) .e) (some .i64) .e) (some .i64) (.n .e (some .u8) .e))) none (.n (.n (.n (.n .e none .e) none .e) (some .u8) (.n .e (some .u8) .e)) (some .i64) (.n (.n (.n .e none .e) (some .i64) .e) none (.n .e none .e)))
def wt29cY:Ing:={m:=6,ins:=w29K,G:=wt29cG,T:=wt29cT,tab:=wTab,lsts:=wL,kb:=20,kt:=wt29cKd}
def wt29cX:Ing:={m:=6,ins:=w29K,G:=wt29cG,T:=wt29cT,tab:=wTab,lsts:=wL,kb:=20,kt:=wt29cKd,mh:=symMf (kdX wt29cY) [sf26,sf58,sf25c,sf59c,sf27,sf28,sf33,sf35,sf60,sf30]}
theorem wt29c_lt:okLT 6 wt29cG wt29cT=true:=by kernel_rfl
theorem wt29c_ok:okG wt29cG 6=true:=by kernel_rfl
theorem wt29c_hooks (F:List Fact):Hooks Try.prog (cxOf wt29cX F) where
 val:=fun f args v h=>by simp only [wt29cX,cxOf,noHook,reduceCtorEq] at h
 mem:=fun f args hp v hp' h=>by
  replace h:(symMf (kdX wt29cY) [sf26,sf58,sf25c,sf59c,sf27,sf28,sf33,sf35,sf60,sf30]) (symS (baseOf wt29cX F)) f args hp=some (v,hp'):=h
  exact mem_symF (X:=wt29cX) (tbl:=[sf26,sf58,sf25c,sf59c,sf27,sf28,sf33,sf35,sf60,sf30]) (inv:=fun _=>True) (fun e he=>by
   simp only [List.mem_cons,List.not_mem_nil,or_false] at he
   rcases he with rfl|rfl|rfl|rfl|rfl|rfl|rfl|rfl|rfl|rfl
   ·exact c26
   ·exact c58
   ·exact c25c
   ·exact c59c
   ·exact c27
   ·exact c28
   ·exact c33
   ·exact c35
   ·exact c60
   ·exact c30) wt29c_lt rfl (fun _ _ _ _=>trivial) F f args hp v hp' h
 ovl:=fun f k h=>by simp only [wt29cX,cxOf,reduceCtorEq] at h
 atm:=fun k b h=>by simp only [wt29cX,cxOf,List.not_mem_nil] at h
theorem wt29c_seg:SegOk Try.prog wTab 81 (flatC (bodyOf Try.f29)) w29S0 wt29cX wt29cW where
 lt:=wt29c_lt
 ok:=wt29c_ok
 hook:=wt29c_hooks
 n0:=rfl
 id:=by kernel_rfl
 reck:=by kernel_rfl
 tab:=rfl
 cuts:=rfl
 kt:=by kernel_rfl
theorem c29c:SymFOk Try.prog wTab (fun _=>True) sf29c:=
 symF_of_stage Try.func29 rfl (n:=81) rfl (by decide) (by decide) rfl rfl (by kernel_rfl) (fun g w hg _ hE hI hpc hH=>by
  obtain ⟨N,hN,hC⟩:=lst_ok (i:=0) hH rfl
  have hp:=pc202 hg rfl hC (hpc _ (by simp [sf29c,sf29a]))
  have hq:(AVal.bool (!(g.sig.tab 209 [g.sig.ival 2,g.sig.ival 3,g.sig.ival 4]==0)))=.bool true:=Option.some.inj (hpc (.fnb 209 [.symi .i64 2,.symi .i64 3,.symi .u8 4]) (by simp [sf29c,sf29a]))
  generalize hCC:g.sig.sval 0=C at hC hp
  obtain ⟨hScr,hNb⟩:=hp
  have hv:okV (⟨g.sig.ival 2,g.sig.ival 3,g.sig.ival 4⟩:E3):=⟨hI 2 .i64 (by decide) rfl,hI 3 .i64 (by decide) rfl,hI 4 .u8 (by decide) rfl⟩
  generalize hx:(⟨g.sig.ival 2,g.sig.ival 3,g.sig.ival 4⟩:E3)=x at hv
  have y2:g.sig.ival 2=x.t:=by rw [←hx]
  have y3:g.sig.ival 3=x.k:=by rw [←hx]
  have y4:g.sig.ival 4=x.v:=by rw [←hx]
  rw [bval209 hg y2 y3 y4,AVal.bool.injEq,decide_eq_true_eq] at hq
  refine Stage.last mixed wt29c_seg ⟨rfl,rfl⟩ (fun σ τ (ag:Agree 6 σ τ) (h:Agree 6 g.sig σ)=>h.trans' ag) (fun τ h=>rows_nil) (fun τ e ht hi ag=> ?_) (pin0 (by kernel_rfl))
  refine segsPw_segs ?_
  have a0:τ.sval 0=C:=by rw [←(ag.val 0 (by decide)).2.2];exact hCC
  have a1:τ.ival 1=N:=by rw [←(ag.val 1 (by decide)).1];exact hN
  have a2:τ.ival 2=x.t:=by rw [←(ag.val 2 (by decide)).1];exact y2
  have a3:τ.ival 3=x.k:=by rw [←(ag.val 3 (by decide)).1];exact y3
  have a4:τ.ival 4=x.v:=by rw [←(ag.val 4 (by decide)).1];exact y4
  have b6:τ.bval 6= !(τ.tab 202 [encB (τ.sval 0)]==0):=eqFnb (e.at 0 _ rfl rfl)
  have b7:τ.bval 7= !(τ.tab 209 [τ.ival 2,τ.ival 3,τ.ival 4]==0):=eqFnb (e.at 1 _ rfl rfl)
  have b8:τ.bval 8= !(τ.tab 207 [encB (τ.sval 0)]==0):=eqFnb (e.at 2 _ rfl rfl)
  have i9:τ.ival 9=IntKind.i64.wrap (τ.tab 200 [encB (τ.sval 0)]):=eqFn (e.at 3 _ rfl rfl)
  have i10:τ.ival 10=IntKind.i64.wrap (τ.tab 201 [encB (τ.sval 0)]):=eqFn (e.at 4 _ rfl rfl)
  have i11:τ.ival 11=IntKind.i64.wrap (τ.tab 256 [τ.ival 2,τ.ival 3,τ.ival 4]):=eqFn (e.at 5 _ rfl rfl)
  have i12:τ.ival 12=IntKind.u8.wrap (τ.tab 210 [encB (τ.sval 0),τ.ival 5]):=eqFn (e.at 6 _ rfl rfl)
  have i13:τ.ival 13=IntKind.u8.wrap (τ.tab 211 [encB (τ.sval 0),τ.ival 5]):=eqFn (e.at 7 _ rfl rfl)
  have b14:τ.bval 14= !(τ.tab 212 [encB (τ.sval 0),τ.ival 5]==0):=eqFnb (e.at 8 _ rfl rfl)
  have i15:τ.ival 15=IntKind.u8.wrap (τ.tab 213 [encB (τ.sval 0),τ.ival 5]):=eqFn (e.at 9 _ rfl rfl)
  have s16:τ.sval 16=decS (τ.tab 220 [encB (τ.sval 0),0,τ.ival 1,τ.ival 5]):=eqFs (e.at 10 _ rfl rfl)
  have i17:τ.ival 17=IntKind.i64.wrap (τ.tab 221 [encB (τ.sval 0),0,τ.ival 1,τ.ival 5]):=eqFn (e.at 11 _ rfl rfl)
  have b18:τ.bval 18= !(τ.tab 206 [encB (τ.sval 16),encB (τ.sval 16)]==0):=eqFnb (e.at 12 _ rfl rfl)
  have b19:τ.bval 19= !(τ.ival 10==0):=eqB (e.at 13 _ rfl rfl) rfl
  have fin:EndZ wTab 81 (fraOf g w 1) (bodyPost Try.prog Try.f29 (MemR wTab sf29c g w)) .ret w29Se (asgS τ ([(1,.symi .i64 1),(0,.syms 0),(1,.symi .i64 1)]++[])):=
   endZ_mem (M:=6) (l:=Lx1) (vs:=[.bool true]) (by kernel_rfl) rfl rfl hH hg rfl rfl rfl (by kernel_rfl) (by kernel_rfl) ⟨congrArg AVal.str (a0.trans hCC.symm),congrArg (AVal.int .i64) (a1.trans hN.symm),trivial⟩ (by decide) (extS ag.ext.symm) (.inl rfl)
  have d6:τ.bval 6=true:=b6.trans (bval202 ht a0 hC ⟨hScr,hNb⟩)
  have d7:τ.bval 7=true:=b7.trans ((bval209 ht a2 a3 a4).trans (decide_eq_true hq))
  have d8:τ.bval 8=true:=b8.trans (bval207 ht a0 hC hNb)
  have d10:τ.ival 10=0:=by rw [i10,ht,a0,tab201,decL_of hC,check_zero.2 hScr];rfl
  have d18:τ.bval 18=true:=by rw [b18,ht];exact same206 _
  refine ⟨fun _=>⟨fun _=>⟨fun _=>⟨fun _=>⟨fun f=>(by rw [b19,d10] at f;cases f),fun _=>fin⟩,fun f=>(by rw [d18] at f;cases f)⟩,fun f=>(by rw [d8] at f;cases f)⟩,fun f=>(by rw [d7] at f;cases f)⟩,fun f=>(by rw [d6] at f;cases f)⟩)
end Go.Proofs.Ytapfkgenachpgaa.wc
