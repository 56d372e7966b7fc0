/-
 Contracts of the world's functions: Same, the search, Set.
 No conditions.
-/
import Derived.Test.YtapfkgenachpgaaWk
import Derived.WalkKit
set_option maxRecDepth 100000
namespace Go.Proofs.Ytapfkgenachpgaa.wc
open Go.Ev Go.RowKit Go.Wpl Go.Wt
set_option linter.unusedVariables false
set_option linter.unusedSimpArgs false
def w27K:List (Option IntKind):=[none,some .i64,none,some .i64]
def w27T:List (Nat×AVal):=[(0,.lsl 0 3 false (.int .i64 0) (.symi .i64 1)),(1,.lsl 1 3 false (.int .i64 0) (.symi .i64 3))]
def w27S0:Shape:=⟨argT 0 [.lsl 0 3 false (.int .i64 0) (.symi .i64 1),.lsl 1 3 false (.int .i64 0) (.symi .i64 3)],[lst0 0 1,lst0 2 3]⟩
def w27S1:Shape:=⟨w27T++[(5,.symi .i64 4)],[lst0 0 1,lst0 2 3]⟩
def w27Se:Shape:=⟨w27T++[(4,.symb 4)],[lst0 0 1,lst0 2 3]⟩
def sf27:SymF:={f:=27,m:=4,ins:=w27K,args:=[.lsl 0 3 false (.int .i64 0) (.symi .i64 1),.lsl 1 3 false (.int .i64 0) (.symi .i64 3)],pre:=[lst0 0 1,lst0 2 3],pcs:=[],G:=[.fnb 206 [.syms 0,.syms 2]],v:=.symb 4,post:=[lst0 0 1,lst0 2 3]}
def w52K:List (Option IntKind):=[none,some .i64,some .i64,some .i64,some .u8]
def w52X:AVal:=.agg [.symi .i64 2,.symi .i64 3,.symi .u8 4]
def w52B:Blk:=.cells [.symi .i64 2,.symi .i64 3,.symi .u8 4] 64
def w52S0:Shape:=⟨argT 0 [.lsl 0 3 true (.int .i64 0) (.symi .i64 1),w52X,.func (.func 53) [] []],[lstW 0 1]⟩
def w52S1:Shape:=⟨[(0,.lsl 0 3 true (.int .i64 0) (.symi .i64 1)),(2,.func (.func 53) [] []),(4,.ptr 1 0),(8,.symi .i64 1),(9,.symi .i64 5),(10,.symi .i64 6)],[lstW 0 1,w52B]⟩
def w52Se:Shape:=⟨[(0,.lsl 0 3 true (.int .i64 0) (.symi .i64 1)),(4,.ptr 1 0),(6,.symi .i64 5),(7,.symb 6)],[lstW 0 1,w52B]⟩
def sf52:SymF:={f:=52,m:=5,ins:=w52K,args:=[.lsl 0 3 true (.int .i64 0) (.symi .i64 1),w52X,.func (.func 53) [] []],pre:=[lstW 0 1],pcs:=[.fnb 202 [.syms 0]],G:=[.fn 250 .i64 [.syms 0,.symi .i64 2,.symi .i64 3,.symi .u8 4],.fnb 251 [.syms 0,.symi .i64 2,.symi .i64 3]],v:=.tuple [.symi .i64 5,.symb 6],post:=[lstW 0 1,w52B]}
def w26bK:List (Option IntKind):=[some .i64,some .i64,some .u8]
def w26bB:Blk:=.cells [.symi .i64 0,.symi .i64 1,.symi .u8 2] 64
def w26bS0:Shape:=⟨argT 0 [.slice 0 0 1 1 none],[w26bB]⟩
def w26bSe:Shape:=⟨[(0,.slice 0 0 1 1 none),(2,.symi .i64 3),(3,.symi .i64 4)],[w26bB]⟩
def sf26b:SymF:={f:=26,m:=3,ins:=w26bK,args:=[.slice 0 0 1 1 none],pre:=[w26bB],pcs:=[],G:=[.fn 255 .i64 [.symi .i64 0,.symi .i64 1,.symi .u8 2],.fn 256 .i64 [.symi .i64 0,.symi .i64 1,.symi .u8 2]],v:=.tuple [.symi .i64 3,.symi .i64 4],post:=[w26bB]}
def w25S0:Shape:=⟨argT 0 [.lsl 0 3 false (.int .i64 0) (.symi .i64 1),w52X],[lst0 0 1]⟩
def w25Se:Shape:=⟨[(0,.lsl 0 3 false (.int .i64 0) (.symi .i64 1)),(4,.lsl 1 3 true (.int .i64 0) (.symi .i64 5)),(5,.int .i64 0)],[lst0 0 1,lstW 6 5]⟩
def sf25:SymF:={f:=25,m:=5,ins:=w52K,args:=[.lsl 0 3 false (.int .i64 0) (.symi .i64 1),w52X],pre:=[lst0 0 1],pcs:=[.fnb 202 [.syms 0],.fnb 205 [.symi .i64 2,.symi .i64 3,.symi .u8 4]],G:=[.fn 253 .i64 [.syms 0,.symi .i64 2,.symi .i64 3,.symi .u8 4],.sop (.fs 252) [.syms 0,.symi .i64 2,.symi .i64 3,.symi .u8 4]],v:=.tuple [.lsl 1 3 true (.int .i64 0) (.symi .i64 5),.int .i64 0],post:=[lst0 0 1,lstW 6 5]}
def ws27AG:List SDef:=[.bin .neq (.symi .i64 1) (.symi .i64 3)]
def ws27AT:LT:=.n (.e) 57349625 4 (.bin .neq (.symi .i64 1) (.symi .i64 3)) (.e)
def ws27AW:Sw:=.run (.node 4 (.leaf .ret w27Se [(0,0),(1,0)] [(1,.symi .i64 1),(3,.symi .i64 3),(4,.bool false),(0,.syms 0),(1,.symi .i64 1),(2,.syms 2),(3,.symi .i64 3)] []) (.leaf .normal w27S1 [(0,0),(1,0)] [(1,.symi .i64 1),(3,.symi .i64 3),(4,.int .i64 0),(0,.syms 0),(1,.symi .i64 1),(2,.syms 2),(3,.symi .i64 3)] []))
def ws27AKd:KdT:=.n (.n (.n .e (some .i64) .e) (some .i64) .e) none (.n (.n .e none .e) none .e)
def ws27AX:Ing:={m:=4,ins:=w27K,G:=ws27AG,T:=ws27AT,tab:=wTab,lsts:=wL,kb:=5,kt:=ws27AKd}
theorem ws27A_lt:okLT 4 ws27AG ws27AT=true:=by kernel_rfl
theorem ws27A_ok:okG ws27AG 4=true:=by kernel_rfl
theorem ws27A_seg:SegOk Try.prog wTab 26 ((flatC (bodyOf Try.f27)).take 4) w27S0 ws27AX ws27AW where
 lt:=ws27A_lt
 ok:=ws27A_ok
 hook:=fun F=>no_hooks rfl F
 n0:=rfl
 id:=by kernel_rfl
 reck:=by kernel_rfl
 tab:=rfl
 cuts:=rfl
 kt:=by kernel_rfl
def ws27BG:List SDef:=[.bin .lss (.symi .i64 4) (.symi .i64 1),
 .bin .leq (.int .i64 0) (.symi .i64 4),
 .sop (.cell [.some .i64,.some .i64,.some .u8] 0) [.syms 0,.symi .i64 4],
 .sop (.cell [.some .i64,.some .i64,.some .u8] 1) [.syms 0,.symi .i64 4],
 .sop (.cell [.some .i64,.some .i64,.some .u8] 2) [.syms 0,.symi .i64 4],
 .bin .lss (.symi .i64 4) (.symi .i64 3),
 .sop (.cell [.some .i64,.some .i64,.some .u8] 0) [.syms 2,.symi .i64 4],
 .sop (.cell [.some .i64,.some .i64,.some .u8] 1) [.syms 2,.symi .i64 4],
 .sop (.cell [.some .i64,.some .i64,.some .u8] 2) [.syms 2,.symi .i64 4],
 .all [(.symi .i64 7,.symi .i64 11),(.symi .i64 8,.symi .i64 12),(.symi .u8 9,.symi .u8 13)],
 .un .not (.symb 14),
 .bin .add (.symi .i64 4) (.int .i64 1)]
def ws27BT:LT:=.n (.n (.n (.n (.e) 299702712 6 (.bin .leq (.int .i64 0) (.symi .i64 4)) (.e)) 307145346 7 (.sop (.cell [.some .i64,.some .i64,.some .u8] 0) [.syms 0,.symi .i64 4]) (.n (.e) 307145348 8 (.sop (.cell [.some .i64,.some .i64,.some .u8] 1) [.syms 0,.symi .i64 4]) (.e))) 307145350 9 (.sop (.cell [.some .i64,.some .i64,.some .u8] 2) [.syms 0,.symi .i64 4]) (.n (.n (.e) 340305561 15 (.un .not (.symb 14)) (.e)) 360350541 10 (.bin .lss (.symi .i64 4) (.symi .i64 3)) (.e))) 404061564 16 (.bin .add (.symi .i64 4) (.int .i64 1)) (.n (.n (.n (.e) 598608172 14 (.all [(.symi .i64 7,.symi .i64 11),(.symi .i64 8,.symi .i64 12),(.symi .u8 9,.symi .u8 13)]) (.e)) 641157704 11 (.sop (.cell [.some .i64,.some .i64,.some .u8] 0) [.syms 2,.symi .i64 4]) (.e)) 641157706 12 (.sop (.cell [.some .i64,.some .i64,.some .u8] 1) [.syms 2,.symi .i64 4]) (.n (.n (.e) 641157708 13 (.sop (.cell [.some .i64,.some .i64,.some .u8] 2) [.syms 2,.symi .i64 4]) (.e)) 747385212 5 (.bin .lss (.symi .i64 4) (.symi .i64 1)) (.e)))
def ws27BW:Sw:=.node 6 (.run (.node 5 (.node 10 (.node 15 (.leaf .ret w27Se [(0,0),(1,0)] [(1,.symi .i64 1),(3,.symi .i64 3),(4,.bool false),(0,.syms 0),(1,.symi .i64 1),(2,.syms 2),(3,.symi .i64 3)] []) (.leaf .normal w27S1 [(0,0),(1,0)] [(1,.symi .i64 1),(3,.symi .i64 3),(4,.symi .i64 16),(0,.syms 0),(1,.symi .i64 1),(2,.syms 2),(3,.symi .i64 3)] [])) (.dead)) (.leaf (.exit 0) w27S1 [(0,0),(1,0)] [(1,.symi .i64 1),(3,.symi .i64 3),(4,.symi .i64 4),(0,.syms 0),(1,.symi .i64 1),(2,.syms 2),(3,.symi .i64 3)] []))) (.dead)
def ws27BKd:KdT:=.n (.n (.n (.n (.n .e none .e) (some .i64) .e) (some .i64) (.n .e (some .i64) .e)) (some .i64) (.n (.n .e (some .u8) .e) none (.n .e (some .u8) .e))) none (.n (.n (.n (.n .e (some .i64) .e) (some .i64) .e) (some .i64) (.n .e (some .i64) .e)) none (.n (.n .e none .e) none (.n .e none .e)))
def ws27BX:Ing:={m:=5,ins:=(w27K++[some .i64]),G:=ws27BG,T:=ws27BT,tab:=wTab,lsts:=wL,kb:=17,kt:=ws27BKd}
theorem ws27B_lt:okLT 5 ws27BG ws27BT=true:=by kernel_rfl
theorem ws27B_ok:okG ws27BG 5=true:=by kernel_rfl
theorem ws27B_seg:SegOk Try.prog wTab 26 ([loopOf (bodyOf Try.f27)]) w27S1 ws27BX ws27BW where
 lt:=ws27B_lt
 ok:=ws27B_ok
 hook:=fun F=>no_hooks rfl F
 n0:=rfl
 id:=by kernel_rfl
 reck:=by kernel_rfl
 tab:=rfl
 cuts:=rfl
 kt:=by kernel_rfl
def ws27CG:List SDef:=[]
def ws27CT:LT:=.e
def ws27CW:Sw:=.run (.leaf .ret w27Se [(0,0),(1,0)] [(1,.symi .i64 1),(3,.symi .i64 3),(4,.bool true),(0,.syms 0),(1,.symi .i64 1),(2,.syms 2),(3,.symi .i64 3)] [])
def ws27CKd:KdT:=.n (.n (.n .e (some .i64) .e) (some .i64) .e) none (.n (.n .e (some .i64) .e) none .e)
def ws27CX:Ing:={m:=5,ins:=(w27K++[some .i64]),G:=ws27CG,T:=ws27CT,tab:=wTab,lsts:=wL,kb:=5,kt:=ws27CKd}
theorem ws27C_lt:okLT 5 ws27CG ws27CT=true:=by kernel_rfl
theorem ws27C_ok:okG ws27CG 5=true:=by kernel_rfl
theorem ws27C_seg:SegOk Try.prog wTab 26 ((flatC (bodyOf Try.f27)).drop 5) w27S1 ws27CX ws27CW where
 lt:=ws27C_lt
 ok:=ws27C_ok
 hook:=fun F=>no_hooks rfl F
 n0:=rfl
 id:=by kernel_rfl
 reck:=by kernel_rfl
 tab:=rfl
 cuts:=rfl
 kt:=by kernel_rfl
def ws26bG:List SDef:=[.bin .lss (.symi .i64 0) (.int .i64 1),
 .bin .gtr (.symi .i64 0) (.int .i64 1073741824),
 .bin .lss (.symi .i64 1) (.int .i64 0),
 .bin .gtr (.symi .i64 1) (.int .i64 2)]
def ws26bT:LT:=.n (.n (.n (.e) 60443 3 (.bin .lss (.symi .i64 0) (.int .i64 1)) (.e)) 101010711 5 (.bin .lss (.symi .i64 1) (.int .i64 0)) (.e)) 101110795 6 (.bin .gtr (.symi .i64 1) (.int .i64 2)) (.n (.e) 1073602144 4 (.bin .gtr (.symi .i64 0) (.int .i64 1073741824)) (.e))
def ws26bW:Sw:=.run (.node 3 (.leaf .ret w26bSe [(0,0)] [(3,.int .i64 0),(4,.int .i64 2),(0,.symi .i64 0),(1,.symi .i64 1),(2,.symi .u8 2)] []) (.node 4 (.leaf .ret w26bSe [(0,0)] [(3,.int .i64 0),(4,.int .i64 2),(0,.symi .i64 0),(1,.symi .i64 1),(2,.symi .u8 2)] []) (.node 5 (.leaf .ret w26bSe [(0,0)] [(3,.int .i64 0),(4,.int .i64 6),(0,.symi .i64 0),(1,.symi .i64 1),(2,.symi .u8 2)] []) (.node 6 (.leaf .ret w26bSe [(0,0)] [(3,.int .i64 0),(4,.int .i64 6),(0,.symi .i64 0),(1,.symi .i64 1),(2,.symi .u8 2)] []) (.leaf .ret w26bSe [(0,0)] [(3,.int .i64 (-1)),(4,.int .i64 0),(0,.symi .i64 0),(1,.symi .i64 1),(2,.symi .u8 2)] [])))))
def ws26bKd:KdT:=.n (.n (.n .e none .e) (some .i64) (.n .e none .e)) (some .i64) (.n (.n .e none .e) (some .u8) (.n .e none .e))
def ws26bX:Ing:={m:=3,ins:=w26bK,G:=ws26bG,T:=ws26bT,tab:=wTab,lsts:=wL,kb:=7,kt:=ws26bKd}
theorem ws26b_lt:okLT 3 ws26bG ws26bT=true:=by kernel_rfl
theorem ws26b_ok:okG ws26bG 3=true:=by kernel_rfl
theorem ws26b_seg:SegOk Try.prog wTab 48 (flatC (bodyOf Try.f26)) w26bS0 ws26bX ws26bW where
 lt:=ws26b_lt
 ok:=ws26b_ok
 hook:=fun F=>no_hooks rfl F
 n0:=rfl
 id:=by kernel_rfl
 reck:=by kernel_rfl
 tab:=rfl
 cuts:=rfl
 kt:=by kernel_rfl
structure J27 (S:ByteArray) (N:Nat) (T:ByteArray) (M:Nat) (E:Nat→Option Fz) (σ:Sig):Prop where
 s:σ.sval 0=S
 nn:σ.ival 1=N
 t:σ.sval 2=T
 mm:σ.ival 3=M
 x:σ.ext=E
 j:N=M∧ ∃j:Nat,σ.ival 4=j∧j≤N∧ ∀k,k<j→rowE S k=rowE T k
theorem J27.agree {S T:ByteArray} {N M:Nat} {E:Nat→Option Fz} {σ τ:Sig} (ag:Agree 5 σ τ) (h:J27 S N T M E σ):J27 S N T M E τ:=
 ⟨by rw [←(ag.val 0 (by decide)).2.2];exact h.s,by rw [←(ag.val 1 (by decide)).1];exact h.nn,by rw [←(ag.val 2 (by decide)).2.2];exact h.t,by rw [←(ag.val 3 (by decide)).1];exact h.mm,by rw [←ag.ext];exact h.x,by rw [←(ag.val 4 (by decide)).1];exact h.j⟩
theorem J27.step {S T:ByteArray} {N M:Nat} {E:Nat→Option Fz} {τ:Sig} {a:Nat} (h:J27 S N T M E τ) (hj: ∃j:Nat,τ.ival a=j∧j≤N∧ ∀k,k<j→rowE S k=rowE T k):
  J27 S N T M E (asgS τ ([(1,.symi .i64 1),(3,.symi .i64 3),(4,.symi .i64 a),(0,.syms 0),(1,.symi .i64 1),(2,.syms 2),(3,.symi .i64 3)]++[])):=⟨h.s,h.nn,h.t,h.mm,extS h.x,h.j.1,hj⟩
def L27:Asg:=[(4,.symb 4),(0,.syms 0),(1,.symi .i64 1),(2,.syms 2),(3,.symi .i64 3)]
theorem E27 {g:Inj} {w:World} {σ:Sig} (hH:HRel (cx0 wTab) g sf27.pre w) (hg:g.sig.tab=wTab) (h4:σ.bval 4=g.sig.bval 4) (h0:σ.sval 0=g.sig.sval 0) (h1:σ.ival 1=g.sig.ival 1) (h2:σ.sval 2=g.sig.sval 2) (h3:σ.ival 3=g.sig.ival 3) (hx:σ.ext=g.sig.ext):
  EndZ wTab 26 (fraOf g w sf27.pre.length) (bodyPost Try.prog Try.f27 (MemR wTab sf27 g w)) .ret w27Se σ:=
 endZ_mem (M:=5) (l:=L27) (vs:=[.symb 4]) (by kernel_rfl) rfl rfl hH hg rfl rfl rfl (by kernel_rfl) (by kernel_rfl)
  ⟨congrArg AVal.bool h4,congrArg AVal.str h0,congrArg (AVal.int .i64) h1,congrArg AVal.str h2,congrArg (AVal.int .i64) h3,trivial⟩ (Nat.le_refl _) hx (.inl rfl)
theorem eqAll3 {a1 b1 a2 b2 a3 b3:Int} {r:Bool} (h:r=((a1==b1)&&((a2==b2)&&((a3==b3)&&true)))):r=true↔E3.mk a1 a2 a3=E3.mk b1 b2 b3:=by
 rw [h]
 simp only [Bool.and_eq_true,beq_iff_eq,E3.mk.injEq,and_true]
set_option maxHeartbeats 1000000 in
theorem c27:SymFOk Try.prog wTab (fun _=>True) sf27:=
 symF_of_stage Try.func27 rfl (n:=26) rfl (by decide) (by decide) rfl rfl (by kernel_rfl) (fun g w hg _ hE hI hpc hH=>by
  obtain ⟨N,hN,hC⟩:=lst_ok (i:=0) hH rfl
  obtain ⟨M,hM,hD⟩:=lst_ok (i:=1) hH rfl
  generalize hSS:g.sig.sval 0=S at hC
  generalize hTT:g.sig.sval 2=T at hD
  have hN1:(N:Int)<9223372036854775808:=by
   have:=hI 1 .i64 (by decide) rfl
   rw [wr_i64,hN] at this;omega
  have r4:g.sig.bval 4=decide (lstE S N=lstE T M):=by
   have h:g.sig.bval 4= !(g.sig.tab 206 [encB (g.sig.sval 0),encB (g.sig.sval 2)]==0):=eqFnb (hE.at 0 _ rfl rfl)
   have e:wTab 206 [encB S,encB T]=b01 (decide (decL (encB S)=decL (encB T))):=rfl
   rw [h,hg,hSS,hTT,e,b01_ne,decL_of hC,decL_of hD]
  rw [show flatC (bodyOf Try.f27)=(flatC (bodyOf Try.f27)).take 4++(.block (idOf (bodyOf Try.f27)) (.loop (loopOf (bodyOf Try.f27)))::(flatC (bodyOf Try.f27)).drop 5) from rfl]
  have no: ∀{τ:Sig},lstE S N≠lstE T M→τ.sval 0=S→τ.ival 1=N→τ.sval 2=T→τ.ival 3=M→τ.ext=g.sig.ext→EndZ wTab 26 (fraOf g w 2) (bodyPost Try.prog Try.f27 (MemR wTab sf27 g w)) .ret w27Se (asgS τ ([(1,.symi .i64 1),(3,.symi .i64 3),(4,.bool false),(0,.syms 0),(1,.symi .i64 1),(2,.syms 2),(3,.symi .i64 3)]++[])):=by
   intro τ hne h0 h1 h2 h3 hx
   exact E27 hH hg (by show false=_;rw [r4,decide_eq_false hne]) (h0.trans hSS.symm) (h1.trans hN.symm) (h2.trans hTT.symm) (h3.trans hM.symm) (extS hx)
  have hlast:Stage Try.prog wTab 26 (fraOf g w 2) (bodyPost Try.prog Try.f27 (MemR wTab sf27 g w)) ((flatC (bodyOf Try.f27)).drop 5) w27S1 5 (w27K++[some .i64]) (fun σ=>J27 S N T M g.sig.ext σ∧σ.ival 4=N):=by
   refine Stage.last mixed ws27C_seg ⟨rfl,rfl⟩ (fun σ τ ag h=>⟨h.1.agree ag,by rw [←(ag.val 4 (by decide)).1];exact h.2⟩) (fun τ h=>rows_nil) (fun τ e ht hi hj=> ?_) (pin0 (by kernel_rfl))
   refine segsPw_segs ?_
   obtain ⟨hj,hj4⟩:=hj
   obtain ⟨rfl,j,k1,k2,k3⟩:=hj.j
   have:j=N:=by omega
   subst this
   refine E27 hH hg ?_ (hj.s.trans hSS.symm) (hj.nn.trans hN.symm) (hj.t.trans hTT.symm) (hj.mm.trans hM.symm) (extS hj.x)
   show true=_
   rw [r4,eq_comm,decide_eq_true_eq]
   exact List.map_congr_left fun k hk=>k3 k (List.mem_range.1 hk)
  have hloop:Stage Try.prog wTab 26 (fraOf g w 2) (bodyPost Try.prog Try.f27 (MemR wTab sf27 g w)) (.block (idOf (bodyOf Try.f27)) (.loop (loopOf (bodyOf Try.f27)))::(flatC (bodyOf Try.f27)).drop 5) w27S1 5 (w27K++[some .i64]) (J27 S N T M g.sig.ext):=by
   refine Stage.loop (μ:=fun σ=>(N-σ.ival 4).toNat) mixed ws27B_seg ⟨rfl,rfl⟩ (fun σ τ ag h=>h.agree ag) (fun σ τ ag=>by rw [(ag.val 4 (by decide)).1]) (fun τ h=>rows_nil) hlast (fun τ e ht hi hj=> ?_) (pin0 (by kernel_rfl))
   refine segsPw_segs ?_
   obtain ⟨hNM,j,k1,k2,k3⟩:=hj.j
   have a0:τ.sval 0=S:=hj.s
   have a1:τ.ival 1=N:=hj.nn
   have a2:τ.sval 2=T:=hj.t
   have a3:τ.ival 3=M:=hj.mm
   have b5:τ.bval 5=decide (τ.ival 4<τ.ival 1):=eqB (e.at 0 _ rfl rfl) rfl
   have b6:τ.bval 6=decide ((0:Int)≤τ.ival 4):=eqB (e.at 1 _ rfl rfl) rfl
   have c7:=eqCell (m:=j) (e.at 2 _ rfl rfl) (show den τ (.symi .i64 4)=_ by rw [←k1];rfl)
   have c8:=eqCell (m:=j) (e.at 3 _ rfl rfl) (show den τ (.symi .i64 4)=_ by rw [←k1];rfl)
   have c9:=eqCell (m:=j) (e.at 4 _ rfl rfl) (show den τ (.symi .i64 4)=_ by rw [←k1];rfl)
   have c11:=eqCell (m:=j) (e.at 6 _ rfl rfl) (show den τ (.symi .i64 4)=_ by rw [←k1];rfl)
   have c12:=eqCell (m:=j) (e.at 7 _ rfl rfl) (show den τ (.symi .i64 4)=_ by rw [←k1];rfl)
   have c13:=eqCell (m:=j) (e.at 8 _ rfl rfl) (show den τ (.symi .i64 4)=_ by rw [←k1];rfl)
   rw [a0] at c7 c8 c9
   rw [a2] at c11 c12 c13
   have ea:E3.mk (τ.ival 7) (τ.ival 8) (τ.ival 9)=rowE S j:=by simp only [rowE,c7,c8,c9,iOf]
   have eb:E3.mk (τ.ival 11) (τ.ival 12) (τ.ival 13)=rowE T j:=by simp only [rowE,c11,c12,c13,iOf]
   have b10:τ.bval 10=decide (τ.ival 4<τ.ival 3):=eqB (e.at 5 _ rfl rfl) rfl
   have b14:=eqAll3 (eqB (e.at 9 _ rfl rfl) rfl:τ.bval 14=_)
   rw [ea,eb] at b14
   have b15:τ.bval 15= !(τ.bval 14):=eqB (e.at 10 _ rfl rfl) rfl
   have i16:τ.ival 16=IntKind.i64.wrap (τ.ival 4+1):=eqI (e.at 11 _ rfl rfl) rfl
   rw [wr_i64] at i16
   refine ⟨fun f6=>⟨fun f5=>⟨fun f10=>⟨fun f15=> .inr (.inr ⟨rfl,no ?_ a0 a1 a2 a3 hj.x⟩),fun f15=> ?_⟩,fun f10=> ?_⟩,fun f5=> .inr (.inl ⟨rfl,rfl,insOk_kt (X:=ws27BX) e hi (by kernel_rfl) (by kernel_rfl),⟨hj.step ⟨j,k1,k2,k3⟩,?_⟩,tabS ht⟩)⟩,fun f6=> ?_⟩
   ·intro hh
    rw [b5,decide_eq_true_eq] at f5
    have hjN:j<N:=by omega
    have q:=lstE_get (C:=S) hjN
    rw [hh,lstE_get (C:=T) (show j<M by omega)] at q
    have:=b14.2 (Option.some.inj q).symm
    rw [b15,this] at f15
    cases f15
   ·rw [b5,decide_eq_true_eq] at f5
    have h14:τ.bval 14=true:=by rw [b15] at f15;simpa using f15
    have hst:J27 S N T M g.sig.ext _:=hj.step (a:=16) ⟨j+1,by omega,by omega,fun k hk=>by
     by_cases hkj:k<j
     ·exact k3 k hkj
     ·have:k=j:=by omega
      subst this
      exact b14.1 h14⟩
    refine .inl ⟨rfl,rfl,insOk_kt (X:=ws27BX) e hi (by kernel_rfl) (by kernel_rfl),hst,tabS ht,?_⟩
    show (N-τ.ival 16).toNat<(N-τ.ival 4).toNat
    omega
   ·rw [b5,decide_eq_true_eq] at f5
    rw [b10,decide_eq_false_iff_not] at f10
    exfalso;omega
   ·rw [b5,decide_eq_false_iff_not] at f5
    show τ.ival 4=N
    omega
   ·rw [b6,decide_eq_false_iff_not] at f6
    exfalso;omega
  refine Stage.seg (q2:=5) (ins2:=w27K++[some IntKind.i64]) (S2:=w27S1) (J2:=J27 S N T M g.sig.ext) mixed ws27A_seg ⟨rfl,rfl⟩ (fun σ τ (ag:Agree 4 σ τ) (h:Agree 4 g.sig σ)=>h.trans' ag) (fun τ h=>rows_nil) hloop (fun τ e ht hi ag=> ?_) (pin0 (by kernel_rfl))
  refine segsPw_segs ?_
  have a0:τ.sval 0=S:=by rw [←(ag.val 0 (by decide)).2.2];exact hSS
  have a1:τ.ival 1=N:=by rw [←(ag.val 1 (by decide)).1];exact hN
  have a2:τ.sval 2=T:=by rw [←(ag.val 2 (by decide)).2.2];exact hTT
  have a3:τ.ival 3=M:=by rw [←(ag.val 3 (by decide)).1];exact hM
  have b4:τ.bval 4= !(τ.ival 1==τ.ival 3):=eqB (e.at 0 _ rfl rfl) rfl
  refine ⟨fun f4=> .inr ⟨by simp,no ?_ a0 a1 a2 a3 ag.ext.symm⟩,fun f4=> .inl ⟨rfl,rfl,insOk_kt (X:=ws27AX) e hi (by kernel_rfl) (by kernel_rfl),⟨a0,a1,a2,a3,extS ag.ext.symm,?_,0,rfl,Nat.zero_le _,fun k hk=>absurd hk (Nat.not_lt_zero k)⟩,tabS ht⟩⟩
  ·intro hh
   have:=congrArg List.length hh
   rw [lstE_len,lstE_len] at this
   rw [b4,a1,a3,this] at f4
   simp at f4
  ·rw [b4,a1,a3] at f4
   simp at f4
   omega)
def L26b:Asg:=[(3,.symi .i64 3),(4,.symi .i64 4),(0,.symi .i64 0),(1,.symi .i64 1),(2,.symi .u8 2)]
theorem check_one (x:E3):check [x]=if codeOf none x=0 then (-1,0) else (0,codeOf none x):=by
 simp only [check,checkFrom]
theorem c26b:SymFOk Try.prog wTab (fun _=>True) sf26b:=
 symF_of_stage Try.func26 rfl (n:=48) rfl (by decide) (by decide) rfl rfl (by kernel_rfl) (fun g w hg _ hE hI hpc hH=>by
  refine Stage.last mixed ws26b_seg ⟨rfl,rfl⟩ (fun σ τ (ag:Agree 3 σ τ) (h:Agree 3 g.sig σ)=>h.trans' ag) (fun τ h=>rows_nil) (fun τ e ht hi ag=> ?_) (pin0 (by kernel_rfl))
  refine segsPw_segs ?_
  have a0:τ.ival 0=g.sig.ival 0:=(ag.val 0 (by decide)).1.symm
  have a1:τ.ival 1=g.sig.ival 1:=(ag.val 1 (by decide)).1.symm
  have a2:τ.ival 2=g.sig.ival 2:=(ag.val 2 (by decide)).1.symm
  generalize hx:(⟨g.sig.ival 0,g.sig.ival 1,g.sig.ival 2⟩:E3)=x
  have x0:g.sig.ival 0=x.t:=by rw [←hx]
  have x1:g.sig.ival 1=x.k:=by rw [←hx]
  have x2:g.sig.ival 2=x.v:=by rw [←hx]
  have r3:g.sig.ival 3=IntKind.i64.wrap (check [x]).1:=by
   have h:g.sig.ival 3=IntKind.i64.wrap (g.sig.tab 255 [g.sig.ival 0,g.sig.ival 1,g.sig.ival 2]):=eqFn (hE.at 0 _ rfl rfl)
   rw [h,hg,x0,x1,x2];rfl
  have r4:g.sig.ival 4=IntKind.i64.wrap (check [x]).2:=by
   have h:g.sig.ival 4=IntKind.i64.wrap (g.sig.tab 256 [g.sig.ival 0,g.sig.ival 1,g.sig.ival 2]):=eqFn (hE.at 1 _ rfl rfl)
   rw [h,hg,x0,x1,x2];rfl
  have b3:τ.bval 3=decide (τ.ival 0<1):=eqB (e.at 0 _ rfl rfl) rfl
  have b4:τ.bval 4=decide (τ.ival 0>1073741824):=eqB (e.at 1 _ rfl rfl) rfl
  have b5:τ.bval 5=decide (τ.ival 1<0):=eqB (e.at 2 _ rfl rfl) rfl
  have b6:τ.bval 6=decide (τ.ival 1>2):=eqB (e.at 3 _ rfl rfl) rfl
  have fin: ∀(p c:Int),(check [x]).1=p→(check [x]).2=c→IntKind.i64.wrap p=p→IntKind.i64.wrap c=c→EndZ wTab 48 (fraOf g w 1) (bodyPost Try.prog Try.f26 (MemR wTab sf26b g w)) .ret w26bSe (asgS τ ([(3,.int .i64 p),(4,.int .i64 c),(0,.symi .i64 0),(1,.symi .i64 1),(2,.symi .u8 2)]++[])):=by
   intro p c h1 h2 h3 h4
   rw [h1,h3] at r3
   rw [h2,h4] at r4
   exact endZ_mem (M:=5) (l:=L26b) (vs:=[.symi .i64 3,.symi .i64 4]) (by kernel_rfl) rfl rfl hH hg rfl rfl rfl (by kernel_rfl) (by kernel_rfl) ⟨congrArg (AVal.int .i64) r3.symm,congrArg (AVal.int .i64) r4.symm,congrArg (AVal.int .i64) a0,congrArg (AVal.int .i64) a1,congrArg (AVal.int .u8) a2,trivial⟩ (Nat.le_refl _) (extS ag.ext.symm) (.inl rfl)
  rw [a0,x0] at b3 b4
  rw [a1,x1] at b5 b6
  have hc:=check_one x
  have t3:τ.bval 3=true↔x.t<1:=by rw [b3,decide_eq_true_eq]
  have t4:τ.bval 4=true↔x.t>1073741824:=by rw [b4,decide_eq_true_eq]
  have t5:τ.bval 5=true↔x.k<0:=by rw [b5,decide_eq_true_eq]
  have t6:τ.bval 6=true↔x.k>2:=by rw [b6,decide_eq_true_eq]
  have n3:τ.bval 3=false→ ¬x.t<1:=fun h k=>by rw [t3.2 k] at h;cases h
  have n4:τ.bval 4=false→ ¬x.t>1073741824:=fun h k=>by rw [t4.2 k] at h;cases h
  have n5:τ.bval 5=false→ ¬x.k<0:=fun h k=>by rw [t5.2 k] at h;cases h
  have n6:τ.bval 6=false→ ¬x.k>2:=fun h k=>by rw [t6.2 k] at h;cases h
  refine ⟨fun f3=> ?_,fun f3=>⟨fun f4=> ?_,fun f4=>⟨fun f5=> ?_,fun f5=>⟨fun f6=> ?_,fun f6=> ?_⟩⟩⟩⟩
  ·have f3:=t3.1 f3
   rw [code2 (.inl f3)] at hc
   exact fin 0 2 (by rw [hc];rfl) (by rw [hc];rfl) rfl rfl
  ·have f4:=t4.1 f4
   rw [code2 (.inr (by omega))] at hc
   exact fin 0 2 (by rw [hc];rfl) (by rw [hc];rfl) rfl rfl
  ·have f3:=n3 f3
   have f4:=n4 f4
   have f5:=t5.1 f5
   rw [code6 (by omega) (.inl f5)] at hc
   exact fin 0 6 (by rw [hc];rfl) (by rw [hc];rfl) rfl rfl
  ·have f3:=n3 f3
   have f4:=n4 f4
   have f6:=t6.1 f6
   rw [code6 (by omega) (.inr (by omega))] at hc
   exact fin 0 6 (by rw [hc];rfl) (by rw [hc];rfl) rfl rfl
  ·have f3:=n3 f3
   have f4:=n4 f4
   have f5:=n5 f5
   have f6:=n6 f6
   rw [code0 (by omega) (by omega)] at hc
   exact fin (-1) 0 (by rw [hc];rfl) (by rw [hc];rfl) rfl rfl)
end Go.Proofs.Ytapfkgenachpgaa.wc
