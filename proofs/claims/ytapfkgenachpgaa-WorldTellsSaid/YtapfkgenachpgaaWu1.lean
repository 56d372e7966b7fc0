/-
 Contracts of the document's answer for the world; what is refused; alike.
 No conditions.
-/
import Derived.Test.YtapfkgenachpgaaWs3
import Derived.WalkKit
set_option maxRecDepth 100000
namespace Go.Proofs.Ytapfkgenachpgaa.wc
open Go.Ev Go.RowKit Go.Wpl Go.Wt
set_option linter.unusedVariables false
set_option linter.unusedSimpArgs false
def w58S1:Shape:=⟨[(0,.lsl 0 3 false (.int .i64 0) (.symi .i64 1)),(4,.symi .i64 2)],[lst0 0 1]⟩
def sf58:SymF:={sf26 with f:=58}
def w33S1:Shape:=⟨[(0,.lsl 0 3 false (.int .i64 0) (.symi .i64 1)),(1,.symi .i64 2),(4,.ptr 1 0),(5,.ptr 2 0),(8,.symi .i64 7)],[lst0 0 1,.cells [.int .u8 0,.int .u8 0,.bool false,.int .u8 0] 80,.cells [.symi .u8 3,.symi .u8 4,.symb 5,.symi .u8 6] 80]⟩
def w33Se:Shape:=⟨[(0,.lsl 0 3 false (.int .i64 0) (.symi .i64 1)),(4,.ptr 1 0)],[lst0 0 1,.cells [.symi .u8 3,.symi .u8 4,.symb 5,.symi .u8 6] 80]⟩
def sf33:SymF:={sf28 with f:=33,post:=w33Se.heap}
def w60S1:Shape:=⟨[(0,.lsl 0 3 false (.int .i64 0) (.symi .i64 1)),(1,.symi .i64 2),(5,.lsl 1 3 true (.int .i64 0) (.symi .i64 4)),(6,.symi .i64 5)],[lst0 0 1,lstW 3 4]⟩
def w60Se:Shape:=⟨[(0,.lsl 0 3 false (.int .i64 0) (.symi .i64 1)),(4,.lsl 1 3 true (.int .i64 0) (.symi .i64 4))],[lst0 0 1,lstW 3 4]⟩
def sf60:SymF:={sf35 with f:=60}
def w59S1:Shape:=⟨[(0,.lsl 0 3 false (.int .i64 0) (.symi .i64 1)),(3,.ptr 1 0),(8,.lsl 2 3 true (.int .i64 0) (.symi .i64 6)),(9,.symi .i64 7)],[lst0 0 1,w52B,lstW 5 6]⟩
def w59S2:Shape:=⟨[(0,.lsl 0 3 false (.int .i64 0) (.symi .i64 1)),(3,.ptr 1 0),(8,.lsl 2 3 true (.int .i64 0) (.symi .i64 6)),(10,.symi .i64 7)],[lst0 0 1,w52B,lstW 5 6]⟩
def w59Se:Shape:=⟨[(0,.lsl 0 3 false (.int .i64 0) (.symi .i64 1)),(4,.lsl 1 3 true (.int .i64 0) (.symi .i64 5)),(5,.int .i64 0)],[lst0 0 1,lstW 6 5]⟩
def w59K1:List (Option IntKind):=w52K++[none,some .i64,some .i64]
def sf59:SymF:={sf25 with f:=59,G:=[.fn 253 .i64 [.syms 0,.symi .i64 2,.symi .i64 3,.symi .u8 4],.sop (.fs 257) [.syms 0,.symi .i64 2,.symi .i64 3,.symi .u8 4]]}
def w25Sx:Shape:=⟨[(0,.lsl 0 3 false (.int .i64 0) (.symi .i64 1)),(4,.nilslice),(5,.symi .i64 5)],[lst0 0 1]⟩
def sf25b:SymF:={sf25 with pcs:=[.fnb 208 [.syms 0]],G:=[.fn 201 .i64 [.syms 0]],v:=.tuple [.nilslice,.symi .i64 5],post:=[lst0 0 1]}
def sf25c:SymF:={sf25b with pcs:=[.fnb 202 [.syms 0],.fnb 209 [.symi .i64 2,.symi .i64 3,.symi .u8 4]],G:=[.fn 256 .i64 [.symi .i64 2,.symi .i64 3,.symi .u8 4]]}
def sf59b:SymF:={sf25b with f:=59}
def sf59c:SymF:={sf25c with f:=59}
def w30Sx:Shape:=⟨[(0,.lsl 0 3 false (.int .i64 0) (.symi .i64 1)),(2,.nilptr)],[lst0 0 1]⟩
def sf30b:SymF:={sf30 with pcs:=[.fnb 208 [.syms 0]],v:=.nilptr,post:=[lst0 0 1]}
def sf58b:SymF:={sf26b with f:=58}
def w29K:List (Option IntKind):=w52K++[some .i64]
def w29S0:Shape:=⟨argT 0 [.lsl 0 3 false (.int .i64 0) (.symi .i64 1),w52X,.symi .i64 5],[lst0 0 1]⟩
def w29Se:Shape:=⟨[(0,.lsl 0 3 false (.int .i64 0) (.symi .i64 1)),(6,.bool true)],[lst0 0 1]⟩
def sf29a:SymF:={f:=29,m:=6,ins:=w29K,args:=[.lsl 0 3 false (.int .i64 0) (.symi .i64 1),w52X,.symi .i64 5],pre:=[lst0 0 1],pcs:=[.fnb 202 [.syms 0],.fnb 205 [.symi .i64 2,.symi .i64 3,.symi .u8 4]],G:=[],v:=.bool true,post:=[lst0 0 1]}
def sf29b:SymF:={sf29a with pcs:=[.fnb 208 [.syms 0]]}
def sf29c:SymF:={sf29a with pcs:=[.fnb 202 [.syms 0],.fnb 209 [.symi .i64 2,.symi .i64 3,.symi .u8 4]]}
def w7K:List (Option IntKind):=[none,none,some .i64,some .i64,some .i64,some .u8,some .i64,none]
def w7S0:Shape:=⟨argT 0 [.lsl 0 3 false (.int .i64 0) (.symi .i64 2),.row 0,.agg [.symi .i64 3,.symi .i64 4,.symi .u8 5]],[.gone]⟩
def w7X:List AVal:=[.symi .i64 6,.syms 7]
def w7T:List (Nat×AVal):=[(0,.lsl 0 3 false (.int .i64 0) (.symi .i64 1)),(5,.ptr 1 0),(6,.bool false),(7,.lsl 2 3 true (.int .i64 0) (.symi .i64 7))]
def w7K1:List (Option IntKind):=[none,none,none,some .i64,some .i64,some .u8,none,some .i64]
def w7S1:Shape:=⟨w7T,[.gone,.cells [.symi .i64 3,.symi .i64 4,.symi .u8 5] 64,lstW 6 7]⟩
def w7K2:List (Option IntKind):=[none,some .i64,none,some .i64,some .i64,some .u8,none,some .i64]
def w7S2:Shape:=⟨w7T,[lst0 0 1,.cells [.symi .i64 3,.symi .i64 4,.symi .u8 5] 64,lstW 6 7]⟩
def w7K3:List (Option IntKind):=[none,some .i64,none,some .i64,some .u8,some .u8,some .u8,some .i64,some .i64,some .i64,some .i64,some .i64]
def w7S3:Shape:=⟨[(0,.lsl 0 3 false (.int .i64 0) (.symi .i64 1)),(6,.bool false),(7,.lsl 1 3 true (.int .i64 0) (.symi .i64 3)),(9,.lsl 2 3 true (.int .i64 0) (.symi .i64 3)),(10,.ptr 3 0),(11,.symi .i64 11)],[lst0 0 1,lst0 2 3,lstW 2 3,plB 4 4 5 6 7 8 9 10,lst0 2 3]⟩
def w7SE:Shape:=⟨[(0,.lsl 0 3 false (.int .i64 0) (.symi .i64 1)),(6,.bool true)],[lst0 0 1]⟩
def w33K1:List (Option IntKind):=w28K++[some .u8,some .u8,none,some .u8,some .i64]
def w60K1:List (Option IntKind):=w35K++[none,some .i64,some .i64]
def wt58AG:List SDef:=[]
def wt58AT:LT:=.e
def wt58AW:Sw:=.run (.leaf .normal w58S1 [(0,0)] [(1,.symi .i64 1),(2,.int .i64 0),(0,.syms 0),(1,.symi .i64 1)] [])
def wt58AKd:KdT:=.n (.n .e (some .i64) .e) none .e
def wt58AX:Ing:={m:=2,ins:=w30K,G:=wt58AG,T:=wt58AT,tab:=wTab,lsts:=wL,kb:=2,kt:=wt58AKd}
theorem wt58A_lt:okLT 2 wt58AG wt58AT=true:=by kernel_rfl
theorem wt58A_ok:okG wt58AG 2=true:=by kernel_rfl
theorem wt58A_seg:SegOk Try.prog wTab 57 ((flatC (bodyOf Try.f58)).take 2) w26S0 wt58AX wt58AW where
 lt:=wt58A_lt
 ok:=wt58A_ok
 hook:=fun F=>no_hooks rfl F
 n0:=rfl
 id:=by kernel_rfl
 reck:=by kernel_rfl
 tab:=rfl
 cuts:=rfl
 kt:=by kernel_rfl
def wt58BG:List SDef:=[.bin .lss (.symi .i64 2) (.symi .i64 1),
 .bin .leq (.int .i64 0) (.symi .i64 2),
 .sop (.cell [.some .i64,.some .i64,.some .u8] 0) [.syms 0,.symi .i64 2],
 .sop (.cell [.some .i64,.some .i64,.some .u8] 1) [.syms 0,.symi .i64 2],
 .sop (.cell [.some .i64,.some .i64,.some .u8] 2) [.syms 0,.symi .i64 2],
 .bin .lss (.symi .i64 5) (.int .i64 1),
 .bin .gtr (.symi .i64 5) (.int .i64 1073741824),
 .bin .lss (.symi .i64 6) (.int .i64 0),
 .bin .gtr (.symi .i64 6) (.int .i64 2),
 .bin .gtr (.symi .i64 2) (.int .i64 0),
 .bin .sub (.symi .i64 2) (.int .i64 1),
 .bin .leq (.int .i64 0) (.symi .i64 13),
 .bin .lss (.symi .i64 13) (.symi .i64 1),
 .sop (.cell [.some .i64,.some .i64,.some .u8] 0) [.syms 0,.symi .i64 13],
 .sop (.cell [.some .i64,.some .i64,.some .u8] 1) [.syms 0,.symi .i64 13],
 .sop (.cell [.some .i64,.some .i64,.some .u8] 2) [.syms 0,.symi .i64 13],
 .bin .lss (.symi .i64 16) (.symi .i64 5),
 .bin .eql (.symi .i64 16) (.symi .i64 5),
 .bin .lss (.symi .i64 17) (.symi .i64 6),
 .ite (.symb 20) (.symb 21) (.bool false),
 .ite (.symb 19) (.bool true) (.symb 22),
 .un .not (.symb 23),
 .bin .add (.symi .i64 2) (.int .i64 1)]
def wt58BT:LT:=.n (.n (.n (.n (.n (.e) 111577665 20 (.bin .eql (.symi .i64 16) (.symi .i64 5)) (.e)) 111577679 19 (.bin .lss (.symi .i64 16) (.symi .i64 5)) (.e)) 168659433 14 (.bin .leq (.int .i64 0) (.symi .i64 13)) (.n (.n (.e) 175593731 24 (.un .not (.symb 23)) (.e)) 202011028 12 (.bin .gtr (.symi .i64 2) (.int .i64 0)) (.e))) 202060958 25 (.bin .add (.symi .i64 2) (.int .i64 1)) (.n (.n (.n (.e) 202060965 13 (.bin .sub (.symi .i64 2) (.int .i64 1)) (.e)) 504861832 9 (.bin .gtr (.symi .i64 5) (.int .i64 1073741824)) (.e)) 505061958 8 (.bin .lss (.symi .i64 5) (.int .i64 1)) (.n (.n (.e) 540490506 22 (.ite (.symb 20) (.symb 21) (.bool false)) (.e)) 545384606 3 (.bin .lss (.symi .i64 2) (.symi .i64 1)) (.e)))) 555931560 21 (.bin .lss (.symi .i64 17) (.symi .i64 6)) (.n (.n (.n (.n (.e) 582646112 15 (.bin .lss (.symi .i64 13) (.symi .i64 1)) (.e)) 594491672 23 (.ite (.symb 19) (.bool true) (.symb 22)) (.e)) 606012226 10 (.bin .lss (.symi .i64 6) (.int .i64 0)) (.n (.n (.e) 606112310 11 (.bin .gtr (.symi .i64 6) (.int .i64 2)) (.e)) 686737383 4 (.bin .leq (.int .i64 0) (.symi .i64 2)) (.e))) 690532554 5 (.sop (.cell [.some .i64,.some .i64,.some .u8] 0) [.syms 0,.symi .i64 2]) (.n (.n (.n (.e) 690532556 6 (.sop (.cell [.some .i64,.some .i64,.some .u8] 1) [.syms 0,.symi .i64 2]) (.e)) 690532558 7 (.sop (.cell [.some .i64,.some .i64,.some .u8] 2) [.syms 0,.symi .i64 2]) (.e)) 729386564 16 (.sop (.cell [.some .i64,.some .i64,.some .u8] 0) [.syms 0,.symi .i64 13]) (.n (.n (.e) 729386566 17 (.sop (.cell [.some .i64,.some .i64,.some .u8] 1) [.syms 0,.symi .i64 13]) (.e)) 729386568 18 (.sop (.cell [.some .i64,.some .i64,.some .u8] 2) [.syms 0,.symi .i64 13]) (.e))))
def wt58BW:Sw:=.node 4 (.node 15 (.run (.node 3 (.node 8 (.leaf .ret w26Se [(0,0)] [(1,.symi .i64 1),(2,.symi .i64 2),(3,.int .i64 2),(0,.syms 0),(1,.symi .i64 1)] []) (.node 9 (.leaf .ret w26Se [(0,0)] [(1,.symi .i64 1),(2,.symi .i64 2),(3,.int .i64 2),(0,.syms 0),(1,.symi .i64 1)] []) (.node 10 (.leaf .ret w26Se [(0,0)] [(1,.symi .i64 1),(2,.symi .i64 2),(3,.int .i64 6),(0,.syms 0),(1,.symi .i64 1)] []) (.node 11 (.leaf .ret w26Se [(0,0)] [(1,.symi .i64 1),(2,.symi .i64 2),(3,.int .i64 6),(0,.syms 0),(1,.symi .i64 1)] []) (.node 12 (.node 14 (.node 24 (.leaf .ret w26Se [(0,0)] [(1,.symi .i64 1),(2,.symi .i64 2),(3,.int .i64 28),(0,.syms 0),(1,.symi .i64 1)] []) (.leaf .normal w58S1 [(0,0)] [(1,.symi .i64 1),(2,.symi .i64 25),(0,.syms 0),(1,.symi .i64 1)] [])) (.dead)) (.leaf .normal w58S1 [(0,0)] [(1,.symi .i64 1),(2,.symi .i64 25),(0,.syms 0),(1,.symi .i64 1)] [])))))) (.leaf (.exit 0) w58S1 [(0,0)] [(1,.symi .i64 1),(2,.symi .i64 2),(0,.syms 0),(1,.symi .i64 1)] []))) (.dead)) (.dead)
def wt58BKd:KdT:=.n (.n (.n (.n (.n .e none .e) (some .u8) (.n .e none .e)) none (.n (.n .e none .e) none .e)) (some .i64) (.n (.n (.n .e (some .i64) .e) none (.n .e (some .i64) .e)) (some .i64) (.n (.n .e none .e) (some .i64) .e))) none (.n (.n (.n (.n .e (some .i64) .e) none (.n .e none .e)) none (.n (.n .e none .e) none .e)) (some .i64) (.n (.n (.n .e (some .u8) .e) none .e) (some .i64) (.n (.n .e none .e) none .e)))
def wt58BX:Ing:={m:=3,ins:=(w30K++[some .i64]),G:=wt58BG,T:=wt58BT,tab:=wTab,lsts:=wL,kb:=26,kt:=wt58BKd}
theorem wt58B_lt:okLT 3 wt58BG wt58BT=true:=by kernel_rfl
theorem wt58B_ok:okG wt58BG 3=true:=by kernel_rfl
theorem wt58B_seg:SegOk Try.prog wTab 57 ([loopOf (bodyOf Try.f58)]) w58S1 wt58BX wt58BW where
 lt:=wt58B_lt
 ok:=wt58B_ok
 hook:=fun F=>no_hooks rfl F
 n0:=rfl
 id:=by kernel_rfl
 reck:=by kernel_rfl
 tab:=rfl
 cuts:=rfl
 kt:=by kernel_rfl
def wt58CG:List SDef:=[]
def wt58CT:LT:=.e
def wt58CW:Sw:=.run (.leaf .ret w26Se [(0,0)] [(1,.symi .i64 1),(2,.int .i64 (-1)),(3,.int .i64 0),(0,.syms 0),(1,.symi .i64 1)] [])
def wt58CKd:KdT:=.n (.n .e (some .i64) .e) none (.n .e (some .i64) .e)
def wt58CX:Ing:={m:=3,ins:=(w30K++[some .i64]),G:=wt58CG,T:=wt58CT,tab:=wTab,lsts:=wL,kb:=3,kt:=wt58CKd}
theorem wt58C_lt:okLT 3 wt58CG wt58CT=true:=by kernel_rfl
theorem wt58C_ok:okG wt58CG 3=true:=by kernel_rfl
theorem wt58C_seg:SegOk Try.prog wTab 57 ((flatC (bodyOf Try.f58)).drop 3) w58S1 wt58CX wt58CW where
 lt:=wt58C_lt
 ok:=wt58C_ok
 hook:=fun F=>no_hooks rfl F
 n0:=rfl
 id:=by kernel_rfl
 reck:=by kernel_rfl
 tab:=rfl
 cuts:=rfl
 kt:=by kernel_rfl
def wt58bG:List SDef:=[.bin .lss (.symi .i64 0) (.int .i64 1),
 .bin .gtr (.symi .i64 0) (.int .i64 1073741824),
 .bin .lss (.symi .i64 1) (.int .i64 0),
 .bin .gtr (.symi .i64 1) (.int .i64 2)]
def wt58bT:LT:=.n (.n (.n (.e) 60443 3 (.bin .lss (.symi .i64 0) (.int .i64 1)) (.e)) 101010711 5 (.bin .lss (.symi .i64 1) (.int .i64 0)) (.e)) 101110795 6 (.bin .gtr (.symi .i64 1) (.int .i64 2)) (.n (.e) 1073602144 4 (.bin .gtr (.symi .i64 0) (.int .i64 1073741824)) (.e))
def wt58bW:Sw:=.run (.node 3 (.leaf .ret w26bSe [(0,0)] [(3,.int .i64 0),(4,.int .i64 2),(0,.symi .i64 0),(1,.symi .i64 1),(2,.symi .u8 2)] []) (.node 4 (.leaf .ret w26bSe [(0,0)] [(3,.int .i64 0),(4,.int .i64 2),(0,.symi .i64 0),(1,.symi .i64 1),(2,.symi .u8 2)] []) (.node 5 (.leaf .ret w26bSe [(0,0)] [(3,.int .i64 0),(4,.int .i64 6),(0,.symi .i64 0),(1,.symi .i64 1),(2,.symi .u8 2)] []) (.node 6 (.leaf .ret w26bSe [(0,0)] [(3,.int .i64 0),(4,.int .i64 6),(0,.symi .i64 0),(1,.symi .i64 1),(2,.symi .u8 2)] []) (.leaf .ret w26bSe [(0,0)] [(3,.int .i64 (-1)),(4,.int .i64 0),(0,.symi .i64 0),(1,.symi .i64 1),(2,.symi .u8 2)] [])))))
def wt58bKd:KdT:=.n (.n (.n .e none .e) (some .i64) (.n .e none .e)) (some .i64) (.n (.n .e none .e) (some .u8) (.n .e none .e))
def wt58bX:Ing:={m:=3,ins:=w26bK,G:=wt58bG,T:=wt58bT,tab:=wTab,lsts:=wL,kb:=7,kt:=wt58bKd}
theorem wt58b_lt:okLT 3 wt58bG wt58bT=true:=by kernel_rfl
theorem wt58b_ok:okG wt58bG 3=true:=by kernel_rfl
theorem wt58b_seg:SegOk Try.prog wTab 57 (flatC (bodyOf Try.f58)) w26bS0 wt58bX wt58bW where
 lt:=wt58b_lt
 ok:=wt58b_ok
 hook:=fun F=>no_hooks rfl F
 n0:=rfl
 id:=by kernel_rfl
 reck:=by kernel_rfl
 tab:=rfl
 cuts:=rfl
 kt:=by kernel_rfl
theorem E58 {g:Inj} {w:World} {σ:Sig} (hH:HRel (cx0 wTab) g sf58.pre w) (hg:g.sig.tab=wTab) (h2:σ.ival 2=g.sig.ival 2) (h3:σ.ival 3=g.sig.ival 3) (h0:σ.sval 0=g.sig.sval 0) (h1:σ.ival 1=g.sig.ival 1) (hx:σ.ext=g.sig.ext):
  EndZ wTab 57 (fraOf g w sf58.pre.length) (bodyPost Try.prog Try.f58 (MemR wTab sf58 g w)) .ret w26Se σ:=
 endZ_mem (M:=4) (l:=[(2,.symi .i64 2),(3,.symi .i64 3),(0,.syms 0),(1,.symi .i64 1)]) (vs:=[.symi .i64 2,.symi .i64 3]) (by kernel_rfl) rfl rfl hH hg rfl rfl rfl (by kernel_rfl) (by kernel_rfl)
  ⟨congrArg (AVal.int .i64) h2,congrArg (AVal.int .i64) h3,congrArg AVal.str h0,congrArg (AVal.int .i64) h1,trivial⟩ (Nat.le_refl _) hx (.inl rfl)
set_option maxHeartbeats 1000000 in
theorem c58:SymFOk Try.prog wTab (fun _=>True) sf58:=
 symF_of_stage Try.func58 rfl (n:=57) rfl (by decide) (by decide) rfl rfl (by kernel_rfl) (fun g w hg _ hE hI hpc hH=>by
  obtain ⟨N,hN,hC⟩:=lst_ok (i:=0) hH rfl
  generalize hCC:g.sig.sval 0=C at hC
  have hN1:(N:Int)<9223372036854775808:=by
   have:=hI 1 .i64 (by decide) rfl
   rw [wr_i64,hN] at this;omega
  have hdec:decL (encB C)=lstE C N:=decL_of hC
  have r2:g.sig.ival 2=(ck C N 0).1:=by
   have h:=eqFn (hE.at 0 _ rfl rfl)
   have h:g.sig.ival 2=IntKind.i64.wrap (g.sig.tab 200 [encB (g.sig.sval 0)]):=h
   rw [hg,hCC] at h
   have e:wTab 200 [encB C]=(check (decL (encB C))).1:=rfl
   rw [e,hdec,wr_i64] at h
   have:=ck_fst (l:=lstE C N) (p:=none) (i:=0) (Int.le_refl _)
   rw [lstE_len] at this
   rw [h,ck_check]
   unfold check
   omega
  have r3:g.sig.ival 3=(ck C N 0).2:=by
   have h:=eqFn (hE.at 1 _ rfl rfl)
   have h:g.sig.ival 3=IntKind.i64.wrap (g.sig.tab 201 [encB (g.sig.sval 0)]):=h
   rw [hg,hCC] at h
   have e:wTab 201 [encB C]=(check (decL (encB C))).2:=rfl
   rw [e,hdec,wr_i64] at h
   have:=ck_snd (l:=lstE C N) (p:=none) (i:=0)
   rw [h,ck_check]
   unfold check
   omega
  rw [show flatC (bodyOf Try.f58)=(flatC (bodyOf Try.f58)).take 2++(.block (idOf (bodyOf Try.f58)) (.loop (loopOf (bodyOf Try.f58)))::(flatC (bodyOf Try.f58)).drop 3) from rfl]
  have hlast:Stage Try.prog wTab 57 (fraOf g w 1) (bodyPost Try.prog Try.f58 (MemR wTab sf58 g w)) ((flatC (bodyOf Try.f58)).drop 3) w58S1 3 (w30K++[some .i64]) (fun σ=>J26 C N g.sig.ext σ∧σ.ival 2=N):=by
   refine Stage.last mixed wt58C_seg ⟨rfl,rfl⟩ (fun σ τ ag h=>⟨h.1.agree ag,by rw [←(ag.val 2 (by decide)).1];exact h.2⟩) (fun τ h=>rows_nil) (fun τ e ht hi hj=> ?_) (pin1 (by kernel_rfl))
   refine segsPw_segs ?_
   obtain ⟨hj,hjN⟩:=hj
   obtain ⟨j,k1,k2,k3⟩:=hj.j
   have:j=N:=by omega
   subst this
   rw [ck_end] at k3
   refine E58 hH hg ?_ ?_ (hj.s.trans hCC.symm) (hj.n.trans hN.symm) hj.x
   ·show (-1:Int)=_;rw [r2,k3]
   ·show (0:Int)=_;rw [r3,k3]
  have hloop:Stage Try.prog wTab 57 (fraOf g w 1) (bodyPost Try.prog Try.f58 (MemR wTab sf58 g w)) (.block (idOf (bodyOf Try.f58)) (.loop (loopOf (bodyOf Try.f58)))::(flatC (bodyOf Try.f58)).drop 3) w58S1 3 (w30K++[some .i64]) (J26 C N g.sig.ext):=by
   refine Stage.loop (μ:=fun σ=>(N-σ.ival 2).toNat) mixed wt58B_seg ⟨rfl,rfl⟩ (fun σ τ ag h=>h.agree ag) (fun σ τ ag=>by rw [(ag.val 2 (by decide)).1]) (fun τ h=>rows_nil) hlast (fun τ e ht hi hj=> ?_) (pin1 (by kernel_rfl))
   refine segsPw_segs ?_
   obtain ⟨j,k1,k2,k3⟩:=hj.j
   have a0:τ.sval 0=C:=hj.s
   have a1:τ.ival 1=N:=hj.n
   have b3:τ.bval 3=decide (τ.ival 2<τ.ival 1):=eqB (e.at 0 _ rfl rfl) rfl
   have b4:τ.bval 4=decide ((0:Int)≤τ.ival 2):=eqB (e.at 1 _ rfl rfl) rfl
   have c5:=eqCell (m:=j) (e.at 2 _ rfl rfl) (show den τ (.symi .i64 2)=_ by rw [←k1];rfl)
   have c6:=eqCell (m:=j) (e.at 3 _ rfl rfl) (show den τ (.symi .i64 2)=_ by rw [←k1];rfl)
   rw [a0] at c5 c6
   have v5:τ.ival 5=(rowE C j).t:=by simp only [rowE,c5,iOf]
   have v6:τ.ival 6=(rowE C j).k:=by simp only [rowE,c6,iOf]
   have b8:τ.bval 8=decide (τ.ival 5<1):=eqB (e.at 5 _ rfl rfl) rfl
   have b9:τ.bval 9=decide (τ.ival 5>1073741824):=eqB (e.at 6 _ rfl rfl) rfl
   have b10:τ.bval 10=decide (τ.ival 6<0):=eqB (e.at 7 _ rfl rfl) rfl
   have b11:τ.bval 11=decide (τ.ival 6>2):=eqB (e.at 8 _ rfl rfl) rfl
   have b12:τ.bval 12=decide (τ.ival 2>0):=eqB (e.at 9 _ rfl rfl) rfl
   have i13:τ.ival 13=IntKind.i64.wrap (τ.ival 2-1):=eqI (e.at 10 _ rfl rfl) rfl
   have b14:τ.bval 14=decide ((0:Int)≤τ.ival 13):=eqB (e.at 11 _ rfl rfl) rfl
   have b15:τ.bval 15=decide (τ.ival 13<τ.ival 1):=eqB (e.at 12 _ rfl rfl) rfl
   have b19:τ.bval 19=decide (τ.ival 16<τ.ival 5):=eqB (e.at 16 _ rfl rfl) rfl
   have b20:τ.bval 20=(τ.ival 16==τ.ival 5):=eqB (e.at 17 _ rfl rfl) rfl
   have b21:τ.bval 21=decide (τ.ival 17<τ.ival 6):=eqB (e.at 18 _ rfl rfl) rfl
   have b22:τ.bval 22=(bif τ.bval 20 then τ.bval 21 else false):=eqIteB (e.at 19 _ rfl rfl) rfl rfl rfl
   have b23:τ.bval 23=(bif τ.bval 19 then true else τ.bval 22):=eqIteB (e.at 20 _ rfl rfl) rfl rfl rfl
   have b24:τ.bval 24= !(τ.bval 23):=eqB (e.at 21 _ rfl rfl) rfl
   have i25:τ.ival 25=IntKind.i64.wrap (τ.ival 2+1):=eqI (e.at 22 _ rfl rfl) rfl
   rw [wr_i64] at i13 i25
   have out: ∀(n:Int),j<N→codeOf (pv C j) (rowE C j)=n→n≠0→EndZ wTab 57 (fraOf g w 1) (bodyPost Try.prog Try.f58 (MemR wTab sf58 g w)) .ret w26Se (asgS τ ([(1,.symi .i64 1),(2,.symi .i64 2),(3,.int .i64 n),(0,.syms 0),(1,.symi .i64 1)]++[])):=by
    intro n hlt h1 h2
    have hk:=ck_no hlt (by rw [h1];exact h2)
    rw [←k3,h1] at hk
    refine E58 hH hg ?_ ?_ (hj.s.trans hCC.symm) (hj.n.trans hN.symm) hj.x
    ·show τ.ival 2=_;rw [r2,hk];exact k1
    ·show n=_;rw [r3,hk]
   have go:j<N→codeOf (pv C j) (rowE C j)=0→InsOk (asgS τ ([(1,.symi .i64 1),(2,.symi .i64 25),(0,.syms 0),(1,.symi .i64 1)]++[])) 3 (w30K++[some .i64])∧J26 C N g.sig.ext (asgS τ ([(1,.symi .i64 1),(2,.symi .i64 25),(0,.syms 0),(1,.symi .i64 1)]++[]))∧τ.tab=wTab∧(N-τ.ival 25).toNat<(N-τ.ival 2).toNat:=by
    intro hlt h1
    refine ⟨insOk_kt (X:=wt58BX) e hi (by kernel_rfl) (by kernel_rfl),⟨hj.s,hj.n,hj.x,j+1,?_,by omega,k3.trans (ck_go hlt h1)⟩,ht,by omega⟩
    show τ.ival 25=_;omega
   refine ⟨fun f4=>⟨fun f15=>⟨fun f3=> ?_,fun f3=> ?_⟩,fun f15=> ?_⟩,fun f4=> ?_⟩
   ·rw [b3,decide_eq_true_eq] at f3
    have hlt:j<N:=by omega
    refine ⟨fun f8=> .inr (.inr ⟨rfl,out 2 hlt (code2 ?_) (by decide)⟩),fun f8=>⟨fun f9=> .inr (.inr ⟨rfl,out 2 hlt (code2 ?_) (by decide)⟩),fun f9=> ?_⟩⟩
    ·rw [b8,decide_eq_true_eq] at f8;omega
    ·rw [b9,decide_eq_true_eq] at f9;omega
    ·rw [b8,decide_eq_false_iff_not] at f8
     rw [b9,decide_eq_false_iff_not] at f9
     have n1: ¬((rowE C j).t<1∨1073741824<(rowE C j).t):=by omega
     refine ⟨fun f10=> .inr (.inr ⟨rfl,out 6 hlt (code6 n1 ?_) (by decide)⟩),fun f10=>⟨fun f11=> .inr (.inr ⟨rfl,out 6 hlt (code6 n1 ?_) (by decide)⟩),fun f11=> ?_⟩⟩
     ·rw [b10,decide_eq_true_eq] at f10;omega
     ·rw [b11,decide_eq_true_eq] at f11;omega
     ·rw [b10,decide_eq_false_iff_not] at f10
      rw [b11,decide_eq_false_iff_not] at f11
      have n2: ¬((rowE C j).k<0∨2<(rowE C j).k):=by omega
      refine ⟨fun f12=>⟨fun f14=> ?_,fun f14=> ?_⟩,fun f12=> ?_⟩
      ·rw [b12,decide_eq_true_eq] at f12
       have hj0:0<j:=by omega
       have k13:τ.ival 13=((j-1:Nat):Int):=by omega
       have c16:=eqCell (m:=j-1) (e.at 13 _ rfl rfl) (show den τ (.symi .i64 13)=_ by rw [←k13];rfl)
       have c17:=eqCell (m:=j-1) (e.at 14 _ rfl rfl) (show den τ (.symi .i64 13)=_ by rw [←k13];rfl)
       rw [a0] at c16 c17
       have v16:τ.ival 16=(rowE C (j-1)).t:=by simp only [rowE,c16,iOf]
       have v17:τ.ival 17=(rowE C (j-1)).k:=by simp only [rowE,c17,iOf]
       have hp:pv C j=some (rowE C (j-1)):=by rw [pv,if_neg (by omega)]
       have ha:τ.bval 24= !(Wpl.ahead (rowE C (j-1)) (rowE C j)):=by
        rw [b24,b23,b22,b21,b20,b19,v16,v17,v5,v6]
        simp only [Wpl.ahead]
        by_cases g1:(rowE C (j-1)).t<(rowE C j).t
        ·simp [g1]
        ·by_cases g2:(rowE C (j-1)).t=(rowE C j).t
         ·simp [g2]
         ·have g3:((rowE C (j-1)).t==(rowE C j).t)=false:=beq_eq_false_iff_ne.2 g2
          simp [g1,g2,g3]
       refine ⟨fun f24=> .inr (.inr ⟨rfl,out 28 hlt ?_ (by decide)⟩),fun f24=> ?_⟩
       ·rw [hp,codeP n1 n2]
        rw [ha] at f24
        have:Wpl.ahead (rowE C (j-1)) (rowE C j)=false:=by simpa using f24
        rw [this];rfl
       ·obtain ⟨q1,q2,q3,q4⟩:=go hlt (by
         rw [hp,codeP n1 n2]
         rw [ha] at f24
         have:Wpl.ahead (rowE C (j-1)) (rowE C j)=true:=by simpa using f24
         rw [this];rfl)
        exact .inl ⟨rfl,rfl,q1,q2,q3,q4⟩
      ·rw [b12,decide_eq_true_eq] at f12
       rw [b14,decide_eq_false_iff_not] at f14
       exfalso;omega
      ·rw [b12,decide_eq_false_iff_not] at f12
       have hj0:j=0:=by omega
       obtain ⟨q1,q2,q3,q4⟩:=go hlt (by
        have hp:pv C j=none:=by rw [pv,if_pos hj0]
        rw [hp];exact code0 n1 n2)
       exact .inl ⟨rfl,rfl,q1,q2,q3,q4⟩
   ·rw [b3,decide_eq_false_iff_not] at f3
    refine .inr (.inl ⟨rfl,rfl,insOk_kt (X:=wt58BX) e hi (by kernel_rfl) (by kernel_rfl),⟨⟨hj.s,hj.n,hj.x,j,k1,k2,k3⟩,?_⟩,ht⟩)
    show τ.ival 2=_
    omega
   ·rw [b15,decide_eq_false_iff_not] at f15
    exfalso;omega
   ·rw [b4,decide_eq_false_iff_not] at f4
    exfalso;omega
  have:=Stage.seg mixed wt58A_seg ⟨rfl,rfl⟩ (fun σ τ (ag:Agree 2 σ τ) (h:Agree 2 g.sig σ)=>h.trans' ag) (fun τ h=>rows_nil) hloop (fun τ e ht hi ag=>by
   refine segsPw_segs (.inl ⟨rfl,rfl,insOk_kt (X:=wt58AX) e hi (by kernel_rfl) (by kernel_rfl),⟨?_,?_,ag.ext.symm,0,rfl,Nat.zero_le _,rfl⟩,ht⟩)
   ·show τ.sval 0=C;rw [←(ag.val 0 (by decide)).2.2];exact hCC
   ·show τ.ival 1=_;rw [←(ag.val 1 (by decide)).1];exact hN) (pin1 (by kernel_rfl))
  exact this)
theorem c58b:SymFOk Try.prog wTab (fun _=>True) sf58b:=
 symF_of_stage Try.func58 rfl (n:=57) rfl (by decide) (by decide) rfl rfl (by kernel_rfl) (fun g w hg _ hE hI hpc hH=>by
  refine Stage.last mixed wt58b_seg ⟨rfl,rfl⟩ (fun σ τ (ag:Agree 3 σ τ) (h:Agree 3 g.sig σ)=>h.trans' ag) (fun τ h=>rows_nil) (fun τ e ht hi ag=> ?_) (pin0 (by kernel_rfl))
  refine segsPw_segs ?_
  have a0:τ.ival 0=g.sig.ival 0:=(ag.val 0 (by decide)).1.symm
  have a1:τ.ival 1=g.sig.ival 1:=(ag.val 1 (by decide)).1.symm
  have a2:τ.ival 2=g.sig.ival 2:=(ag.val 2 (by decide)).1.symm
  generalize hx:(⟨g.sig.ival 0,g.sig.ival 1,g.sig.ival 2⟩:E3)=x
  have x0:g.sig.ival 0=x.t:=by rw [←hx]
  have x1:g.sig.ival 1=x.k:=by rw [←hx]
  have x2:g.sig.ival 2=x.v:=by rw [←hx]
  have r3:g.sig.ival 3=IntKind.i64.wrap (check [x]).1:=by
   have h:g.sig.ival 3=IntKind.i64.wrap (g.sig.tab 255 [g.sig.ival 0,g.sig.ival 1,g.sig.ival 2]):=eqFn (hE.at 0 _ rfl rfl)
   rw [h,hg,x0,x1,x2];rfl
  have r4:g.sig.ival 4=IntKind.i64.wrap (check [x]).2:=by
   have h:g.sig.ival 4=IntKind.i64.wrap (g.sig.tab 256 [g.sig.ival 0,g.sig.ival 1,g.sig.ival 2]):=eqFn (hE.at 1 _ rfl rfl)
   rw [h,hg,x0,x1,x2];rfl
  have b3:τ.bval 3=decide (τ.ival 0<1):=eqB (e.at 0 _ rfl rfl) rfl
  have b4:τ.bval 4=decide (τ.ival 0>1073741824):=eqB (e.at 1 _ rfl rfl) rfl
  have b5:τ.bval 5=decide (τ.ival 1<0):=eqB (e.at 2 _ rfl rfl) rfl
  have b6:τ.bval 6=decide (τ.ival 1>2):=eqB (e.at 3 _ rfl rfl) rfl
  have fin: ∀(p c:Int),(check [x]).1=p→(check [x]).2=c→IntKind.i64.wrap p=p→IntKind.i64.wrap c=c→EndZ wTab 57 (fraOf g w 1) (bodyPost Try.prog Try.f58 (MemR wTab sf58b g w)) .ret w26bSe (asgS τ ([(3,.int .i64 p),(4,.int .i64 c),(0,.symi .i64 0),(1,.symi .i64 1),(2,.symi .u8 2)]++[])):=by
   intro p c h1 h2 h3 h4
   rw [h1,h3] at r3
   rw [h2,h4] at r4
   exact endZ_mem (M:=5) (l:=L26b) (vs:=[.symi .i64 3,.symi .i64 4]) (by kernel_rfl) rfl rfl hH hg rfl rfl rfl (by kernel_rfl) (by kernel_rfl) ⟨congrArg (AVal.int .i64) r3.symm,congrArg (AVal.int .i64) r4.symm,congrArg (AVal.int .i64) a0,congrArg (AVal.int .i64) a1,congrArg (AVal.int .u8) a2,trivial⟩ (Nat.le_refl _) (extS ag.ext.symm) (.inl rfl)
  rw [a0,x0] at b3 b4
  rw [a1,x1] at b5 b6
  have hc:=check_one x
  have t3:τ.bval 3=true↔x.t<1:=by rw [b3,decide_eq_true_eq]
  have t4:τ.bval 4=true↔x.t>1073741824:=by rw [b4,decide_eq_true_eq]
  have t5:τ.bval 5=true↔x.k<0:=by rw [b5,decide_eq_true_eq]
  have t6:τ.bval 6=true↔x.k>2:=by rw [b6,decide_eq_true_eq]
  have n3:τ.bval 3=false→ ¬x.t<1:=fun h k=>by rw [t3.2 k] at h;cases h
  have n4:τ.bval 4=false→ ¬x.t>1073741824:=fun h k=>by rw [t4.2 k] at h;cases h
  have n5:τ.bval 5=false→ ¬x.k<0:=fun h k=>by rw [t5.2 k] at h;cases h
  have n6:τ.bval 6=false→ ¬x.k>2:=fun h k=>by rw [t6.2 k] at h;cases h
  refine ⟨fun f3=> ?_,fun f3=>⟨fun f4=> ?_,fun f4=>⟨fun f5=> ?_,fun f5=>⟨fun f6=> ?_,fun f6=> ?_⟩⟩⟩⟩
  ·have f3:=t3.1 f3
   rw [code2 (.inl f3)] at hc
   exact fin 0 2 (by rw [hc];rfl) (by rw [hc];rfl) rfl rfl
  ·have f4:=t4.1 f4
   rw [code2 (.inr (by omega))] at hc
   exact fin 0 2 (by rw [hc];rfl) (by rw [hc];rfl) rfl rfl
  ·have f3:=n3 f3
   have f4:=n4 f4
   have f5:=t5.1 f5
   rw [code6 (by omega) (.inl f5)] at hc
   exact fin 0 6 (by rw [hc];rfl) (by rw [hc];rfl) rfl rfl
  ·have f3:=n3 f3
   have f4:=n4 f4
   have f6:=t6.1 f6
   rw [code6 (by omega) (.inr (by omega))] at hc
   exact fin 0 6 (by rw [hc];rfl) (by rw [hc];rfl) rfl rfl
  ·have f3:=n3 f3
   have f4:=n4 f4
   have f5:=n5 f5
   have f6:=n6 f6
   rw [code0 (by omega) (by omega)] at hc
   exact fin (-1) 0 (by rw [hc];rfl) (by rw [hc];rfl) rfl rfl)
end Go.Proofs.Ytapfkgenachpgaa.wc
