/-
 Contracts of the document's answer for the world; what is refused; alike.
 No conditions.
-/
import Derived.Test.YtapfkgenachpgaaWu1
import Derived.WalkKit
set_option maxRecDepth 100000
namespace Go.Proofs.Ytapfkgenachpgaa.wc
open Go.Ev Go.RowKit Go.Wpl Go.Wt
set_option linter.unusedVariables false
set_option linter.unusedSimpArgs false
def wt33AG:List SDef:=[.fn 200 .i64 [.syms 0],
 .fn 201 .i64 [.syms 0],
 .bin .neq (.symi .i64 4) (.int .i64 0),
 .bin .lss (.symi .i64 2) (.int .i64 1)]
def wt33AT:LT:=.n (.n (.n (.e) 14149 3 (.fn 200 .i64 [.syms 0]) (.e)) 14192 4 (.fn 201 .i64 [.syms 0]) (.e)) 202061049 6 (.bin .lss (.symi .i64 2) (.int .i64 1)) (.n (.e) 404011613 5 (.bin .neq (.symi .i64 4) (.int .i64 0)) (.e))
def wt33AW:Sw:=.run (.node 5 (.leaf .ret w33Se [(0,0),(1,0)] [(1,.symi .i64 1),(0,.syms 0),(1,.symi .i64 1),(3,.int .u8 0),(4,.int .u8 0),(5,.bool false),(6,.int .u8 0)] []) (.node 6 (.leaf .ret w33Se [(0,0),(1,0)] [(1,.symi .i64 1),(0,.syms 0),(1,.symi .i64 1),(3,.int .u8 0),(4,.int .u8 0),(5,.bool false),(6,.int .u8 0)] []) (.leaf .normal w33S1 [(0,0),(1,0),(2,0)] [(1,.symi .i64 1),(2,.symi .i64 2),(7,.int .i64 0),(0,.syms 0),(1,.symi .i64 1),(3,.int .u8 0),(4,.int .u8 0),(5,.bool false),(6,.int .u8 0)] [])))
def wt33AKd:KdT:=.n (.n (.n .e (some .i64) .e) (some .i64) (.n .e none .e)) none (.n (.n .e (some .i64) .e) (some .i64) (.n .e none .e))
def wt33AY:Ing:={m:=3,ins:=w28K,G:=wt33AG,T:=wt33AT,tab:=wTab,lsts:=wL,kb:=7,kt:=wt33AKd}
def wt33AX:Ing:={m:=3,ins:=w28K,G:=wt33AG,T:=wt33AT,tab:=wTab,lsts:=wL,kb:=7,kt:=wt33AKd,mh:=symMf (kdX wt33AY) [sf58]}
theorem wt33A_lt:okLT 3 wt33AG wt33AT=true:=by kernel_rfl
theorem wt33A_ok:okG wt33AG 3=true:=by kernel_rfl
theorem wt33A_hooks (F:List Fact):Hooks Try.prog (cxOf wt33AX F) where
 val:=fun f args v h=>by simp only [wt33AX,cxOf,noHook,reduceCtorEq] at h
 mem:=fun f args hp v hp' h=>by
  replace h:(symMf (kdX wt33AY) [sf58]) (symS (baseOf wt33AX F)) f args hp=some (v,hp'):=h
  exact mem_symF (X:=wt33AX) (tbl:=[sf58]) (inv:=fun _=>True) (fun e he=>by
   simp only [List.mem_cons,List.not_mem_nil,or_false] at he
   rcases he with rfl
   ·exact c58) wt33A_lt rfl (fun _ _ _ _=>trivial) F f args hp v hp' h
 ovl:=fun f k h=>by simp only [wt33AX,cxOf,reduceCtorEq] at h
 atm:=fun k b h=>by simp only [wt33AX,cxOf,List.not_mem_nil] at h
theorem wt33A_seg:SegOk Try.prog wTab 70 ((flatC (bodyOf Try.f33)).take 6) w28S0 wt33AX wt33AW where
 lt:=wt33A_lt
 ok:=wt33A_ok
 hook:=wt33A_hooks
 n0:=rfl
 id:=by kernel_rfl
 reck:=by kernel_rfl
 tab:=rfl
 cuts:=rfl
 kt:=by kernel_rfl
def wt33BG:List SDef:=[.bin .lss (.symi .i64 7) (.symi .i64 1),
 .bin .leq (.int .i64 0) (.symi .i64 7),
 .sop (.cell [.some .i64,.some .i64,.some .u8] 0) [.syms 0,.symi .i64 7],
 .sop (.cell [.some .i64,.some .i64,.some .u8] 1) [.syms 0,.symi .i64 7],
 .sop (.cell [.some .i64,.some .i64,.some .u8] 2) [.syms 0,.symi .i64 7],
 .bin .eql (.symi .i64 11) (.int .i64 0),
 .bin .leq (.symi .i64 10) (.symi .i64 2),
 .bin .eql (.symi .i64 11) (.int .i64 2),
 .bin .eql (.symi .i64 11) (.int .i64 1),
 .bin .eql (.symi .i64 10) (.symi .i64 2),
 .ite (.symb 17) (.bool true) (.symb 5),
 .ite (.symb 17) (.symi .u8 12) (.symi .u8 6),
 .ite (.symb 16) (.symb 17) (.bool false),
 .ite (.symb 16) (.symb 18) (.symb 5),
 .ite (.symb 16) (.symi .u8 19) (.symi .u8 6),
 .ite (.symb 15) (.symi .u8 12) (.symi .u8 4),
 .ite (.symb 14) (.symb 15) (.bool false),
 .ite (.symb 14) (.symi .u8 12) (.symi .u8 3),
 .ite (.symb 14) (.symi .u8 23) (.symi .u8 4),
 .ite (.symb 14) (.symi .u8 12) (.symi .u8 4),
 .ite (.symb 15) (.symb 14) (.bool false),
 .ite (.symb 15) (.symi .u8 27) (.symi .u8 4),
 .ite (.symb 13) (.symb 14) (.bool false),
 .ite (.symb 13) (.symb 24) (.symb 28),
 .ite (.symb 13) (.symi .u8 25) (.symi .u8 3),
 .ite (.symb 13) (.symi .u8 26) (.symi .u8 29),
 .bin .add (.symi .i64 7) (.int .i64 1)]
def wt33BT:LT:=.n (.n (.n (.n (.n (.e) 37271900 13 (.bin .eql (.symi .i64 11) (.int .i64 0)) (.e)) 37321935 16 (.bin .eql (.symi .i64 11) (.int .i64 1)) (.n (.e) 37371970 15 (.bin .eql (.symi .i64 11) (.int .i64 2)) (.e))) 43106020 27 (.ite (.symb 14) (.symi .u8 12) (.symi .u8 4)) (.n (.n (.e) 182110607 23 (.ite (.symb 15) (.symi .u8 12) (.symi .u8 4)) (.e)) 256021619 9 (.bin .leq (.int .i64 0) (.symi .i64 7)) (.e))) 269633658 29 (.ite (.symb 15) (.symi .u8 27) (.symi .u8 4)) (.n (.n (.n (.e) 292480812 21 (.ite (.symb 16) (.symb 18) (.symb 5)) (.e)) 396409881 33 (.ite (.symb 13) (.symi .u8 26) (.symi .u8 29)) (.n (.e) 462194317 20 (.ite (.symb 16) (.symb 17) (.bool false)) (.e))) 592377402 22 (.ite (.symb 16) (.symi .u8 19) (.symi .u8 6)) (.n (.n (.e) 608369110 26 (.ite (.symb 14) (.symi .u8 23) (.symi .u8 4)) (.e)) 616364964 32 (.ite (.symb 13) (.symi .u8 25) (.symi .u8 3)) (.e)))) 622998767 17 (.bin .eql (.symi .i64 10) (.symi .i64 2)) (.n (.n (.n (.n (.e) 622998788 14 (.bin .leq (.symi .i64 10) (.symi .i64 2)) (.e)) 671907632 30 (.ite (.symb 13) (.symb 14) (.bool false)) (.n (.e) 707062473 34 (.bin .add (.symi .i64 7) (.int .i64 1)) (.e))) 762120687 19 (.ite (.symb 17) (.symi .u8 12) (.symi .u8 6)) (.n (.n (.e) 805806361 10 (.sop (.cell [.some .i64,.some .i64,.some .u8] 0) [.syms 0,.symi .i64 7]) (.e)) 805806363 11 (.sop (.cell [.some .i64,.some .i64,.some .u8] 1) [.syms 0,.symi .i64 7]) (.e))) 805806365 12 (.sop (.cell [.some .i64,.some .i64,.some .u8] 2) [.syms 0,.symi .i64 7]) (.n (.n (.n (.e) 949916806 28 (.ite (.symb 15) (.symb 14) (.bool false)) (.e)) 959917136 24 (.ite (.symb 14) (.symb 15) (.bool false)) (.n (.e) 965847394 25 (.ite (.symb 14) (.symi .u8 12) (.symi .u8 3)) (.e))) 970623268 18 (.ite (.symb 17) (.bool true) (.symb 5)) (.n (.n (.e) 1021385681 31 (.ite (.symb 13) (.symb 24) (.symb 28)) (.e)) 1050386121 8 (.bin .lss (.symi .i64 7) (.symi .i64 1)) (.e))))
def wt33BW:Sw:=.node 9 (.run (.node 8 (.leaf .normal w33S1 [(0,0),(1,0),(2,0)] [(1,.symi .i64 1),(2,.symi .i64 2),(7,.symi .i64 34),(0,.syms 0),(1,.symi .i64 1),(3,.symi .u8 32),(4,.symi .u8 33),(5,.symb 21),(6,.symi .u8 22)] []) (.leaf (.exit 0) w33S1 [(0,0),(1,0),(2,0)] [(1,.symi .i64 1),(2,.symi .i64 2),(7,.symi .i64 7),(0,.syms 0),(1,.symi .i64 1),(3,.symi .u8 3),(4,.symi .u8 4),(5,.symb 5),(6,.symi .u8 6)] []))) (.dead)
def wt33BKd:KdT:=.n (.n (.n (.n (.n (.n .e none .e) none .e) (some .i64) (.n .e (some .u8) .e)) (some .u8) (.n (.n .e (some .u8) .e) (some .i64) (.n .e (some .u8) .e))) (some .i64) (.n (.n (.n (.n .e (some .u8) .e) none .e) none (.n .e (some .u8) .e)) none (.n (.n .e none .e) none (.n .e (some .u8) .e)))) none (.n (.n (.n (.n (.n .e (some .u8) .e) none .e) none (.n .e none .e)) (some .u8) (.n (.n .e none .e) (some .u8) (.n .e none .e))) (some .i64) (.n (.n (.n (.n .e (some .i64) .e) none .e) (some .i64) (.n .e (some .u8) .e)) (some .u8) (.n (.n .e (some .u8) .e) none (.n .e none .e))))
def wt33BX:Ing:={m:=8,ins:=w33K1,G:=wt33BG,T:=wt33BT,tab:=wTab,lsts:=wL,kb:=35,kt:=wt33BKd}
theorem wt33B_lt:okLT 8 wt33BG wt33BT=true:=by kernel_rfl
theorem wt33B_ok:okG wt33BG 8=true:=by kernel_rfl
theorem wt33B_seg:SegOk Try.prog wTab 70 ([loopOf (bodyOf Try.f33)]) w33S1 wt33BX wt33BW where
 lt:=wt33B_lt
 ok:=wt33B_ok
 hook:=fun F=>no_hooks rfl F
 n0:=rfl
 id:=by kernel_rfl
 reck:=by kernel_rfl
 tab:=rfl
 cuts:=rfl
 kt:=by kernel_rfl
def wt33CG:List SDef:=[]
def wt33CT:LT:=.e
def wt33CW:Sw:=.run (.leaf .ret w33Se [(0,0),(1,0)] [(1,.symi .i64 1),(0,.syms 0),(1,.symi .i64 1),(3,.symi .u8 3),(4,.symi .u8 4),(5,.symb 5),(6,.symi .u8 6)] [])
def wt33CKd:KdT:=.n (.n (.n (.n .e (some .i64) .e) (some .u8) .e) (some .i64) (.n .e none .e)) none (.n (.n .e (some .u8) .e) (some .i64) (.n .e (some .u8) .e))
def wt33CX:Ing:={m:=8,ins:=w33K1,G:=wt33CG,T:=wt33CT,tab:=wTab,lsts:=wL,kb:=8,kt:=wt33CKd}
theorem wt33C_lt:okLT 8 wt33CG wt33CT=true:=by kernel_rfl
theorem wt33C_ok:okG wt33CG 8=true:=by kernel_rfl
theorem wt33C_seg:SegOk Try.prog wTab 70 ((flatC (bodyOf Try.f33)).drop 7) w33S1 wt33CX wt33CW where
 lt:=wt33C_lt
 ok:=wt33C_ok
 hook:=fun F=>no_hooks rfl F
 n0:=rfl
 id:=by kernel_rfl
 reck:=by kernel_rfl
 tab:=rfl
 cuts:=rfl
 kt:=by kernel_rfl
def wt60AG:List SDef:=[]
def wt60AT:LT:=.e
def wt60AW:Sw:=.run (.leaf .normal w60S1 [(0,0),(1000001,0)] [(1,.symi .i64 1),(2,.symi .i64 2),(4,.int .i64 0),(5,.int .i64 0),(0,.syms 0),(1,.symi .i64 1),(3,.str ⟨#[]⟩),(4,.int .i64 0)] [])
def wt60AKd:KdT:=.n (.n .e (some .i64) .e) none (.n .e (some .i64) .e)
def wt60AX:Ing:={m:=3,ins:=w35K,G:=wt60AG,T:=wt60AT,tab:=wTab,lsts:=wL,kb:=3,kt:=wt60AKd}
theorem wt60A_lt:okLT 3 wt60AG wt60AT=true:=by kernel_rfl
theorem wt60A_ok:okG wt60AG 3=true:=by kernel_rfl
theorem wt60A_seg:SegOk Try.prog wTab 28 ((flatC (bodyOf Try.f60)).take 3) w35S0 wt60AX wt60AW where
 lt:=wt60A_lt
 ok:=wt60A_ok
 hook:=fun F=>no_hooks rfl F
 n0:=rfl
 id:=by kernel_rfl
 reck:=by kernel_rfl
 tab:=rfl
 cuts:=rfl
 kt:=by kernel_rfl
def wt60BG:List SDef:=[.bin .lss (.symi .i64 5) (.symi .i64 1),
 .bin .leq (.int .i64 0) (.symi .i64 5),
 .sop (.cell [.some .i64,.some .i64,.some .u8] 0) [.syms 0,.symi .i64 5],
 .sop (.cell [.some .i64,.some .i64,.some .u8] 1) [.syms 0,.symi .i64 5],
 .sop (.cell [.some .i64,.some .i64,.some .u8] 2) [.syms 0,.symi .i64 5],
 .bin .leq (.symi .i64 8) (.symi .i64 2),
 .sop (.row [.some .i64,.some .i64,.some .u8]) [.symi .i64 8,.symi .i64 9,.symi .u8 10],
 .sop .cat [.syms 3,.syms 12],
 .bin .add (.symi .i64 4) (.int .i64 1),
 .bin .leq (.int .i64 0) (.symi .i64 14),
 .bin .leq (.symi .i64 14) (.int .i64 5864062014805),
 .bin .add (.symi .i64 5) (.int .i64 1)]
def wt60BT:LT:=.n (.n (.n (.n (.e) 115451742 8 (.sop (.cell [.some .i64,.some .i64,.some .u8] 0) [.syms 0,.symi .i64 5]) (.e)) 115451744 9 (.sop (.cell [.some .i64,.some .i64,.some .u8] 1) [.syms 0,.symi .i64 5]) (.n (.e) 115451746 10 (.sop (.cell [.some .i64,.some .i64,.some .u8] 2) [.syms 0,.symi .i64 5]) (.e))) 320759310 12 (.sop (.row [.some .i64,.some .i64,.some .u8]) [.symi .i64 8,.symi .i64 9,.symi .u8 10]) (.n (.n (.e) 350510505 13 (.sop .cat [.syms 3,.syms 12]) (.e)) 404061564 14 (.bin .add (.symi .i64 4) (.int .i64 1)) (.e))) 420998182 11 (.bin .leq (.symi .i64 8) (.symi .i64 2)) (.n (.n (.n (.e) 505061867 17 (.bin .add (.symi .i64 5) (.int .i64 1)) (.e)) 512013011 15 (.bin .leq (.int .i64 0) (.symi .i64 14)) (.e)) 643056290 7 (.bin .leq (.int .i64 0) (.symi .i64 5)) (.n (.n (.e) 848385515 6 (.bin .lss (.symi .i64 5) (.symi .i64 1)) (.e)) 952138481 16 (.bin .leq (.symi .i64 14) (.int .i64 5864062014805)) (.e)))
def wt60BW:Sw:=.node 7 (.node 15 (.node 16 (.run (.node 6 (.node 11 (.leaf .normal w60S1 [(0,0),(3,0)] [(1,.symi .i64 1),(2,.symi .i64 2),(4,.symi .i64 14),(5,.symi .i64 17),(0,.syms 0),(1,.symi .i64 1),(3,.syms 13),(4,.symi .i64 14)] []) (.leaf .normal w60S1 [(0,0),(1,0)] [(1,.symi .i64 1),(2,.symi .i64 2),(4,.symi .i64 4),(5,.symi .i64 17),(0,.syms 0),(1,.symi .i64 1),(3,.syms 3),(4,.symi .i64 4)] [])) (.leaf (.exit 0) w60S1 [(0,0),(1,0)] [(1,.symi .i64 1),(2,.symi .i64 2),(4,.symi .i64 4),(5,.symi .i64 5),(0,.syms 0),(1,.symi .i64 1),(3,.syms 3),(4,.symi .i64 4)] []))) (.dead)) (.dead)) (.dead)
def wt60BKd:KdT:=.n (.n (.n (.n (.n .e none .e) none .e) none (.n .e none .e)) (some .i64) (.n (.n (.n .e (some .i64) .e) (some .i64) .e) (some .i64) (.n .e none .e))) none (.n (.n (.n (.n .e none .e) (some .i64) .e) (some .i64) (.n .e none .e)) (some .i64) (.n (.n .e (some .u8) .e) none (.n .e (some .i64) .e)))
def wt60BX:Ing:={m:=6,ins:=w60K1,G:=wt60BG,T:=wt60BT,tab:=wTab,lsts:=wL,kb:=18,kt:=wt60BKd}
theorem wt60B_lt:okLT 6 wt60BG wt60BT=true:=by kernel_rfl
theorem wt60B_ok:okG wt60BG 6=true:=by kernel_rfl
theorem wt60B_seg:SegOk Try.prog wTab 28 ([loopOf (bodyOf Try.f60)]) w60S1 wt60BX wt60BW where
 lt:=wt60B_lt
 ok:=wt60B_ok
 hook:=fun F=>no_hooks rfl F
 n0:=rfl
 id:=by kernel_rfl
 reck:=by kernel_rfl
 tab:=rfl
 cuts:=rfl
 kt:=by kernel_rfl
def wt60CG:List SDef:=[]
def wt60CT:LT:=.e
def wt60CW:Sw:=.run (.leaf .ret w60Se [(0,0),(1,0)] [(1,.symi .i64 1),(4,.symi .i64 4),(0,.syms 0),(1,.symi .i64 1),(3,.syms 3),(4,.symi .i64 4)] [])
def wt60CKd:KdT:=.n (.n (.n .e none .e) (some .i64) (.n .e (some .i64) .e)) none (.n (.n .e (some .i64) .e) (some .i64) .e)
def wt60CX:Ing:={m:=6,ins:=w60K1,G:=wt60CG,T:=wt60CT,tab:=wTab,lsts:=wL,kb:=6,kt:=wt60CKd}
theorem wt60C_lt:okLT 6 wt60CG wt60CT=true:=by kernel_rfl
theorem wt60C_ok:okG wt60CG 6=true:=by kernel_rfl
theorem wt60C_seg:SegOk Try.prog wTab 28 ((flatC (bodyOf Try.f60)).drop 4) w60S1 wt60CX wt60CW where
 lt:=wt60C_lt
 ok:=wt60C_ok
 hook:=fun F=>no_hooks rfl F
 n0:=rfl
 id:=by kernel_rfl
 reck:=by kernel_rfl
 tab:=rfl
 cuts:=rfl
 kt:=by kernel_rfl
def stepN (n:Now) (x:E3) (c:Int):Now:=
 ⟨if x.k=0∧x.t≤c then x.v else n.pins,if x.k=2∧x.t≤c then x.v else n.mask,if x.k=1∧x.t=c then true else n.isb,if x.k=1∧x.t=c then x.v else n.byte⟩
theorem came_le {B c:Int}: ∀{l:List E3} {s:Lv},s.came≤B→(∀x,x∈l→x.t≤B)→((upto l c).foldl Lv.take s).came≤B
 |[],_,h,_=>h
 |x::l,s,h,hl=>by
  have hx:=hl x (by simp)
  have ih:=fun {s:Lv} (h:s.came≤B)=>came_le (c:=c) (l:=l) (s:=s) h (fun y hy=>hl y (by simp [hy]))
  unfold upto at ih⊢
  by_cases g:x.t≤c
  ·rw [List.filter_cons_of_pos (by simpa using g),List.foldl_cons]
   refine ih ?_
   unfold Lv.take
   split
   ·exact h
   ·split
    ·exact hx
    ·exact h
  ·rw [List.filter_cons_of_neg (by simpa using g)]
   exact ih h
theorem take_snoc {l:List E3} {x:E3} {j:Nat} (h:l[j]? =some x):l.take (j+1)=l.take j++[x]:=by
 rw [List.take_add_one,h];rfl
theorem lv_snoc (l:List E3) (x:E3) (c:Int):lv (l++[x]) c=if x.t≤c then (lv l c).take x else lv l c:=by
 unfold lv upto
 rw [List.filter_append]
 by_cases g:x.t≤c
 ·rw [if_pos g,List.filter_cons_of_pos (by simpa using g),List.filter_nil,List.foldl_append];rfl
 ·rw [if_neg g,List.filter_cons_of_neg (by simpa using g),List.filter_nil,List.append_nil]
theorem now_step {l:List E3} (hs:Script l) {c:Int} (hc:1≤c) {j:Nat} {x:E3} (h:l[j]? =some x):(lv (l.take (j+1)) c).now c=stepN ((lv (l.take j) c).now c) x c:=by
 have hx:=hs.1 x (List.mem_of_getElem? h)
 have hle: ∀y,y∈l.take j→y.t≤x.t:=by
  intro y hy
  have hp:=hs.2
  rw [←List.take_append_drop j l,List.pairwise_append] at hp
  have hd:x∈l.drop j:=by
   have:(l.drop j)[0]? =some x:=by rw [List.getElem?_drop];simpa using h
   exact List.mem_of_getElem? this
  have:=hp.2.2 y hy x hd
  rw [ahead_iff] at this
  omega
 have hcm:(lv (l.take j) c).came≤x.t:=came_le (by show (0:Int)≤x.t;have:=hx.1;omega) hle
 obtain ⟨z1,z2,z3,z4⟩:=hx
 rw [take_snoc h,lv_snoc]
 generalize lv (l.take j) c=s at hcm
 obtain ⟨v0,v1,v2,cm⟩:=s
 simp only at hcm
 have hk:x.k=0∨x.k=1∨x.k=2:=by omega
 by_cases g:x.t≤c
 ·rw [if_pos g]
  rcases hk with hk|hk|hk
  ·simp [Lv.take,Lv.now,stepN,hk,g]
  ·by_cases g2:x.t=c
   ·simp [Lv.take,Lv.now,stepN,hk,g2]
   ·have: ¬cm=c:=by omega
    simp [Lv.take,Lv.now,stepN,hk,g2,this]
  ·simp [Lv.take,Lv.now,stepN,hk,g]
 ·rw [if_neg g]
  have g2: ¬x.t=c:=by omega
  simp [Lv.now,stepN,g,g2]
structure J33 (C:ByteArray) (N:Nat) (c:Int) (E:Nat→Option Fz) (σ:Sig):Prop where
 s:σ.sval 0=C
 n:σ.ival 1=N
 cy:σ.ival 2=c
 x:σ.ext=E
 ok:Script (lstE C N)∧1≤c
 j: ∃j:Nat,σ.ival 7=j∧j≤N∧Now.mk (σ.ival 3) (σ.ival 4) (σ.bval 5) (σ.ival 6)=(lv ((lstE C N).take j) c).now c
theorem J33.agree {C:ByteArray} {N:Nat} {c:Int} {E:Nat→Option Fz} {σ τ:Sig} (ag:Agree 8 σ τ) (h:J33 C N c E σ):J33 C N c E τ:=
  ⟨by rw [←(ag.val 0 (by decide)).2.2];exact h.s,by rw [←(ag.val 1 (by decide)).1];exact h.n,by rw [←(ag.val 2 (by decide)).1];exact h.cy,by rw [←ag.ext];exact h.x,h.ok,
   by rw [←(ag.val 7 (by decide)).1,←(ag.val 3 (by decide)).1,←(ag.val 4 (by decide)).1,←(ag.val 5 (by decide)).2.1,←(ag.val 6 (by decide)).1];exact h.j⟩
theorem J33.step {C:ByteArray} {N:Nat} {c:Int} {E:Nat→Option Fz} {τ:Sig} (h:J33 C N c E τ) {j:Nat} (hj:τ.ival 34=j) (hN:j≤N) (hn:Now.mk (τ.ival 32) (τ.ival 33) (τ.bval 21) (τ.ival 22)=(lv ((lstE C N).take j) c).now c):
  J33 C N c E (asgS τ ([(1,.symi .i64 1),(2,.symi .i64 2),(7,.symi .i64 34),(0,.syms 0),(1,.symi .i64 1),(3,.symi .u8 32),(4,.symi .u8 33),(5,.symb 21),(6,.symi .u8 22)]++[])):=⟨h.s,h.n,h.cy,extS h.x,h.ok,j,hj,hN,hn⟩
theorem J33.same {C:ByteArray} {N:Nat} {c:Int} {E:Nat→Option Fz} {τ:Sig} (h:J33 C N c E τ):
  J33 C N c E (asgS τ ([(1,.symi .i64 1),(2,.symi .i64 2),(7,.symi .i64 7),(0,.syms 0),(1,.symi .i64 1),(3,.symi .u8 3),(4,.symi .u8 4),(5,.symb 5),(6,.symi .u8 6)]++[])):=⟨h.s,h.n,h.cy,extS h.x,h.ok,h.j⟩
theorem J33.zero {C:ByteArray} {N:Nat} {c:Int} {E:Nat→Option Fz} {τ:Sig} (a0:τ.sval 0=C) (a1:τ.ival 1=N) (a2:τ.ival 2=c) (hx:τ.ext=E) (ok:Script (lstE C N)∧1≤c):
  J33 C N c E (asgS τ ([(1,.symi .i64 1),(2,.symi .i64 2),(7,.int .i64 0),(0,.syms 0),(1,.symi .i64 1),(3,.int .u8 0),(4,.int .u8 0),(5,.bool false),(6,.int .u8 0)]++[])):=by
 refine ⟨a0,a1,a2,extS hx,ok,0,rfl,Nat.zero_le _,?_⟩
 show Now.mk 0 0 false 0=(⟨0,0,decide ((0:Int)=c),if (0:Int)=c then 0 else 0⟩:Now)
 have:=ok.2
 rw [decide_eq_false (by omega),if_neg (by omega)]
set_option maxHeartbeats 1000000 in
theorem c33:SymFOk Try.prog wTab (fun _=>True) sf33:=
 symF_of_stage Try.func33 rfl (n:=70) rfl (by decide) (by decide) rfl rfl (by kernel_rfl) (fun g w hg _ hE hI hpc hH=>by
  obtain ⟨N,hN,hC⟩:=lst_ok (i:=0) hH rfl
  generalize hCC:g.sig.sval 0=C at hC
  generalize hcc:g.sig.ival 2=c
  have hN1:(N:Int)<9223372036854775808:=by
   have:=hI 1 .i64 (by decide) rfl
   rw [wr_i64,hN] at this;omega
  have hdec:decL (encB C)=lstE C N:=decL_of hC
  have r3:g.sig.ival 3=IntKind.u8.wrap (at_ (lstE C N) c).pins:=by
   have h:g.sig.ival 3=IntKind.u8.wrap (g.sig.tab 210 [encB (g.sig.sval 0),g.sig.ival 2]):=eqFn (hE.at 0 _ rfl rfl)
   rw [hg,hCC,hcc] at h
   rw [h,←hdec];rfl
  have r4:g.sig.ival 4=IntKind.u8.wrap (at_ (lstE C N) c).mask:=by
   have h:g.sig.ival 4=IntKind.u8.wrap (g.sig.tab 211 [encB (g.sig.sval 0),g.sig.ival 2]):=eqFn (hE.at 1 _ rfl rfl)
   rw [hg,hCC,hcc] at h
   rw [h,←hdec];rfl
  have r5:g.sig.bval 5=(at_ (lstE C N) c).isb:=by
   have h:g.sig.bval 5= !(g.sig.tab 212 [encB (g.sig.sval 0),g.sig.ival 2]==0):=eqFnb (hE.at 2 _ rfl rfl)
   rw [hg,hCC,hcc] at h
   have e:wTab 212 [encB C,c]=b01 (at_ (decL (encB C)) c).isb:=rfl
   rw [h,e,b01_ne,hdec]
  have r6:g.sig.ival 6=IntKind.u8.wrap (at_ (lstE C N) c).byte:=by
   have h:g.sig.ival 6=IntKind.u8.wrap (g.sig.tab 213 [encB (g.sig.sval 0),g.sig.ival 2]):=eqFn (hE.at 3 _ rfl rfl)
   rw [hg,hCC,hcc] at h
   rw [h,←hdec];rfl
  rw [show flatC (bodyOf Try.f33)=(flatC (bodyOf Try.f33)).take 6++(.block (idOf (bodyOf Try.f33)) (.loop (loopOf (bodyOf Try.f33)))::(flatC (bodyOf Try.f33)).drop 7) from rfl]
  have hlast:Stage Try.prog wTab 70 (fraOf g w 1) (bodyPost Try.prog Try.f33 (MemR wTab sf33 g w)) ((flatC (bodyOf Try.f33)).drop 7) w33S1 8 w33K1 (fun σ=>J33 C N c g.sig.ext σ∧σ.ival 7=N):=by
   refine Stage.last mixed wt33C_seg ⟨rfl,rfl⟩ (fun σ τ ag h=>⟨h.1.agree ag,by rw [←(ag.val 7 (by decide)).1];exact h.2⟩) (fun τ h=>rows_nil) (fun τ e ht hi hj=> ?_) (pin0 (by kernel_rfl))
   refine segsPw_segs ?_
   obtain ⟨hj,hjN⟩:=hj
   obtain ⟨j,k1,k2,k3⟩:=hj.j
   have:j=N:=by omega
   subst this
   have hat:at_ (lstE C j) c=(lv (lstE C j) c).now c:=at_script hj.ok.1 hj.ok.2
   rw [List.take_of_length_le (by rw [lstE_len];exact Nat.le_refl _),←hat] at k3
   have w0:=hi 3 .u8 (by decide) rfl
   have w1:=hi 4 .u8 (by decide) rfl
   have w2:=hi 6 .u8 (by decide) rfl
   rw [←k3] at r3 r4 r5 r6
   refine endZ_mem (M:=7) (l:=L28) (vs:=[.agg [.symi .u8 3,.symi .u8 4,.symb 5,.symi .u8 6]]) (by kernel_rfl) rfl rfl hH hg rfl rfl rfl (by kernel_rfl) (by kernel_rfl) (den28 ?_ ?_ ?_ ?_ (hj.s.trans hCC.symm) (hj.n.trans hN.symm)) (by decide) (extS hj.x) (.inl rfl)
   ·exact (r3.trans w0).symm
   ·exact (r4.trans w1).symm
   ·exact r5.symm
   ·exact (r6.trans w2).symm
  have hmid:Stage Try.prog wTab 70 (fraOf g w 1) (bodyPost Try.prog Try.f33 (MemR wTab sf33 g w)) (.block (idOf (bodyOf Try.f33)) (.loop (loopOf (bodyOf Try.f33)))::(flatC (bodyOf Try.f33)).drop 7) w33S1 8 w33K1 (J33 C N c g.sig.ext):=by
   refine Stage.loop (μ:=fun σ=>(N-σ.ival 7).toNat) mixed wt33B_seg ⟨rfl,rfl⟩ (fun σ τ ag h=>h.agree ag) (fun σ τ ag=>by rw [(ag.val 7 (by decide)).1]) (fun τ h=>rows_nil) hlast (fun τ e ht hi hj=> ?_) (pin0 (by kernel_rfl))
   obtain ⟨j,k1,k2,k3⟩:=hj.j
   have a0:τ.sval 0=C:=hj.s
   have a1:τ.ival 1=N:=hj.n
   have a2:τ.ival 2=c:=hj.cy
   have c10:=eqCell (m:=j) (e.at 2 _ rfl rfl) (show den τ (.symi .i64 7)=_ by rw [←k1];rfl)
   have c11:=eqCell (m:=j) (e.at 3 _ rfl rfl) (show den τ (.symi .i64 7)=_ by rw [←k1];rfl)
   have c12:=eqCell (m:=j) (e.at 4 _ rfl rfl) (show den τ (.symi .i64 7)=_ by rw [←k1];rfl)
   rw [a0] at c10 c11 c12
   have v10:τ.ival 10=(rowE C j).t:=by simp only [rowE,c10,iOf]
   have v11:τ.ival 11=(rowE C j).k:=by simp only [rowE,c11,iOf]
   have v12:τ.ival 12=(rowE C j).v:=by simp only [rowE,c12,iOf]
   have b8:τ.bval 8=decide (τ.ival 7<τ.ival 1):=eqB (e.at 0 _ rfl rfl) rfl
   have b9:τ.bval 9=decide ((0:Int)≤τ.ival 7):=eqB (e.at 1 _ rfl rfl) rfl
   have b13:τ.bval 13=(τ.ival 11==0):=eqB (e.at 5 _ rfl rfl) rfl
   have b14:τ.bval 14=decide (τ.ival 10≤τ.ival 2):=eqB (e.at 6 _ rfl rfl) rfl
   have b15:τ.bval 15=(τ.ival 11==2):=eqB (e.at 7 _ rfl rfl) rfl
   have b16:τ.bval 16=(τ.ival 11==1):=eqB (e.at 8 _ rfl rfl) rfl
   have b17:τ.bval 17=(τ.ival 10==τ.ival 2):=eqB (e.at 9 _ rfl rfl) rfl
   have b18:τ.bval 18=(bif τ.bval 17 then true else τ.bval 5):=eqIteB (e.at 10 _ rfl rfl) rfl rfl rfl
   have i19:τ.ival 19=(bif τ.bval 17 then τ.ival 12 else τ.ival 6):=eqIteI (e.at 11 _ rfl rfl) rfl rfl rfl
   have b20:τ.bval 20=(bif τ.bval 16 then τ.bval 17 else false):=eqIteB (e.at 12 _ rfl rfl) rfl rfl rfl
   have b21:τ.bval 21=(bif τ.bval 16 then τ.bval 18 else τ.bval 5):=eqIteB (e.at 13 _ rfl rfl) rfl rfl rfl
   have i22:τ.ival 22=(bif τ.bval 16 then τ.ival 19 else τ.ival 6):=eqIteI (e.at 14 _ rfl rfl) rfl rfl rfl
   have i23:τ.ival 23=(bif τ.bval 15 then τ.ival 12 else τ.ival 4):=eqIteI (e.at 15 _ rfl rfl) rfl rfl rfl
   have b24:τ.bval 24=(bif τ.bval 14 then τ.bval 15 else false):=eqIteB (e.at 16 _ rfl rfl) rfl rfl rfl
   have i25:τ.ival 25=(bif τ.bval 14 then τ.ival 12 else τ.ival 3):=eqIteI (e.at 17 _ rfl rfl) rfl rfl rfl
   have i26:τ.ival 26=(bif τ.bval 14 then τ.ival 23 else τ.ival 4):=eqIteI (e.at 18 _ rfl rfl) rfl rfl rfl
   have i27:τ.ival 27=(bif τ.bval 14 then τ.ival 12 else τ.ival 4):=eqIteI (e.at 19 _ rfl rfl) rfl rfl rfl
   have b28:τ.bval 28=(bif τ.bval 15 then τ.bval 14 else false):=eqIteB (e.at 20 _ rfl rfl) rfl rfl rfl
   have i29:τ.ival 29=(bif τ.bval 15 then τ.ival 27 else τ.ival 4):=eqIteI (e.at 21 _ rfl rfl) rfl rfl rfl
   have b30:τ.bval 30=(bif τ.bval 13 then τ.bval 14 else false):=eqIteB (e.at 22 _ rfl rfl) rfl rfl rfl
   have b31:τ.bval 31=(bif τ.bval 13 then τ.bval 24 else τ.bval 28):=eqIteB (e.at 23 _ rfl rfl) rfl rfl rfl
   have i32:τ.ival 32=(bif τ.bval 13 then τ.ival 25 else τ.ival 3):=eqIteI (e.at 24 _ rfl rfl) rfl rfl rfl
   have i33:τ.ival 33=(bif τ.bval 13 then τ.ival 26 else τ.ival 29):=eqIteI (e.at 25 _ rfl rfl) rfl rfl rfl
   have i34:τ.ival 34=IntKind.i64.wrap (τ.ival 7+1):=eqI (e.at 26 _ rfl rfl) rfl
   rw [wr_i64] at i34
   refine segsPw_segs ?_
   refine ⟨fun _=>⟨fun f8=> ?_,fun f8=> .inr (.inl ⟨rfl,rfl,insOk_kt (X:=wt33BX) e hi (by kernel_rfl) (by kernel_rfl),⟨hj.same,?_⟩,tabS ht⟩)⟩,fun f9=> ?_⟩
   ·rw [b8,decide_eq_true_eq] at f8
    have hg:(lstE C N)[j]? =some (rowE C j):=lstE_get (by omega)
    have hst:J33 C N c g.sig.ext _:=hj.step (j:=j+1) (by omega) (by omega) (by
     rw [now_step hj.ok.1 hj.ok.2 hg,←k3]
     have hx:=hj.ok.1.1 _ (List.mem_of_getElem? hg)
     obtain ⟨z1,z2,z3,z4⟩:=hx
     have hk:(rowE C j).k=0∨(rowE C j).k=1∨(rowE C j).k=2:=by omega
     rw [i32,i33,i25,i26,i23,i29,i27,b21,b18,i22,i19,b13,b14,b15,b16,b17,v10,v11,v12,a2]
     unfold stepN
     rcases hk with hk|hk|hk
     ·by_cases g1:(rowE C j).t≤c<;>simp [hk,g1]
     ·by_cases g1:(rowE C j).t=c
      ·simp [hk,g1]
      ·have g3:((rowE C j).t==c)=false:=beq_eq_false_iff_ne.2 g1
       simp [hk,g1,g3]
     ·by_cases g1:(rowE C j).t≤c<;>simp [hk,g1])
    refine .inl ⟨rfl,rfl,insOk_kt (X:=wt33BX) e hi (by kernel_rfl) (by kernel_rfl),hst,tabS ht,?_⟩
    show (N-τ.ival 34).toNat<(N-τ.ival 7).toNat
    omega
   ·rw [b8,decide_eq_false_iff_not] at f8
    show τ.ival 7=N
    omega
   ·rw [b9,decide_eq_false_iff_not] at f9
    exfalso;omega
  have early: ∀τ,Agree 3 g.sig τ→ ¬((check (lstE C N)).2=0∧1≤c)→EndZ wTab 70 (fraOf g w 1) (bodyPost Try.prog Try.f33 (MemR wTab sf33 g w)) .ret w33Se (asgS τ ([(1,.symi .i64 1),(0,.syms 0),(1,.symi .i64 1),(3,.int .u8 0),(4,.int .u8 0),(5,.bool false),(6,.int .u8 0)]++[])):=by
   intro τ ag hn
   have hat:at_ (lstE C N) c=.zero:=by unfold at_;rw [if_neg hn]
   rw [hat] at r3 r4 r5 r6
   exact endZ_mem (M:=7) (l:=L28) (vs:=[.agg [.symi .u8 3,.symi .u8 4,.symb 5,.symi .u8 6]]) (by kernel_rfl) rfl rfl hH hg rfl rfl rfl (by kernel_rfl) (by kernel_rfl) (den28 r3.symm r4.symm r5.symm r6.symm (ag.val 0 (by decide)).2.2.symm (ag.val 1 (by decide)).1.symm) (by decide) ag.ext.symm (.inl rfl)
  have:=Stage.seg (q2:=8) (ins2:=w33K1) (S2:=w33S1) (J2:=J33 C N c g.sig.ext) mixed wt33A_seg ⟨rfl,rfl⟩ (fun σ τ (ag:Agree 3 σ τ) (h:Agree 3 g.sig σ)=>h.trans' ag) (fun τ h=>rows_nil) hmid (fun τ e ht hi ag=>by
   refine segsPw_segs ?_
   have a0:τ.sval 0=C:=by rw [←(ag.val 0 (by decide)).2.2];exact hCC
   have a1:τ.ival 1=N:=by rw [←(ag.val 1 (by decide)).1];exact hN
   have a2:τ.ival 2=c:=by rw [←(ag.val 2 (by decide)).1];exact hcc
   have i4:τ.ival 4=(check (lstE C N)).2:=by
    have h:τ.ival 4=IntKind.i64.wrap (τ.tab 201 [encB (τ.sval 0)]):=eqFn (e.at 1 _ rfl rfl)
    rw [ht,a0] at h
    have e2:wTab 201 [encB C]=(check (decL (encB C))).2:=rfl
    rw [e2,hdec,wr_i64] at h
    have:=ck_snd (l:=lstE C N) (p:=none) (i:=0)
    unfold check at h⊢
    omega
   have b5:τ.bval 5= !(τ.ival 4==0):=eqB (e.at 2 _ rfl rfl) rfl
   have b6:τ.bval 6=decide (τ.ival 2<1):=eqB (e.at 3 _ rfl rfl) rfl
   refine ⟨fun f5=> .inr ⟨by simp,early τ ag ?_⟩,fun f5=>⟨fun f6=> .inr ⟨by simp,early τ ag ?_⟩,fun f6=> .inl ⟨rfl,rfl,insOk_kt (X:=wt33AX) e hi (by kernel_rfl) (by kernel_rfl),.zero a0 a1 a2 ag.ext.symm ?_,ht⟩⟩⟩
   ·rw [b5,i4] at f5
    intro h
    rw [h.1] at f5
    simp at f5
   ·rw [b6,decide_eq_true_eq] at f6
    intro h;omega
   ·rw [b5,i4] at f5
    rw [b6,decide_eq_false_iff_not] at f6
    refine ⟨check_zero.1 ?_,by omega⟩
    simpa using f5) (pin0 (by kernel_rfl))
  exact this)
structure J60 (C:ByteArray) (N:Nat) (c:Int) (E:Nat→Option Fz) (σ:Sig):Prop where
 s:σ.sval 0=C
 n:σ.ival 1=N
 cy:σ.ival 2=c
 x:σ.ext=E
 j: ∃j:Nat,σ.ival 5=j∧j≤N∧σ.sval 3=Wt.encL (upto ((lstE C N).take j) c)∧σ.ival 4=(upto ((lstE C N).take j) c).length
theorem J60.agree {C:ByteArray} {N:Nat} {c:Int} {E:Nat→Option Fz} {σ τ:Sig} (ag:Agree 6 σ τ) (h:J60 C N c E σ):J60 C N c E τ:=
  ⟨by rw [←(ag.val 0 (by decide)).2.2];exact h.s,by rw [←(ag.val 1 (by decide)).1];exact h.n,by rw [←(ag.val 2 (by decide)).1];exact h.cy,by rw [←ag.ext];exact h.x,
   by rw [←(ag.val 5 (by decide)).1,←(ag.val 3 (by decide)).2.2,←(ag.val 4 (by decide)).1];exact h.j⟩
theorem J60.to {C:ByteArray} {N:Nat} {c:Int} {E:Nat→Option Fz} {τ:Sig} (h:J60 C N c E τ) {a b d:Nat} {j:Nat} (hj:τ.ival d=j) (hN:j≤N) (hs:τ.sval b=Wt.encL (upto ((lstE C N).take j) c)) (hn:τ.ival a=(upto ((lstE C N).take j) c).length):
  J60 C N c E (asgS τ ([(1,.symi .i64 1),(2,.symi .i64 2),(4,.symi .i64 a),(5,.symi .i64 d),(0,.syms 0),(1,.symi .i64 1),(3,.syms b),(4,.symi .i64 a)]++[])):=⟨h.s,h.n,h.cy,extS h.x,j,hj,hN,hs,hn⟩
theorem upto_snoc {l:List E3} {x:E3} {j:Nat} (h:l[j]? =some x) (c:Int):upto (l.take (j+1)) c=if x.t≤c then upto (l.take j) c++[x] else upto (l.take j) c:=by
 rw [take_snoc h]
 unfold upto
 rw [List.filter_append]
 by_cases g:x.t≤c
 ·rw [if_pos g,List.filter_cons_of_pos (by simpa using g),List.filter_nil]
 ·rw [if_neg g,List.filter_cons_of_neg (by simpa using g),List.filter_nil,List.append_nil]
theorem upto_lle (l:List E3) (c:Int) (j:Nat):(upto (l.take j) c).length≤j:=Nat.le_trans (List.length_filter_le _ _) (by rw [List.length_take];omega)
theorem encX_row' {τ:Sig} {a b d:Nat} {x:E3} (h1:τ.ival a=x.t) (h2:τ.ival b=x.k) (h3:τ.ival d=x.v):(⟨(rowB cl3 ([AVal.symi .i64 a,.symi .i64 b,.symi .u8 d].map (den τ))).toArray⟩:ByteArray)=encX x:=by
 simp only [List.map,den,h1,h2,h3];rfl
set_option maxHeartbeats 1000000 in
theorem c60:SymFOk Try.prog wTab (fun _=>True) sf60:=
 symF_of_stage Try.func60 rfl (n:=28) rfl (by decide) (by decide) rfl rfl (by kernel_rfl) (fun g w hg _ hE hI hpc hH=>by
  obtain ⟨N,hN,hC⟩:=lst_ok (i:=0) hH rfl
  have hNb:=pc207 hg rfl hC (hpc _ (by simp [sf60,sf35]))
  generalize hCC:g.sig.sval 0=C at hC
  generalize hcc:g.sig.ival 2=c
  have r3:g.sig.sval 3=Wt.encL (upto (lstE C N) c):=by
   have h:g.sig.sval 3=decS (g.sig.tab 220 [encB (g.sig.sval 0),0,g.sig.ival 1,g.sig.ival 2]):=eqFs (hE.at 0 _ rfl rfl)
   have e:wTab 220 [encB C,0,(N:Int),c]=encB (Wt.encL (upto (piece [encB C,0,(N:Int),c]) c)):=rfl
   rw [h,hg,hCC,hcc,hN,e,decS_enc,piece_all hC]
  have r4:g.sig.ival 4=(upto (lstE C N) c).length:=by
   have h:g.sig.ival 4=IntKind.i64.wrap (g.sig.tab 221 [encB (g.sig.sval 0),0,g.sig.ival 1,g.sig.ival 2]):=eqFn (hE.at 1 _ rfl rfl)
   have e:wTab 221 [encB C,0,(N:Int),c]=((upto (piece [encB C,0,(N:Int),c]) c).length:Int):=rfl
   have hle:(upto (lstE C N) c).length≤N:=by
    have:=List.length_filter_le (fun x:E3=>decide (x.t≤c)) (lstE C N)
    rw [lstE_len] at this
    exact this
   rw [h,hg,hCC,hcc,hN,e,piece_all hC,wr_i64]
   omega
  have hlast:Stage Try.prog wTab 28 (fraOf g w 1) (bodyPost Try.prog Try.f60 (MemR wTab sf60 g w)) ((flatC (bodyOf Try.f60)).drop 4) w60S1 6 w60K1 (fun σ=>J60 C N c g.sig.ext σ∧σ.ival 5=N):=by
   refine Stage.last mixed wt60C_seg ⟨rfl,rfl⟩ (fun σ τ ag h=>⟨h.1.agree ag,by rw [←(ag.val 5 (by decide)).1];exact h.2⟩) (fun τ h=>rows_nil) (fun τ e ht hi hj=> ?_) (pin0 (by kernel_rfl))
   refine segsPw_segs ?_
   obtain ⟨hj,hjN⟩:=hj
   obtain ⟨j,k1,k2,k3,k4⟩:=hj.j
   have:j=N:=by omega
   subst this
   rw [List.take_of_length_le (by rw [lstE_len];exact Nat.le_refl _)] at k3 k4
   exact endZ_mem (M:=5) (l:=L35) (vs:=[.lsl 1 3 true (.int .i64 0) (.symi .i64 4)]) (by kernel_rfl) rfl rfl hH hg rfl rfl rfl (by kernel_rfl) (by kernel_rfl) (den35 (k4.trans r4.symm) (hj.s.trans hCC.symm) (hj.n.trans hN.symm) (k3.trans r3.symm)) (by decide) (extS hj.x) (.inl rfl)
  have hloop:Stage Try.prog wTab 28 (fraOf g w 1) (bodyPost Try.prog Try.f60 (MemR wTab sf60 g w)) (.block (idOf (bodyOf Try.f60)) (.loop (loopOf (bodyOf Try.f60)))::(flatC (bodyOf Try.f60)).drop 4) w60S1 6 w60K1 (J60 C N c g.sig.ext):=by
   refine Stage.loop (μ:=fun σ=>(N-σ.ival 5).toNat) mixed wt60B_seg ⟨rfl,rfl⟩ (fun σ τ ag h=>h.agree ag) (fun σ τ ag=>by rw [(ag.val 5 (by decide)).1]) (fun τ h=>rows_nil) hlast (fun τ e ht hi hj=> ?_) (pin0 (by kernel_rfl))
   obtain ⟨j,k1,k2,k3,k4⟩:=hj.j
   have a0:τ.sval 0=C:=hj.s
   have a1:τ.ival 1=N:=hj.n
   have a2:τ.ival 2=c:=hj.cy
   have hle:=upto_lle (lstE C N) c j
   have c8:=eqCell (m:=j) (e.at 2 _ rfl rfl) (show den τ (.symi .i64 5)=_ by rw [←k1];rfl)
   have c9:=eqCell (m:=j) (e.at 3 _ rfl rfl) (show den τ (.symi .i64 5)=_ by rw [←k1];rfl)
   have c10:=eqCell (m:=j) (e.at 4 _ rfl rfl) (show den τ (.symi .i64 5)=_ by rw [←k1];rfl)
   rw [a0] at c8 c9 c10
   have v8:τ.ival 8=(rowE C j).t:=by simp only [rowE,c8,iOf]
   have v9:τ.ival 9=(rowE C j).k:=by simp only [rowE,c9,iOf]
   have v10:τ.ival 10=(rowE C j).v:=by simp only [rowE,c10,iOf]
   have b6:τ.bval 6=decide (τ.ival 5<τ.ival 1):=eqB (e.at 0 _ rfl rfl) rfl
   have b7:τ.bval 7=decide ((0:Int)≤τ.ival 5):=eqB (e.at 1 _ rfl rfl) rfl
   have b11:τ.bval 11=decide (τ.ival 8≤τ.ival 2):=eqB (e.at 5 _ rfl rfl) rfl
   have i14:τ.ival 14=IntKind.i64.wrap (τ.ival 4+1):=eqI (e.at 8 _ rfl rfl) rfl
   have b15:τ.bval 15=decide ((0:Int)≤τ.ival 14):=eqB (e.at 9 _ rfl rfl) rfl
   have b16:τ.bval 16=decide (τ.ival 14≤5864062014805):=eqB (e.at 10 _ rfl rfl) rfl
   have i17:τ.ival 17=IntKind.i64.wrap (τ.ival 5+1):=eqI (e.at 11 _ rfl rfl) rfl
   have s12:τ.sval 12=encX (rowE C j):=(eqRow (e.at 6 _ rfl rfl)).trans (encX_row' v8 v9 v10)
   have s13:τ.sval 13=τ.sval 3++τ.sval 12:=eqCat (e.at 7 _ rfl rfl) rfl rfl
   rw [wr_i64] at i14 i17
   refine segsPw_segs ?_
   refine ⟨fun _=>⟨fun _=>⟨fun _=>⟨fun f6=>⟨fun f11=> ?_,fun f11=> ?_⟩,fun f6=> .inr (.inl ⟨rfl,rfl,insOk_kt (X:=wt60BX) e hi (by kernel_rfl) (by kernel_rfl),⟨hj.to k1 k2 k3 k4,?_⟩,tabS ht⟩)⟩,fun f=> ?_⟩,fun f=> ?_⟩,fun f=> ?_⟩
   ·rw [b6,decide_eq_true_eq] at f6
    rw [b11,decide_eq_true_eq,v8,a2] at f11
    have hg:(lstE C N)[j]? =some (rowE C j):=lstE_get (by omega)
    have hu:=upto_snoc hg c
    rw [if_pos f11] at hu
    have hst:J60 C N c g.sig.ext _:=hj.to (a:=14) (b:=13) (d:=17) (j:=j+1) (by omega) (by omega) (by rw [hu,Wt.encL_snoc,s13,s12,k3]) (by rw [hu,List.length_append,List.length_singleton];omega)
    refine .inl ⟨rfl,rfl,insOk_kt (X:=wt60BX) e hi (by kernel_rfl) (by kernel_rfl),hst,tabS ht,?_⟩
    show (N-τ.ival 17).toNat<(N-τ.ival 5).toNat
    omega
   ·rw [b6,decide_eq_true_eq] at f6
    rw [b11,decide_eq_false_iff_not,v8,a2] at f11
    have hg:(lstE C N)[j]? =some (rowE C j):=lstE_get (by omega)
    have hu:=upto_snoc hg c
    rw [if_neg f11] at hu
    have hst:J60 C N c g.sig.ext _:=hj.to (a:=4) (b:=3) (d:=17) (j:=j+1) (by omega) (by omega) (by rw [hu];exact k3) (by rw [hu];exact k4)
    refine .inl ⟨rfl,rfl,insOk_kt (X:=wt60BX) e hi (by kernel_rfl) (by kernel_rfl),hst,tabS ht,?_⟩
    show (N-τ.ival 17).toNat<(N-τ.ival 5).toNat
    omega
   ·rw [b6,decide_eq_false_iff_not] at f6
    show τ.ival 5=N
    omega
   ·rw [b16,decide_eq_false_iff_not] at f
    exfalso;omega
   ·rw [b15,decide_eq_false_iff_not] at f
    exfalso;omega
   ·rw [b7,decide_eq_false_iff_not] at f
    exfalso;omega
  rw [show flatC (bodyOf Try.f60)=(flatC (bodyOf Try.f60)).take 3++(.block (idOf (bodyOf Try.f60)) (.loop (loopOf (bodyOf Try.f60)))::(flatC (bodyOf Try.f60)).drop 4) from rfl]
  refine Stage.seg (q2:=6) (ins2:=w60K1) (S2:=w60S1) (J2:=J60 C N c g.sig.ext) mixed wt60A_seg ⟨rfl,rfl⟩ (fun σ τ (ag:Agree 3 σ τ) (h:Agree 3 g.sig σ)=>h.trans' ag) (fun τ h=>rows_nil) hloop (fun τ e ht hi ag=> ?_) (pin0 (by kernel_rfl))
  refine segsPw_segs ?_
  have a0:τ.sval 0=C:=by rw [←(ag.val 0 (by decide)).2.2];exact hCC
  have a1:τ.ival 1=N:=by rw [←(ag.val 1 (by decide)).1];exact hN
  have a2:τ.ival 2=c:=by rw [←(ag.val 2 (by decide)).1];exact hcc
  exact .inl ⟨rfl,rfl,insOk_kt (X:=wt60AX) e hi (by kernel_rfl) (by kernel_rfl),⟨a0,a1,a2,extS ag.ext.symm,0,rfl,Nat.zero_le _,rfl,rfl⟩,tabS ht⟩)
end Go.Proofs.Ytapfkgenachpgaa.wc
