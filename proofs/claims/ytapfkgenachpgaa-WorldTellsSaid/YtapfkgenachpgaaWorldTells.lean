/-
 WorldTells is true: all that is asked by contracts; the player's loop by steps.
 No conditions.
-/
import Derived.Test.YtapfkgenachpgaaRows
import Derived.WalkKit
import Derived.ProofKit
import Derived.OpenShut
import Derived.Below
import Derived.ChangeSame
import Derived.Test.YtapfkgenachpgaaWu5
import Derived.Test.YtapfkgenachpgaaEv8
set_option maxRecDepth 100000
namespace Go.Proofs.Ytapfkgenachpgaa.worldTells
open Go.ChangeShapes Go.WideShapes Go.ChangeAt Go.RowKit
set_option linter.unusedVariables false
section Walk
open Go.Ev Go.Wpl Go.Wt Go.Proofs.Ytapfkgenachpgaa.wc
theorem own:ownKnob Try.prog.godebug=none:=by kernel_rfl
theorem ovl:Ev.OvlOk Try.prog 92:=⟨61,4,64,3,by kernel_rfl,fun w=>by kernel_rfl,fun args w=>run_callFunc_extern (f:=92) Try.func92 (by kernel_rfl) (by kernel_rfl) (by kernel_rfl) (by kernel_rfl) args w⟩
def ingI:Ev.Ing:={m:=0,G:=[],T:=.e,insf:=some (54,92)}
theorem hooksI (F:List Ev.Fact):Ev.Hooks Try.prog (Ev.cxOf ingI F):=
 ⟨fun f args v h=>by simp only [ingI,Ev.cxOf,Ev.noHook,reduceCtorEq] at h,fun f args hp v hp' h=>by simp only [ingI,Ev.cxOf,Ev.noMh,reduceCtorEq] at h,fun f k h=>by simp only [ingI,Ev.cxOf,Option.some.injEq,Prod.mk.injEq] at h;obtain ⟨_,rfl⟩:=h;exact ovl,fun k b h=>by simp only [ingI,Ev.cxOf,List.not_mem_nil] at h⟩
theorem works_run:isTrue ((evD Try.prog (cxOf ingI) true 1000 40).1 [] 23 [] ⟨[],[]⟩)=true:=by kernel_rfl
theorem works_contract:FnOk Try.prog 23 [] [.one .b] (fun _=>[1]):=fun l hl w=>closed_hook ⟨rfl,rfl,rfl,rfl,rfl,rfl⟩ (hm:=wc.mixed) (hh:=hooksI) (h:=works_run) (w:=w)
def w8Tru:List Ent:=[⟨23,[],[.one .b],0⟩]
theorem w8_tru: ∀e,e∈w8Tru→FnOk Try.prog e.f e.ins [.one .b] (fun _=>[1]):=by
 intro e he
 obtain rfl:=List.mem_singleton.1 he
 exact works_contract
theorem tru_val {X:Ing} (hX:X.hook=trueHook w8Tru) (F:List Fact) (f:FuncId) (args:List AVal) (v:AVal) (h:(cxOf X F).hook f args=some v) (hp:Hp):CallP Try.prog (cxOf X F) f args hp (.val v) hp:=by
 replace h:X.hook (symS (baseOf X F)) (kdX X) f args=some v:=h
 rw [hX] at h
 exact true_at w8_tru F f args v h hp
def wt7AG:List SDef:=[.low [.symi .i64 2,.int .i64 60],
 .bin .leq (.int .i64 0) (.symi .i64 8),
 .bin .leq (.symi .i64 8) (.symi .i64 2),
 .sop (.fs 230) [.symi .i64 6,.syms 7],
 .fn 231 .i64 [.symi .i64 6,.syms 7]]
def wt7AT:LT:=.n (.n (.n (.e) 215102236 8 (.low [.symi .i64 2,.int .i64 60]) (.e)) 223205763 12 (.fn 231 .i64 [.symi .i64 6,.syms 7]) (.e)) 420998182 10 (.bin .leq (.symi .i64 8) (.symi .i64 2)) (.n (.n (.e) 599375197 9 (.bin .leq (.int .i64 0) (.symi .i64 8)) (.e)) 735569744 11 (.sop (.fs 230) [.symi .i64 6,.syms 7]) (.e))
def wt7AW:Sw:=.node 9 (.node 10 (.run (.leaf .normal w7S1 [(0,0),(1,0),(2,0)] [(1,.symi .i64 8),(7,.symi .i64 12),(3,.symi .i64 3),(4,.symi .i64 4),(5,.symi .u8 5),(6,.syms 11),(7,.symi .i64 12)] [])) (.dead)) (.dead)
def wt7AKd:KdT:=.n (.n (.n (.n .e none .e) (some .i64) (.n .e none .e)) none (.n (.n .e none .e) (some .u8) .e)) none (.n (.n (.n .e none .e) (some .i64) (.n .e (some .i64) .e)) (some .i64) (.n (.n .e none .e) (some .i64) .e))
def wt7AY:Ing:={m:=8,ins:=w7K,G:=wt7AG,T:=wt7AT,tab:=wTab,rows:=[⟨.symi .i64 6,[]⟩],lsts:=wL,kb:=13,kt:=wt7AKd}
noncomputable def wt7AX (E:Nat→Option Fz) (Y:Fz):Ing:={m:=8,ins:=w7K,G:=wt7AG,T:=wt7AT,tab:=wTab,rows:=[⟨.symi .i64 6,[]⟩],lsts:=wL,kb:=13,kt:=wt7AKd,mh:=symMfx (kdX wt7AY) w7X [sf24],inv:=Inv24 E Y 6 7}
theorem wt7A_lt:okLT 8 wt7AG wt7AT=true:=by kernel_rfl
theorem wt7A_ok:okG wt7AG 8=true:=by kernel_rfl
theorem wt7A_hooks {E:Nat→Option Fz} {W:World} {v:Value} {Y:Fz} (hY:RowV W d3 v Y) (hE0: ∀Z,E 0=some Z→Z=Y) (F:List Fact):Hooks Try.prog (cxOf (wt7AX E Y) F) where
 val:=fun f args v h=>by simp only [wt7AX,cxOf,noHook,reduceCtorEq] at h
 mem:=fun f args hp v hp' h=>by
  replace h:(symMfx (kdX wt7AY) w7X [sf24]) (symS (baseOf (wt7AX E Y) F)) f args hp=some (v,hp'):=h
  exact mem_symFx (X:=wt7AX E Y) (tbl:=[sf24]) (ys:=w7X) (inv:=Inv24 E Y 0 1) (fun e he=>by
    obtain rfl:=List.mem_singleton.1 he
    exact c24 hY hE0) wt7A_lt rfl (fun e he σ τ hx hxs hv=>by
    obtain rfl:=List.mem_singleton.1 he
    have h:[AVal.int .i64 (τ.ival 0),.str (τ.sval 1)]=[AVal.int .i64 (σ.ival 6),.str (σ.sval 7)]:=hxs
    simp only [List.cons.injEq,AVal.int.injEq,AVal.str.injEq,true_and,and_true] at h
    obtain ⟨h1,h2,h3,S,s1,s2⟩:=hv
    exact ⟨by rw [hx];exact h1,by rw [h.1];exact h2,⟨h3,S,by rw [←s1];show AVal.str _=AVal.str _;rw [h.2],s2⟩⟩) F f args hp v hp' h
 ovl:=fun f k h=>by simp only [wt7AX,cxOf,reduceCtorEq] at h
 atm:=fun k b h=>by simp only [wt7AX,cxOf,List.not_mem_nil] at h
theorem wt7A_seg {E:Nat→Option Fz} {W:World} {v:Value} {Y:Fz} (hY:RowV W d3 v Y) (hE0: ∀Z,E 0=some Z→Z=Y):SegOkI Try.prog wTab 94 ((flatC (bodyOf Try.f7)).take 3) w7S0 (wt7AX E Y) wt7AW where
 lt:=wt7A_lt
 ok:=wt7A_ok
 hook:=wt7A_hooks hY hE0
 n0:=rfl
 id:=by kernel_rfl
 reck:=by kernel_rfl
 tab:=rfl
 cuts:=rfl
 kt:=by kernel_rfl
def wt7BG:List SDef:=[.fnb 202 [.syms 6],
 .conv .u16 (.symi .i64 3),
 .bin .rem (.symi .u16 9) (.int .u16 600),
 .conv .i64 (.symi .u16 10),
 .bin .add (.int .i64 1) (.symi .i64 11),
 .conv .u8 (.symi .i64 4),
 .bin .rem (.symi .u8 13) (.int .u8 3),
 .conv .i64 (.symi .u8 14),
 .fnb 205 [.symi .i64 12,.symi .i64 15,.symi .u8 5],
 .fnb 205 [.symi .i64 3,.symi .i64 4,.symi .u8 5],
 .fnb 209 [.symi .i64 3,.symi .i64 4,.symi .u8 5],
 .fnb 202 [.syms 0],
 .fnb 208 [.syms 0],
 .bin .leq (.int .i64 0) (.symi .i64 7),
 .bin .leq (.symi .i64 7) (.int .i64 5864062014805),
 .bin .sub (.symi .i64 12) (.int .i64 1),
 .fnb 208 [.syms 6]]
def wt7BT:LT:=.n (.n (.n (.n (.n (.e) 16519 19 (.fnb 202 [.syms 0]) (.e)) 16837 20 (.fnb 208 [.syms 0]) (.e)) 138322168 23 (.bin .sub (.symi .i64 12) (.int .i64 1)) (.n (.e) 239422562 14 (.bin .rem (.symi .u8 13) (.int .u8 3)) (.e))) 245136360 22 (.bin .leq (.symi .i64 7) (.int .i64 5864062014805)) (.n (.n (.e) 256021619 21 (.bin .leq (.int .i64 0) (.symi .i64 7)) (.e)) 306918283 17 (.fnb 205 [.symi .i64 3,.symi .i64 4,.symi .u8 5]) (.n (.e) 306918495 18 (.fnb 209 [.symi .i64 3,.symi .i64 4,.symi .u8 5]) (.e)))) 309001259 9 (.conv .u16 (.symi .i64 3)) (.n (.n (.n (.n (.e) 368262831 15 (.conv .i64 (.symi .u8 14)) (.e)) 412001568 13 (.conv .u8 (.symi .i64 4)) (.e)) 555694511 12 (.bin .add (.int .i64 1) (.symi .i64 11)) (.n (.e) 822046933 8 (.fnb 202 [.syms 6]) (.e))) 822047251 24 (.fnb 208 [.syms 6]) (.n (.n (.e) 939034072 10 (.bin .rem (.symi .u16 9) (.int .u16 600)) (.e)) 1012421745 16 (.fnb 205 [.symi .i64 12,.symi .i64 15,.symi .u8 5]) (.n (.e) 1030003422 11 (.conv .i64 (.symi .u16 10)) (.e))))
def wt7BW:Sw:=.node 8 (.node 16 (.node 17 (.node 19 (.node 21 (.node 22 (.run (.leaf .normal w7S3 [(0,0),(2,0),(5,0),(6,0),(7,0)] [(1,.symi .i64 1),(3,.symi .i64 7),(3,.symi .i64 7),(11,.int .i64 1),(0,.syms 0),(1,.symi .i64 1),(2,.syms 6),(3,.symi .i64 7),(2,.syms 6),(3,.symi .i64 7),(4,.int .u8 0),(5,.int .u8 0),(6,.int .u8 0),(7,.int .i64 0),(8,.int .i64 0),(9,.symi .i64 7),(10,.int .i64 0),(2,.syms 6),(3,.symi .i64 7)] [])) (.dead)) (.dead)) (.node 20 (.node 21 (.node 22 (.run (.leaf .normal w7S3 [(0,0),(2,0),(5,0),(6,0),(7,0)] [(1,.symi .i64 1),(3,.symi .i64 7),(3,.symi .i64 7),(11,.int .i64 1),(0,.syms 0),(1,.symi .i64 1),(2,.syms 6),(3,.symi .i64 7),(2,.syms 6),(3,.symi .i64 7),(4,.int .u8 0),(5,.int .u8 0),(6,.int .u8 0),(7,.int .i64 0),(8,.int .i64 0),(9,.symi .i64 7),(10,.int .i64 0),(2,.syms 6),(3,.symi .i64 7)] [])) (.dead)) (.dead)) (.dead))) (.node 18 (.node 19 (.node 21 (.node 22 (.run (.leaf .normal w7S3 [(0,0),(2,0),(5,0),(6,0),(7,0)] [(1,.symi .i64 1),(3,.symi .i64 7),(3,.symi .i64 7),(11,.int .i64 1),(0,.syms 0),(1,.symi .i64 1),(2,.syms 6),(3,.symi .i64 7),(2,.syms 6),(3,.symi .i64 7),(4,.int .u8 0),(5,.int .u8 0),(6,.int .u8 0),(7,.int .i64 0),(8,.int .i64 0),(9,.symi .i64 7),(10,.int .i64 0),(2,.syms 6),(3,.symi .i64 7)] [])) (.dead)) (.dead)) (.node 20 (.node 21 (.node 22 (.run (.leaf .normal w7S3 [(0,0),(2,0),(5,0),(6,0),(7,0)] [(1,.symi .i64 1),(3,.symi .i64 7),(3,.symi .i64 7),(11,.int .i64 1),(0,.syms 0),(1,.symi .i64 1),(2,.syms 6),(3,.symi .i64 7),(2,.syms 6),(3,.symi .i64 7),(4,.int .u8 0),(5,.int .u8 0),(6,.int .u8 0),(7,.int .i64 0),(8,.int .i64 0),(9,.symi .i64 7),(10,.int .i64 0),(2,.syms 6),(3,.symi .i64 7)] [])) (.dead)) (.dead)) (.dead))) (.dead))) (.dead)) (.dead)
def wt7BKd:KdT:=.n (.n (.n (.n (.n .e (some .i64) .e) (some .i64) (.n .e (some .i64) .e)) (some .i64) (.n (.n .e none .e) (some .i64) .e)) (some .i64) (.n (.n (.n .e none .e) (some .u16) .e) (some .u8) (.n (.n .e none .e) (some .u8) .e))) none (.n (.n (.n (.n .e none .e) none (.n .e none .e)) (some .i64) (.n (.n .e none .e) (some .i64) .e)) none (.n (.n (.n .e none .e) (some .u16) .e) none (.n (.n .e none .e) (some .u8) .e)))
def wt7BY:Ing:={m:=8,ins:=w7K2,G:=wt7BG,T:=wt7BT,tab:=wTab,lsts:=wL,kb:=25,kt:=wt7BKd}
def wt7BX:Ing:={m:=8,ins:=w7K2,G:=wt7BG,T:=wt7BT,tab:=wTab,lsts:=wL,kb:=25,kt:=wt7BKd,mh:=symMf (kdX wt7BY) [sf29a,sf29b,sf29c,sf30]}
theorem wt7B_lt:okLT 8 wt7BG wt7BT=true:=by kernel_rfl
theorem wt7B_ok:okG wt7BG 8=true:=by kernel_rfl
theorem wt7B_hooks (F:List Fact):Hooks Try.prog (cxOf wt7BX F) where
 val:=fun f args v h=>by simp only [wt7BX,cxOf,noHook,reduceCtorEq] at h
 mem:=fun f args hp v hp' h=>by
  replace h:(symMf (kdX wt7BY) [sf29a,sf29b,sf29c,sf30]) (symS (baseOf wt7BX F)) f args hp=some (v,hp'):=h
  exact mem_symF (X:=wt7BX) (tbl:=[sf29a,sf29b,sf29c,sf30]) (inv:=fun _=>True) (fun e he=>by
   simp only [List.mem_cons,List.not_mem_nil,or_false] at he
   rcases he with rfl|rfl|rfl|rfl
   ·exact c29a
   ·exact c29b
   ·exact c29c
   ·exact c30) wt7B_lt rfl (fun _ _ _ _=>trivial) F f args hp v hp' h
 ovl:=fun f k h=>by simp only [wt7BX,cxOf,reduceCtorEq] at h
 atm:=fun k b h=>by simp only [wt7BX,cxOf,List.not_mem_nil] at h
theorem wt7B_seg:SegOk Try.prog wTab 94 (((flatC (bodyOf Try.f7)).drop 3).take 10) w7S2 wt7BX wt7BW where
 lt:=wt7B_lt
 ok:=wt7B_ok
 hook:=wt7B_hooks
 n0:=rfl
 id:=by kernel_rfl
 reck:=by kernel_rfl
 tab:=rfl
 cuts:=rfl
 kt:=by kernel_rfl
def wt7CG:List SDef:=[.fnb 203 [.syms 2,.symi .i64 8,.symi .i64 9],
 .bin .lss (.symi .i64 11) (.int .i64 60),
 .bin .add (.symi .i64 10) (.int .i64 1),
 .fn 240 .u8 [.syms 2,.symi .i64 8,.symi .i64 9,.symi .i64 14,.symi .u8 4,.symi .u8 5,.symi .u8 6,.symi .i64 7],
 .fn 241 .u8 [.syms 2,.symi .i64 8,.symi .i64 9,.symi .i64 14,.symi .u8 4,.symi .u8 5,.symi .u8 6,.symi .i64 7],
 .fn 242 .u8 [.syms 2,.symi .i64 8,.symi .i64 9,.symi .i64 14,.symi .u8 4,.symi .u8 5,.symi .u8 6,.symi .i64 7],
 .fn 243 .i64 [.syms 2,.symi .i64 8,.symi .i64 9,.symi .i64 14,.symi .u8 4,.symi .u8 5,.symi .u8 6,.symi .i64 7],
 .fn 244 .i64 [.syms 2,.symi .i64 8,.symi .i64 9,.symi .i64 14],
 .bin .add (.symi .i64 8) (.symi .i64 19),
 .bin .sub (.symi .i64 9) (.symi .i64 19),
 .bin .eql (.symi .i64 18) (.symi .i64 14),
 .ite (.symb 22) (.symi .u8 16) (.int .u8 0),
 .fn 210 .u8 [.syms 2,.symi .i64 11],
 .fn 211 .u8 [.syms 2,.symi .i64 11],
 .fnb 212 [.syms 2,.symi .i64 11],
 .fn 213 .u8 [.syms 2,.symi .i64 11],
 .bin .eql (.symi .u8 15) (.symi .u8 24),
 .bin .eql (.symi .u8 17) (.symi .u8 25),
 .bin .eql (.symb 22) (.symb 26),
 .bin .eql (.symi .u8 23) (.symi .u8 27),
 .bin .neq (.symi .i64 14) (.symi .i64 11),
 .bin .add (.symi .i64 11) (.int .i64 1)]
def wt7CT:LT:=.n (.n (.n (.n (.n (.e) 37321858 33 (.bin .add (.symi .i64 11) (.int .i64 1)) (.e)) 40274014 13 (.bin .lss (.symi .i64 11) (.int .i64 60)) (.e)) 73400563 23 (.ite (.symb 22) (.symi .u8 16) (.int .u8 0)) (.n (.n (.e) 91844382 28 (.bin .eql (.symi .u8 15) (.symi .u8 24)) (.e)) 182534992 22 (.bin .eql (.symi .i64 18) (.symi .i64 14)) (.e))) 400758057 19 (.fn 244 .i64 [.syms 2,.symi .i64 8,.symi .i64 9,.symi .i64 14]) (.n (.n (.n (.e) 419724384 30 (.bin .eql (.symb 22) (.symb 26)) (.e)) 474194564 12 (.fnb 203 [.syms 2,.symi .i64 8,.symi .i64 9]) (.e)) 637198566 29 (.bin .eql (.symi .u8 17) (.symi .u8 25)) (.n (.n (.e) 754787114 15 (.fn 240 .u8 [.syms 2,.symi .i64 8,.symi .i64 9,.symi .i64 14,.symi .u8 4,.symi .u8 5,.symi .u8 6,.symi .i64 7]) (.e)) 754787157 16 (.fn 241 .u8 [.syms 2,.symi .i64 8,.symi .i64 9,.symi .i64 14,.symi .u8 4,.symi .u8 5,.symi .u8 6,.symi .i64 7]) (.e)))) 754787200 17 (.fn 242 .u8 [.syms 2,.symi .i64 8,.symi .i64 9,.symi .i64 14,.symi .u8 4,.symi .u8 5,.symi .u8 6,.symi .i64 7]) (.n (.n (.n (.n (.e) 754787243 18 (.fn 243 .i64 [.syms 2,.symi .i64 8,.symi .i64 9,.symi .i64 14,.symi .u8 4,.symi .u8 5,.symi .u8 6,.symi .i64 7]) (.e)) 820408928 26 (.fnb 212 [.syms 2,.symi .i64 11]) (.e)) 856165713 31 (.bin .eql (.symi .u8 23) (.symi .u8 27)) (.n (.n (.e) 889299775 20 (.bin .add (.symi .i64 8) (.symi .i64 19)) (.e)) 895956707 32 (.bin .neq (.symi .i64 14) (.symi .i64 11)) (.e))) 909877392 24 (.fn 210 .u8 [.syms 2,.symi .i64 11]) (.n (.n (.n (.e) 909877435 25 (.fn 211 .u8 [.syms 2,.symi .i64 11]) (.e)) 909877521 27 (.fn 213 .u8 [.syms 2,.symi .i64 11]) (.e)) 990300085 21 (.bin .sub (.symi .i64 9) (.symi .i64 19)) (.n (.e) 1010063382 14 (.bin .add (.symi .i64 10) (.int .i64 1)) (.e))))
def wt7CW:Sw:=.node 12 (.node 28 (.node 29 (.node 30 (.node 31 (.node 32 (.dead) (.run (.node 13 (.leaf .normal w7S3 [(0,0),(1,0),(2,0),(3,0),(4,0)] [(1,.symi .i64 1),(3,.symi .i64 3),(3,.symi .i64 3),(11,.symi .i64 33),(0,.syms 0),(1,.symi .i64 1),(2,.syms 2),(3,.symi .i64 3),(2,.syms 2),(3,.symi .i64 3),(4,.symi .u8 15),(5,.symi .u8 16),(6,.symi .u8 17),(7,.symi .i64 18),(8,.symi .i64 20),(9,.symi .i64 21),(10,.symi .i64 14),(2,.syms 2),(3,.symi .i64 3)] []) (.leaf (.exit 0) w7S3 [(0,0),(1,0),(2,0),(3,0),(4,0)] [(1,.symi .i64 1),(3,.symi .i64 3),(3,.symi .i64 3),(11,.symi .i64 11),(0,.syms 0),(1,.symi .i64 1),(2,.syms 2),(3,.symi .i64 3),(2,.syms 2),(3,.symi .i64 3),(4,.symi .u8 4),(5,.symi .u8 5),(6,.symi .u8 6),(7,.symi .i64 7),(8,.symi .i64 8),(9,.symi .i64 9),(10,.symi .i64 10),(2,.syms 2),(3,.symi .i64 3)] [])))) (.dead)) (.dead)) (.dead)) (.dead)) (.dead)
def wt7CKd:KdT:=.n (.n (.n (.n (.n (.n .e none .e) (some .u8) .e) (some .i64) (.n .e (some .u8) .e)) (some .i64) (.n (.n .e (some .i64) .e) (some .i64) (.n .e (some .u8) .e))) (some .i64) (.n (.n (.n (.n .e (some .i64) .e) (some .u8) .e) (some .i64) (.n .e (some .u8) .e)) (some .u8) (.n (.n .e (some .i64) .e) none (.n .e none .e)))) none (.n (.n (.n (.n (.n .e none .e) (some .u8) .e) (some .i64) (.n .e (some .u8) .e)) (some .u8) (.n (.n .e (some .i64) .e) none (.n .e none .e))) none (.n (.n (.n .e (some .i64) .e) (some .i64) (.n .e none .e)) (some .u8) (.n (.n .e none .e) (some .i64) (.n .e none .e))))
def wt7CY:Ing:={m:=12,ins:=w7K3,G:=wt7CG,T:=wt7CT,tab:=wTab,lsts:=wL,kb:=34,kt:=wt7CKd}
def wt7CX:Ing:={m:=12,ins:=w7K3,G:=wt7CG,T:=wt7CT,tab:=wTab,lsts:=wL,kb:=34,kt:=wt7CKd,mh:=symMf (kdX wt7CY) [sf32,sf33]}
theorem wt7C_lt:okLT 12 wt7CG wt7CT=true:=by kernel_rfl
theorem wt7C_ok:okG wt7CG 12=true:=by kernel_rfl
theorem wt7C_hooks (F:List Fact):Hooks Try.prog (cxOf wt7CX F) where
 val:=fun f args v h=>by simp only [wt7CX,cxOf,noHook,reduceCtorEq] at h
 mem:=fun f args hp v hp' h=>by
  replace h:(symMf (kdX wt7CY) [sf32,sf33]) (symS (baseOf wt7CX F)) f args hp=some (v,hp'):=h
  exact mem_symF (X:=wt7CX) (tbl:=[sf32,sf33]) (inv:=fun _=>True) (fun e he=>by
   simp only [List.mem_cons,List.not_mem_nil,or_false] at he
   rcases he with rfl|rfl
   ·exact c32
   ·exact c33) wt7C_lt rfl (fun _ _ _ _=>trivial) F f args hp v hp' h
 ovl:=fun f k h=>by simp only [wt7CX,cxOf,reduceCtorEq] at h
 atm:=fun k b h=>by simp only [wt7CX,cxOf,List.not_mem_nil] at h
theorem wt7C_seg:SegOk Try.prog wTab 94 ([loopOf (bodyOf Try.f7)]) w7S3 wt7CX wt7CW where
 lt:=wt7C_lt
 ok:=wt7C_ok
 hook:=wt7C_hooks
 n0:=rfl
 id:=by kernel_rfl
 reck:=by kernel_rfl
 tab:=rfl
 cuts:=rfl
 kt:=by kernel_rfl
def wt7DG:List SDef:=[.fnb 206 [.syms 2,.syms 2]]
def wt7DT:LT:=.n (.e) 178580658 12 (.fnb 206 [.syms 2,.syms 2]) (.e)
def wt7DW:Sw:=.node 12 (.run (.leaf .ret w7SE [(0,0)] [(1,.symi .i64 1),(0,.syms 0),(1,.symi .i64 1)] [])) (.dead)
def wt7DKd:KdT:=.n (.n (.n (.n .e (some .i64) .e) (some .i64) (.n .e (some .i64) .e)) (some .i64) (.n (.n .e (some .i64) .e) (some .u8) .e)) none (.n (.n (.n .e (some .i64) .e) (some .u8) (.n .e none .e)) none (.n (.n .e (some .i64) .e) (some .u8) .e))
def wt7DY:Ing:={m:=12,ins:=w7K3,G:=wt7DG,T:=wt7DT,tab:=wTab,lsts:=wL,kb:=13,kt:=wt7DKd,hook:=trueHook w8Tru}
def wt7DX:Ing:={m:=12,ins:=w7K3,G:=wt7DG,T:=wt7DT,tab:=wTab,lsts:=wL,kb:=13,kt:=wt7DKd,hook:=trueHook w8Tru,mh:=symMf (kdX wt7DY) [sf27]}
theorem wt7D_lt:okLT 12 wt7DG wt7DT=true:=by kernel_rfl
theorem wt7D_ok:okG wt7DG 12=true:=by kernel_rfl
theorem wt7D_hooks (F:List Fact):Hooks Try.prog (cxOf wt7DX F) where
 val:=fun f args v h hp=>tru_val (X:=wt7DX) rfl F f args v h hp
 mem:=fun f args hp v hp' h=>by
  replace h:(symMf (kdX wt7DY) [sf27]) (symS (baseOf wt7DX F)) f args hp=some (v,hp'):=h
  exact mem_symF (X:=wt7DX) (tbl:=[sf27]) (inv:=fun _=>True) (fun e he=>by
   simp only [List.mem_cons,List.not_mem_nil,or_false] at he
   rcases he with rfl
   ·exact c27) wt7D_lt rfl (fun _ _ _ _=>trivial) F f args hp v hp' h
 ovl:=fun f k h=>by simp only [wt7DX,cxOf,reduceCtorEq] at h
 atm:=fun k b h=>by simp only [wt7DX,cxOf,List.not_mem_nil] at h
theorem wt7D_seg:SegOk Try.prog wTab 94 ((flatC (bodyOf Try.f7)).drop 14) w7S3 wt7DX wt7DW where
 lt:=wt7D_lt
 ok:=wt7D_ok
 hook:=wt7D_hooks
 n0:=rfl
 id:=by kernel_rfl
 reck:=by kernel_rfl
 tab:=rfl
 cuts:=rfl
 kt:=by kernel_rfl
theorem pin7 {W:World} {X:Fz} {Wt:Sw} (h:pinW 0 Wt=true): ∀i,(fra7 W X).pin i≠none→pinW i Wt=true:=by
 intro i hi
 by_cases h0:i=0
 ·subst h0;exact h
 ·have hi:(if i=0 then some (if 0<X.len then some (locR W X) else none) else none)≠none:=hi
  rw [if_neg h0] at hi
  exact absurd rfl hi
structure J7a (E:Nat→Option Fz) (N:Nat) (s:List E3) (σ:Sig):Prop where
 ex:σ.ext=E
 n1:σ.ival 1=N
 s6:σ.sval 6=Wt.encL s
 n7:σ.ival 7=s.length
structure J7b (E:Nat→Option Fz) (C:ByteArray) (N:Nat) (s:List E3) (σ:Sig):Prop where
 ex:σ.ext=E
 s0:σ.sval 0=C
 n1:σ.ival 1=N
 s6:σ.sval 6=Wt.encL s
 n7:σ.ival 7=s.length
theorem J7b.agree {E:Nat→Option Fz} {C:ByteArray} {N:Nat} {s:List E3} {σ τ:Sig} (ag:Agree 8 σ τ) (h:J7b E C N s σ):J7b E C N s τ:=
 ⟨by rw [←ag.ext];exact h.ex,by rw [←(ag.val 0 (by decide)).2.2];exact h.s0,by rw [←(ag.val 1 (by decide)).1];exact h.n1,by rw [←(ag.val 6 (by decide)).2.2];exact h.s6,by rw [←(ag.val 7 (by decide)).1];exact h.n7⟩
structure J7 (E:Nat→Option Fz) (N:Nat) (s:List E3) (i:Nat) (σ:Sig):Prop where
 ex:σ.ext=E
 n1:σ.ival 1=N
 s2:σ.sval 2=Wt.encL s
 n3:σ.ival 3=s.length
 i11:σ.ival 11=((i+1:Nat):Int)
 hi:i≤59
 p:PlI s i (σ.ival 4) (σ.ival 5) (σ.ival 6) (σ.ival 7) (σ.ival 8) (σ.ival 9)
 c:σ.ival 10=i
theorem J7.agree {E:Nat→Option Fz} {N:Nat} {s:List E3} {i:Nat} {σ τ:Sig} (ag:Agree 12 σ τ) (h:J7 E N s i σ):J7 E N s i τ:=by
 have e:=fun j (hj:j<12)=>(ag.val j hj).1
 have es:=fun j (hj:j<12)=>(ag.val j hj).2.2
 refine ⟨by rw [←ag.ext];exact h.ex,by rw [←e 1 (by decide)];exact h.n1,by rw [←es 2 (by decide)];exact h.s2,by rw [←e 3 (by decide)];exact h.n3,by rw [←e 11 (by decide)];exact h.i11,h.hi,?_,by rw [←e 10 (by decide)];exact h.c⟩
 rw [←e 4 (by decide),←e 5 (by decide),←e 6 (by decide),←e 7 (by decide),←e 8 (by decide),←e 9 (by decide)];exact h.p
theorem J7.zero {E:Nat→Option Fz} {N:Nat} {s:List E3} {τ:Sig} (hx:τ.ext=E) (h1:τ.ival 1=N) (h6:τ.sval 6=Wt.encL s) (h7:τ.ival 7=s.length):
  J7 E N s 0 (asgS τ ([(1,.symi .i64 1),(3,.symi .i64 7),(3,.symi .i64 7),(11,.int .i64 1),(0,.syms 0),(1,.symi .i64 1),(2,.syms 6),(3,.symi .i64 7),(2,.syms 6),(3,.symi .i64 7),(4,.int .u8 0),(5,.int .u8 0),(6,.int .u8 0),(7,.int .i64 0),(8,.int .i64 0),(9,.symi .i64 7),(10,.int .i64 0),(2,.syms 6),(3,.symi .i64 7)]++[])):=by
 refine ⟨extS hx,h1,h6,h7,rfl,by decide,?_,rfl⟩
 show PlI s 0 0 0 0 0 0 (τ.ival 7)
 rw [h7];exact .zero s
theorem J7.step {E:Nat→Option Fz} {N:Nat} {s:List E3} {i:Nat} {τ:Sig} (h:J7 E N s i τ) (hi:i+1≤59) (h33:τ.ival 33=((i+1+1:Nat):Int)) (h14:τ.ival 14=((i+1:Nat):Int))
  (hp:PlI s (i+1) (τ.ival 15) (τ.ival 16) (τ.ival 17) (τ.ival 18) (τ.ival 20) (τ.ival 21)):
  J7 E N s (i+1) (asgS τ ([(1,.symi .i64 1),(3,.symi .i64 3),(3,.symi .i64 3),(11,.symi .i64 33),(0,.syms 0),(1,.symi .i64 1),(2,.syms 2),(3,.symi .i64 3),(2,.syms 2),(3,.symi .i64 3),(4,.symi .u8 15),(5,.symi .u8 16),(6,.symi .u8 17),(7,.symi .i64 18),(8,.symi .i64 20),(9,.symi .i64 21),(10,.symi .i64 14),(2,.syms 2),(3,.symi .i64 3)]++[])):=
 ⟨extS h.ex,h.n1,h.s2,h.n3,h33,hi,hp,h14⟩
theorem J7.same {E:Nat→Option Fz} {N:Nat} {s:List E3} {i:Nat} {τ:Sig} (h:J7 E N s i τ):
  J7 E N s i (asgS τ ([(1,.symi .i64 1),(3,.symi .i64 3),(3,.symi .i64 3),(11,.symi .i64 11),(0,.syms 0),(1,.symi .i64 1),(2,.syms 2),(3,.symi .i64 3),(2,.syms 2),(3,.symi .i64 3),(4,.symi .u8 4),(5,.symi .u8 5),(6,.symi .u8 6),(7,.symi .i64 7),(8,.symi .i64 8),(9,.symi .i64 9),(10,.symi .i64 10),(2,.syms 2),(3,.symi .i64 3)]++[])):=
 ⟨extS h.ex,h.n1,h.s2,h.n3,h.i11,h.hi,h.p,h.c⟩
set_option maxHeartbeats 2000000 in
theorem round {E:Nat→Option Fz} {N:Nat} {s:List E3} (hScr:Script s) (hs: ∀x,x∈s→okV x) (hl:s.length≤1000) {i:Nat} {τ:Sig} (e:Eqs τ 12 wt7CG) (ht:τ.tab=wTab) (hj:J7 E N s i τ):
  τ.bval 12=true∧τ.bval 28=true∧τ.bval 29=true∧τ.bval 30=true∧τ.bval 31=true∧τ.bval 32=false∧τ.bval 13=decide (i+1<60)∧τ.ival 14=((i+1:Nat):Int)∧τ.ival 33=((i+1+1:Nat):Int)∧PlI s (i+1) (τ.ival 15) (τ.ival 16) (τ.ival 17) (τ.ival 18) (τ.ival 20) (τ.ival 21):=by
 have k11:=hj.i11
 have hi:=hj.hi
 have k10:=hj.c
 have b12:τ.bval 12= !(τ.tab 203 [encB (τ.sval 2),τ.ival 8,τ.ival 9]==0):=eqFnb (e.at 0 _ rfl rfl)
 have b13:τ.bval 13=decide (τ.ival 11<60):=eqB (e.at 1 _ rfl rfl) rfl
 have i14:τ.ival 14=IntKind.i64.wrap (τ.ival 10+1):=eqI (e.at 2 _ rfl rfl) rfl
 have i15:τ.ival 15=IntKind.u8.wrap (τ.tab 240 [encB (τ.sval 2),τ.ival 8,τ.ival 9,τ.ival 14,τ.ival 4,τ.ival 5,τ.ival 6,τ.ival 7]):=eqFn (e.at 3 _ rfl rfl)
 have i16:τ.ival 16=IntKind.u8.wrap (τ.tab 241 [encB (τ.sval 2),τ.ival 8,τ.ival 9,τ.ival 14,τ.ival 4,τ.ival 5,τ.ival 6,τ.ival 7]):=eqFn (e.at 4 _ rfl rfl)
 have i17:τ.ival 17=IntKind.u8.wrap (τ.tab 242 [encB (τ.sval 2),τ.ival 8,τ.ival 9,τ.ival 14,τ.ival 4,τ.ival 5,τ.ival 6,τ.ival 7]):=eqFn (e.at 5 _ rfl rfl)
 have i18:τ.ival 18=IntKind.i64.wrap (τ.tab 243 [encB (τ.sval 2),τ.ival 8,τ.ival 9,τ.ival 14,τ.ival 4,τ.ival 5,τ.ival 6,τ.ival 7]):=eqFn (e.at 6 _ rfl rfl)
 have i19:τ.ival 19=IntKind.i64.wrap (τ.tab 244 [encB (τ.sval 2),τ.ival 8,τ.ival 9,τ.ival 14]):=eqFn (e.at 7 _ rfl rfl)
 have i20:τ.ival 20=IntKind.i64.wrap (τ.ival 8+τ.ival 19):=eqI (e.at 8 _ rfl rfl) rfl
 have i21:τ.ival 21=IntKind.i64.wrap (τ.ival 9-τ.ival 19):=eqI (e.at 9 _ rfl rfl) rfl
 have b22:τ.bval 22=(τ.ival 18==τ.ival 14):=eqB (e.at 10 _ rfl rfl) rfl
 have i23:τ.ival 23=(bif τ.bval 22 then τ.ival 16 else 0):=eqIteI (e.at 11 _ rfl rfl) rfl rfl rfl
 have i24:τ.ival 24=IntKind.u8.wrap (τ.tab 210 [encB (τ.sval 2),τ.ival 11]):=eqFn (e.at 12 _ rfl rfl)
 have i25:τ.ival 25=IntKind.u8.wrap (τ.tab 211 [encB (τ.sval 2),τ.ival 11]):=eqFn (e.at 13 _ rfl rfl)
 have b26:τ.bval 26= !(τ.tab 212 [encB (τ.sval 2),τ.ival 11]==0):=eqFnb (e.at 14 _ rfl rfl)
 have i27:τ.ival 27=IntKind.u8.wrap (τ.tab 213 [encB (τ.sval 2),τ.ival 11]):=eqFn (e.at 15 _ rfl rfl)
 have b28:τ.bval 28=(τ.ival 15==τ.ival 24):=eqB (e.at 16 _ rfl rfl) rfl
 have b29:τ.bval 29=(τ.ival 17==τ.ival 25):=eqB (e.at 17 _ rfl rfl) rfl
 have b30:τ.bval 30=(τ.bval 22==τ.bval 26):=eqB (e.at 18 _ rfl rfl) rfl
 have b31:τ.bval 31=(τ.ival 23==τ.ival 27):=eqB (e.at 19 _ rfl rfl) rfl
 have b32:τ.bval 32= !(τ.ival 14==τ.ival 11):=eqB (e.at 20 _ rfl rfl) rfl
 have i33:τ.ival 33=IntKind.i64.wrap (τ.ival 11+1):=eqI (e.at 21 _ rfl rfl) rfl
 rw [ht,hj.s2,hj.p.pc hs hScr] at b12
 rw [wr_i64] at i14 i33
 have h14:τ.ival 14=(i:Int)+1:=by omega
 rw [ht,hj.s2] at i15 i16 i17 i18 i19
 have hp:=hj.p.next hs hl h14 i15 i16 i17 i18 i19 i20 i21
 clear i15 i16 i17 i18 i19 i20 i21
 have h14':τ.ival 14=((i+1:Nat):Int):=by omega
 have hdec:decL (encB (Wt.encL s))=s:=decL_enc hs
 have e0:wTab 210 [encB (Wt.encL s),((i+1:Nat):Int)]=(at_ (decL (encB (Wt.encL s))) ((i+1:Nat):Int)).pins:=rfl
 have e1:wTab 211 [encB (Wt.encL s),((i+1:Nat):Int)]=(at_ (decL (encB (Wt.encL s))) ((i+1:Nat):Int)).mask:=rfl
 have e2:wTab 212 [encB (Wt.encL s),((i+1:Nat):Int)]=b01 (at_ (decL (encB (Wt.encL s))) ((i+1:Nat):Int)).isb:=rfl
 have e3:wTab 213 [encB (Wt.encL s),((i+1:Nat):Int)]=(at_ (decL (encB (Wt.encL s))) ((i+1:Nat):Int)).byte:=rfl
 obtain ⟨w1,w2,w3⟩:=hp.byte hScr
 rw [ht,hj.s2,k11,e0,hdec,w1] at i24
 rw [ht,hj.s2,k11,e1,hdec,w2] at i25
 rw [ht,hj.s2,k11,e2,b01_ne,hdec] at b26
 rw [ht,hj.s2,k11,e3,hdec,w3] at i27
 have po:=hp.out hScr
 have pOut:Now.mk (τ.ival 15) (τ.ival 17) (τ.bval 22) (τ.ival 23)=at_ s ((i+1:Nat):Int):=by
  rw [←po,i23,b22,h14']
  congr 1
  all_goals first
   |rw [bif_eq]
   |(by_cases h:τ.ival 18=((i+1:Nat):Int)<;>simp [h])
 have q0:=congrArg Now.pins pOut
 have q1:=congrArg Now.mask pOut
 have q2:=congrArg Now.isb pOut
 have q3:=congrArg Now.byte pOut
 simp only at q0 q1 q2 q3
 refine ⟨b12,?_,?_,?_,?_,?_,?_,h14',by omega,hp⟩
 ·rw [b28,i24,q0];simp
 ·rw [b29,i25,q1];simp
 ·rw [b30,b26,q2];simp
 ·rw [b31,i27,q3];simp
 ·rw [b32,h14',k11];simp
 ·rw [b13,k11,decide_eq_decide];omega
abbrev WZ (W:World):=bodyPost Try.prog Try.f7 (fun e W'=>e=.returned (encR [.one .b] [1])∧Below W.heap.size W W')
set_option maxHeartbeats 2000000 in
theorem walk (W:World) (v0:Value) (X:Fz) (hX:RowV W [.i .i64,.i .i64,.i .u8] v0 X) (hs0:SlcV W 3 v0) (v1:Value) (Y:Fz) (hY:RowV W [.i .u8,.i .u8,.i .u8] v1 Y) (l2:List Int) (i2:InR [.i .i64,.i .i64,.i .u8] l2):Calls Try.prog 7 #[v0,v1,.agg (encCs [.i .i64,.i .i64,.i .u8] l2).toArray] W fun e W'=>e=.returned (.bool true)∧Below W.heap.size W W':=by
 obtain ⟨a0,a1,a2,rfl,w0,w1,w2⟩: ∃a0 a1 a2:Int,l2=[a0,a1,a2]∧IntKind.i64.wrap a0=a0∧IntKind.i64.wrap a1=a1∧IntKind.u8.wrap a2=a2:=by
  match l2,i2 with
  |[a,b,c],⟨h1,h2,h3,_⟩=>exact ⟨a,b,c,rfl,h1,h2,h3⟩
 let σ0:Sig:=⟨fun i=>if i=2 then (X.len:Int) else if i=3 then a0 else if i=4 then a1 else if i=5 then a2 else if i=6 then (Y.len:Int) else 0,fun _=>false,fun i=>if i=7 then conR Y Y.len else .empty,wTab,ext7 W X Y⟩
 have hXl:=hX.len
 have hYl:=hY.len
 let C:=conR Y Y.len
 let s:=script (Y.len:Int) C
 have hso:ScrOk (scrN C (min Y.len 100)).1 (scrN C (min Y.len 100)).2 (min Y.len 100):=scrN_ok C _ (by omega)
 have hse:s=(scrN C (min Y.len 100)).1:=script_min rfl
 have hScr:Script s:=by rw [hse];exact hso.script
 have hs: ∀x,x∈s→okV x:=by rw [hse];exact scr_okV hso
 have hl:s.length≤100:=by rw [hse,scrN_len];omega
 have hsd:s=script (Y.len:Int) C:=rfl
 have hCd:C=conR Y Y.len:=rfl
 clear_value s C
 have hCs:(Wt.encL s).data.toList.length=s.length*17:=encL_len hs
 have hls:lstE (Wt.encL s) s.length=s:=lstE_enc hs
 obtain ⟨N,hNd⟩: ∃N,N=min X.len 60:=⟨_,rfl⟩
 have hN:N≤X.len:=by omega
 have hN0:0<X.len→0<N:=by omega
 have hRl:=conI_len hX N hN
 have hlast:Stage Try.prog wTab 94 (fra7 W X) (WZ W) ((flatC (bodyOf Try.f7)).drop 14) w7S3 12 w7K3 (fun σ=> ∃i,J7 (extM W X) N s i σ):=by
  refine Stage.last mixed wt7D_seg ⟨rfl,rfl⟩ (fun σ τ ag h=>let ⟨i,hi⟩:=h;⟨i,hi.agree ag⟩) (fun _ _=>rows_nil) (fun τ e ht hi hj=> ?_) (pin7 (by kernel_rfl))
  obtain ⟨i,hj⟩:=hj
  have b12:τ.bval 12= !(τ.tab 206 [encB (τ.sval 2),encB (τ.sval 2)]==0):=eqFnb (e.at 0 _ rfl rfl)
  have d12:τ.bval 12=true:=by rw [b12,ht];exact same206 _
  refine segsPw_segs ?_
  exact ⟨fun _=>end7 (.inl rfl) (extS hj.ex) hj.n1 hN0,fun f=>(by rw [d12] at f;cases f)⟩
 have hloop:Stage Try.prog wTab 94 (fra7 W X) (WZ W) (.block (idOf (bodyOf Try.f7)) (.loop (loopOf (bodyOf Try.f7)))::(flatC (bodyOf Try.f7)).drop 14) w7S3 12 w7K3 (fun σ=> ∃i,J7 (extM W X) N s i σ):=by
  refine Stage.loop (μ:=fun σ=>(60-σ.ival 11).toNat) mixed wt7C_seg ⟨rfl,rfl⟩ (fun σ τ ag h=>let ⟨i,hi⟩:=h;⟨i,hi.agree ag⟩) (fun σ τ ag=>by rw [(ag.val 11 (by decide)).1]) (fun τ h=>rows_nil) hlast (fun τ e ht hi hj=> ?_) (pin7 (by kernel_rfl))
  obtain ⟨i,hj⟩:=hj
  obtain ⟨b12,b28,b29,b30,b31,b32,b13,h14,h33,hp⟩:=round hScr hs (by omega) e ht hj
  have k11:=hj.i11
  refine segsPw_segs ?_
  refine ⟨fun _=>⟨fun _=>⟨fun _=>⟨fun _=>⟨fun _=>⟨fun f=>(by rw [b32] at f;cases f),fun _=>⟨fun f13=> ?_,fun f13=> .inr (.inl ⟨rfl,rfl,insOk_kt (X:=wt7CX) e hi (by kernel_rfl) (by kernel_rfl),⟨i,hj.same⟩,tabS ht⟩)⟩⟩,fun f=>(by rw [b31] at f;cases f)⟩,fun f=>(by rw [b30] at f;cases f)⟩,fun f=>(by rw [b29] at f;cases f)⟩,fun f=>(by rw [b28] at f;cases f)⟩,fun f=>(by rw [b12] at f;cases f)⟩
  rw [b13,decide_eq_true_eq] at f13
  have hst:=hj.step (by omega) h33 h14 hp
  refine .inl ⟨rfl,rfl,insOk_kt (X:=wt7CX) e hi (by kernel_rfl) (by kernel_rfl),⟨_,hst⟩,tabS ht,?_⟩
  show (60-τ.ival 33).toNat<(60-τ.ival 11).toNat
  omega
 have hmid:Stage Try.prog wTab 94 (fra7 W X) (WZ W) ((flatC (bodyOf Try.f7)).drop 3) w7S2 8 w7K2 (J7b (extM W X) (conI X N) N s):=by
  rw [show (flatC (bodyOf Try.f7)).drop 3=((flatC (bodyOf Try.f7)).drop 3).take 10++(.block (idOf (bodyOf Try.f7)) (.loop (loopOf (bodyOf Try.f7)))::(flatC (bodyOf Try.f7)).drop 14) from rfl]
  refine Stage.seg mixed wt7B_seg ⟨rfl,rfl⟩ (fun σ τ ag h=>h.agree ag) (fun τ h=>rows_nil) hloop (fun τ e ht hi hj=> ?_) (pin7 (by kernel_rfl))
  have k3:=hi 3 .i64 (by decide) rfl
  have k4:=hi 4 .i64 (by decide) rfl
  have n7:=hj.n7
  have b8:τ.bval 8= !(τ.tab 202 [encB (τ.sval 6)]==0):=eqFnb (e.at 0 _ rfl rfl)
  have i9:τ.ival 9=IntKind.u16.wrap (τ.ival 3):=eqI (e.at 1 _ rfl rfl) rfl
  have i10:τ.ival 10=(τ.ival 9).tmod 600:=eqI (e.at 2 _ rfl rfl) rfl
  have i11:τ.ival 11=IntKind.i64.wrap (τ.ival 10):=eqI (e.at 3 _ rfl rfl) rfl
  have i12:τ.ival 12=IntKind.i64.wrap (1+τ.ival 11):=eqI (e.at 4 _ rfl rfl) rfl
  have i13:τ.ival 13=IntKind.u8.wrap (τ.ival 4):=eqI (e.at 5 _ rfl rfl) rfl
  have i14:τ.ival 14=(τ.ival 13).tmod 3:=eqI (e.at 6 _ rfl rfl) rfl
  have i15:τ.ival 15=IntKind.i64.wrap (τ.ival 14):=eqI (e.at 7 _ rfl rfl) rfl
  have b16:τ.bval 16= !(τ.tab 205 [τ.ival 12,τ.ival 15,τ.ival 5]==0):=eqFnb (e.at 8 _ rfl rfl)
  have b17:τ.bval 17= !(τ.tab 205 [τ.ival 3,τ.ival 4,τ.ival 5]==0):=eqFnb (e.at 9 _ rfl rfl)
  have b18:τ.bval 18= !(τ.tab 209 [τ.ival 3,τ.ival 4,τ.ival 5]==0):=eqFnb (e.at 10 _ rfl rfl)
  have b19:τ.bval 19= !(τ.tab 202 [encB (τ.sval 0)]==0):=eqFnb (e.at 11 _ rfl rfl)
  have b20:τ.bval 20= !(τ.tab 208 [encB (τ.sval 0)]==0):=eqFnb (e.at 12 _ rfl rfl)
  have b21:τ.bval 21=decide ((0:Int)≤τ.ival 7):=eqB (e.at 13 _ rfl rfl) rfl
  have b22:τ.bval 22=decide (τ.ival 7≤5864062014805):=eqB (e.at 14 _ rfl rfl) rfl
  have i23:τ.ival 23=IntKind.i64.wrap (τ.ival 12-1):=eqI (e.at 15 _ rfl rfl) rfl
  have b24:τ.bval 24= !(τ.tab 208 [encB (τ.sval 6)]==0):=eqFnb (e.at 16 _ rfl rfl)
  have d8:τ.bval 8=true:=b8.trans (bval202 (i:=6) ht hj.s6 hCs ⟨by rw [hls];exact hScr,by omega⟩)
  have hx:okIn (⟨τ.ival 12,τ.ival 15,τ.ival 5⟩:E3):=by
   rw [wr_u16] at i9
   rw [wr_i64] at i11 i12 i15
   rw [wr_u8] at i13
   rw [Int.tmod_eq_emod_of_nonneg (by omega)] at i10 i14
   refine ⟨?_,?_,?_,?_⟩<;>simp only<;>omega
  have d16:τ.bval 16=true:=b16.trans ((bval205 (x:=⟨τ.ival 12,τ.ival 15,τ.ival 5⟩) ht rfl rfl rfl).trans (decide_eq_true hx))
  have d17:τ.bval 17=decide (okIn (⟨τ.ival 3,τ.ival 4,τ.ival 5⟩:E3)):=b17.trans (bval205 (x:=⟨τ.ival 3,τ.ival 4,τ.ival 5⟩) ht rfl rfl rfl)
  have d18:τ.bval 18=decide (¬okIn (⟨τ.ival 3,τ.ival 4,τ.ival 5⟩:E3)):=b18.trans (bval209 (x:=⟨τ.ival 3,τ.ival 4,τ.ival 5⟩) ht rfl rfl rfl)
  have n18:τ.bval 17=false→ ¬τ.bval 18=false:=fun f g=>by
   rw [d17,decide_eq_false_iff_not] at f
   rw [d18,decide_eq_false_iff_not] at g
   exact g f
  have n20:τ.bval 19=false→ ¬τ.bval 20=false:=fun f g=>by
   rw [b19,ht,hj.s0,tab202,b01_ne,decL_of hRl,decide_eq_false_iff_not,lstE_len] at f
   rw [b20,ht,hj.s0,tab208,b01_ne,decL_of hRl,decide_eq_false_iff_not,lstE_len] at g
   have hN6:N≤1000000:=by omega
   exact g ⟨fun h0=>f ⟨h0,hN6⟩,hN6⟩
  have n21: ¬τ.bval 21=false:=fun f=>by
   rw [b21,decide_eq_false_iff_not] at f;omega
  have n22: ¬τ.bval 22=false:=fun f=>by
   rw [b22,decide_eq_false_iff_not] at f;omega
  have go:=fun (hins:insAsg (kdX wt7BX) ([(1,.symi .i64 1),(3,.symi .i64 7),(3,.symi .i64 7),(11,.int .i64 1),(0,.syms 0),(1,.symi .i64 1),(2,.syms 6),(3,.symi .i64 7),(2,.syms 6),(3,.symi .i64 7),(4,.int .u8 0),(5,.int .u8 0),(6,.int .u8 0),(7,.int .i64 0),(8,.int .i64 0),(9,.symi .i64 7),(10,.int .i64 0),(2,.syms 6),(3,.symi .i64 7)]++[]) w7K3 0=true)=>(show InsOk _ 12 w7K3∧(∃i,J7 (extM W X) N s i _)∧τ.tab=wTab from ⟨insOk_kt (X:=wt7BX) e hi (by kernel_rfl) hins,⟨0,J7.zero hj.ex hj.n1 hj.s6 hj.n7⟩,ht⟩)
  have go:=go (by kernel_rfl)
  refine segsPw_segs ?_
  have fin:=(show (SEx.normal=.normal∧w7S3=w7S3∧_∧_∧_)∨_ from .inl (b:=SEx.normal≠.normal∧EndZ wTab 94 (fra7 W X) (WZ W) .normal w7S3 (asgS τ ([(1,.symi .i64 1),(3,.symi .i64 7),(3,.symi .i64 7),(11,.int .i64 1),(0,.syms 0),(1,.symi .i64 1),(2,.syms 6),(3,.symi .i64 7),(2,.syms 6),(3,.symi .i64 7),(4,.int .u8 0),(5,.int .u8 0),(6,.int .u8 0),(7,.int .i64 0),(8,.int .i64 0),(9,.symi .i64 7),(10,.int .i64 0),(2,.syms 6),(3,.symi .i64 7)]++[]))) ⟨rfl,rfl,go.1,go.2.1,go.2.2⟩)
  have two:=(⟨fun _=>⟨fun _=>fin,fun f=>absurd f n22⟩,fun f=>absurd f n21⟩:(τ.bval 21=true→(τ.bval 22=true→_)∧(τ.bval 22=false→False))∧(τ.bval 21=false→False))
  exact ⟨fun _=>⟨fun _=>⟨fun _=>⟨fun _=>two,fun f19=>⟨fun _=>two,fun f=>absurd f (n20 f19)⟩⟩,fun f17=>⟨fun _=>⟨fun _=>two,fun f19=>⟨fun _=>two,fun f=>absurd f (n20 f19)⟩⟩,fun f=>absurd f (n18 f17)⟩⟩,fun f=>(by rw [d16] at f;cases f)⟩,fun f=>(by rw [d8] at f;cases f)⟩
 have hturn:Stage Try.prog wTab 94 (fra7 W X) (WZ W) ((flatC (bodyOf Try.f7)).drop 3) w7S1 8 w7K1 (J7a (ext7 W X Y) N s):=
  turn7 hX hN hN0 (fun σ h=>⟨h.ex,h.n1⟩) (fun σ h=>⟨rfl,rfl,h.n1,h.s6,h.n7⟩) (fun σ h hi i k hlt hk=>by
   by_cases h1:i=1
   ·subst h1
    cases hk
    show IntKind.i64.wrap (σ.ival 1)=σ.ival 1
    rw [h.n1,wr_i64];omega
   ·refine hi i k hlt ?_
    have:i=0∨i=2∨i=3∨i=4∨i=5∨i=6∨i=7:=by omega
    rcases this with rfl|rfl|rfl|rfl|rfl|rfl|rfl<;>exact hk) hmid
 have hmain:Stage Try.prog wTab 94 (fra7 W X) (WZ W) (flatC (bodyOf Try.f7)) w7S0 8 w7K (fun σ=>σ.ext=ext7 W X Y∧σ.ival 2=X.len∧σ.ival 6=Y.len∧σ.sval 7=C):=by
  rw [show flatC (bodyOf Try.f7)=(flatC (bodyOf Try.f7)).take 3++(flatC (bodyOf Try.f7)).drop 3 from rfl]
  refine Stage.segI (q2:=8) (ins2:=w7K1) (S2:=w7S1) (J2:=J7a (ext7 W X Y) N s) mixed (wt7A_seg (E:=ext7 W X Y) hY (fun Z h=>ext7_0 h)) ⟨rfl,rfl⟩ (fun σ τ ag h=>⟨by rw [←ag.ext];exact h.1,by rw [←(ag.val 2 (by decide)).1];exact h.2.1,by rw [←(ag.val 6 (by decide)).1];exact h.2.2.1,by rw [←(ag.val 7 (by decide)).2.2];exact h.2.2.2⟩)
   (fun τ h=>rows_lenE (k:=6) (X:=Y) h.1 (fun Z hz=>ext7_0 hz) h.2.2.1) (fun τ h=>⟨h.1,h.2.2.1,conR_str hY (h.2.2.2.trans hCd)⟩) hturn (fun τ e ht hi hj=> ?_) (pin7 (by kernel_rfl))
  obtain ⟨hx,j2,j6,j7⟩:=hj
  have i8:τ.ival 8=(if 60<τ.ival 2 then 60 else τ.ival 2):=eqI (e.at 0 _ rfl rfl) rfl
  have b9:τ.bval 9=decide ((0:Int)≤τ.ival 8):=eqB (e.at 1 _ rfl rfl) rfl
  have b10:τ.bval 10=decide (τ.ival 8≤τ.ival 2):=eqB (e.at 2 _ rfl rfl) rfl
  have s11:τ.sval 11=decS (τ.tab 230 [τ.ival 6,encB (τ.sval 7)]):=eqFs (e.at 3 _ rfl rfl)
  have i12:τ.ival 12=IntKind.i64.wrap (τ.tab 231 [τ.ival 6,encB (τ.sval 7)]):=eqFn (e.at 4 _ rfl rfl)
  have k11:τ.sval 11=Wt.encL s:=by
   have e0:wTab 230 [(Y.len:Int),encB C]=encB (Wt.encL (script (Y.len:Int) (decS (encB C)))):=rfl
   rw [s11,ht,j6,j7,e0,decS_enc,decS_enc,←hsd]
  have k12:τ.ival 12=s.length:=by
   have e0:wTab 231 [(Y.len:Int),encB C]=((script (Y.len:Int) (decS (encB C))).length:Int):=rfl
   rw [ht,j6,j7,e0,decS_enc,←hsd,wr_i64] at i12
   omega
  have k8:τ.ival 8=N:=by
   rw [i8,j2]
   split<;>omega
  refine segsPw_segs ?_
  refine ⟨fun _=>⟨fun _=> .inl ⟨rfl,rfl,insOk_kt (X:=wt7AX (ext7 W X Y) Y) e hi (by kernel_rfl) (by kernel_rfl),⟨extS hx,k8,k11,k12⟩,tabS ht⟩,fun f=> ?_⟩,fun f=> ?_⟩
  ·rw [b10,decide_eq_false_iff_not] at f
   exfalso;omega
  ·rw [b9,decide_eq_false_iff_not] at f
   exfalso;omega
 have hu:VRel ⟨fun _=>none,σ0,fun _=>none⟩ (.agg [.symi .i64 3,.symi .i64 4,.symi .u8 5]) (.agg (encCs [.i .i64,.i .i64,.i .u8] [a0,a1,a2]).toArray):=by
  have he:encCs [.i .i64,.i .i64,.i .u8] [a0,a1,a2]=[.int .i64 a0,.int .i64 a1,.int .u8 a2]:=by
   show [Value.int .i64 (IntKind.i64.wrap a0),.int .i64 (IntKind.i64.wrap a1),.int .u8 (IntKind.u8.wrap a2)]=_
   rw [w0,w1,w2]
  rw [he]
  exact .agg _ _ (.cons _ _ _ _ (VRel.symi (g:=⟨fun _=>none,σ0,fun _=>none⟩) .i64 3) (.cons _ _ _ _ (VRel.symi (g:=⟨fun _=>none,σ0,fun _=>none⟩) .i64 4) (.cons _ _ _ _ (VRel.symi (g:=⟨fun _=>none,σ0,fun _=>none⟩) .u8 5) .nil)))
 have hins:InsOk σ0 8 w7K:=fun i k hi hk=>by
  have:i=0∨i=1∨i=2∨i=3∨i=4∨i=5∨i=6∨i=7:=by omega
  rcases this with rfl|rfl|rfl|rfl|rfl|rfl|rfl|rfl
  ·cases hk
  ·cases hk
  ·cases hk
   show IntKind.i64.wrap (X.len:Int)=X.len
   rw [wr_i64];omega
  ·cases hk;exact w0
  ·cases hk;exact w1
  ·cases hk;exact w2
  ·cases hk
   show IntKind.i64.wrap (Y.len:Int)=Y.len
   rw [wr_i64];omega
  ·cases hk
 refine calls_body Try.func7 (show Try.f7.body=some (bodyOf Try.f7) from rfl) ?_
 have:=flat_wp _ (hmain _ _ σ0 (at7 hX hs0 hY (σ0:=σ0) rfl rfl rfl hu) hins ⟨rfl,rfl,rfl,hCd.symm⟩ rfl)
 rw [then_self] at this
 exact this
end Walk
open Go.Ev
section
variable {H : Type} {enc : TypeId × Value → H} {P : Program}
theorem post_of_below {f:Func} {s:ChangeSpec} {apart fresh handsOn again:Bool} {W W':World} {args:Array Value} {v:Value} {ds gs:List (DataW H)} {before pa pv:List MemPlace}
  (hW:DataW.Whole enc P f.params.toList s.vars apart W args.toList ds gs before)
  (hres: ∀(b:Nat) (sp:Nat→Bool) (hd:Bool),DataW.TrodAll enc P W' b sp hd f.resultTypes.toList (v.resultList f.resultTypes.size) (s.fn H (ds++gs)).results [])
  (hargs: ∀sp:Nat→Bool,(∀p∈before,sp p.block=true)→DataW.TrodAll enc P W' 0 sp true f.params.toList args.toList (s.fn H (ds++gs)).args pa)
  (hvars: ∀sp:Nat→Bool,(∀p∈before,sp p.block=true)→DataW.TrodVars enc P W' sp s.vars (s.fn H (ds++gs)).vars pv)
  (hps:before=pa++pv) (hb:Below W.heap.size W W')
  (hok: ∀(j:Nat) (t:TypeId) (r:Value),f.resultTypes[j]? =some t→(v.resultList f.resultTypes.size)[j]? =some r→Value.okWide P W' .any 0 t r):
  s.post enc P f apart fresh handsOn again W args v W':=by
 have hlt: ∀p∈before,p.block<W.heap.size:=fun p hp=>hW.lt p hp
 have hold: ∀p∈before,(fun b=>decide (b<W.heap.size)) p.block=true:=fun p hp=>by simpa using hlt p hp
 refine ⟨ds,gs,before,[],pa,pv,hW,hres _ _ _,hargs _ hold,hvars _ hold,World.keptBut_mono (fun p hp=>⟨hp,?_⟩) (hb.frame (· ∈before)),fun _=> ?_⟩
 ·rw [hps,List.mem_append] at hp
  exact Or.inr hp
 ·obtain ⟨_,_,_,_,_,hz,hn⟩:=hW
  refine ⟨hok,_,_,([]++pa)++pv,⟨[]++pa,pv,trodAll_append (hargs _ (fun _ _=>rfl)) (hres _ _ _),hvars _ (fun _ _=>rfl),rfl,?_,?_⟩,?_⟩
  ·intro b off hp
   have hin:MemPlace.cell b off∈before:=by rw [hps];simpa using hp
   rw [hb.frozen (hlt _ hin)]
   exact hz b off hin
  ·intro ha
   have:=hn ha
   rw [hps] at this
   simpa using this
  ·intro p hp _
   rw [hps]
   simpa using hp
end
theorem size64:Nat.beq (Try.prog.cellsOf 64) ([.i .i64,.i .i64,.i .u8]:List Cl).length=true:=by kernel_rfl
theorem flat64:flat Try.prog 4 64=some [.i .i64,.i .i64,.i .u8]:=by kernel_rfl
theorem size59:Nat.beq (Try.prog.cellsOf 59) ([.i .u8,.i .u8,.i .u8]:List Cl).length=true:=by kernel_rfl
theorem flat59:flat Try.prog 4 59=some [.i .u8,.i .u8,.i .u8]:=by kernel_rfl
theorem agg64:Ev.isAgg Try.prog 64=true:=by kernel_rfl
theorem lifted (os:Os) (started:os.Started) (H:Type) (enc:TypeId×Value→H):
  ReturnsInHanded {} Try.checked os 7 .any (Rows.worldTellsSpec.pre6 enc Try.prog Try.f7 Rows.worldTellsRow.domain false) (Rows.worldTellsSpec.post enc Try.prog Try.f7 false true false false):=by
 refine returnsInHanded_of_change (C:=Try.checked) own started (by kernel_rfl) Try.func7
  (ChangeSpec.witness6 (enc:=enc) (C:=Try.checked) false ⟨#[],#[.slice none 0 0,.slice none 0 0,.agg #[.int .i64 0,.int .i64 0,.int .u8 0]],[]⟩ 8 (by kernel_rfl) (by kernel_rfl) (by kernel_rfl) (by kernel_rfl)) ?_
 intro W base args ds gs before hval0 hW hcnd _
 have hval: ∀(j:Nat) t v,Try.f7.params[j]? =some t→args[j]? =some v→Value.okWide Try.prog W .any base t v:=hval0
 have hW':=hW
 obtain ⟨p,q,hA0,hV,rfl,hfz,hnd⟩:=hW
 have hA:DataW.TrodAll enc Try.prog W 0 (fun _=>true) true Try.f7.params.toList args.toList ds p:=hA0
 rw [Try.params7] at hA hval
 obtain ⟨v0,vs0,d0,ds0,p0,q0,hargs,rfl,rfl,h0,r0⟩:=trodAll_cons hA
 obtain ⟨v1,vs1,d1,ds1,p1,q1,rfl,rfl,rfl,h1,r1⟩:=trodAll_cons r0
 obtain ⟨v2,vs2,d2,ds2,p2,q2,rfl,rfl,rfl,h2,r2⟩:=trodAll_cons r1
 obtain ⟨rfl,rfl,rfl⟩:=trodAll_nil r2
 obtain rfl:args= #[v0,v1,v2]:=by cases args;simp_all
 obtain ⟨rfl,rfl⟩:=trodVars_none hV
 obtain ⟨X0,R0⟩:=open_rows (cl:=[.i .i64,.i .i64,.i .u8]) Try.underlying61 flat64 size64 rfl (hval 0 61 v0 rfl rfl) h0
 obtain ⟨X1,R1⟩:=open_rows (cl:=[.i .u8,.i .u8,.i .u8]) Try.underlying57 flat59 size59 rfl (hval 1 57 v1 rfl rfl) h1
 obtain ⟨l2,i2,rfl,rfl⟩:=open_agg flat64 agg64 (hval 2 64 v2 rfl rfl) h2
 clear hA0 hval0
 simp only [List.append_nil] at hW'
 refine (walk W v0 X0 R0.row (wc.open_cap (z:=3) Try.underlying61 (by kernel_rfl) (by decide) (hval 0 61 v0 rfl rfl) h0) v1 X1 R1.row l2 i2).mono fun e W' ⟨he,hg⟩=> ?_
 subst he
 exact ⟨_,rfl,post_of_below (pa:=p0++(p1++([]++([])))) (pv:=[]) hW' (fun _ _ _=>(trodAll_cons_mk (shut_bool Try.underlying4 _) trodAll_mk0)) (fun sp hsp=>(trodAll_cons_mk (R0.again W' hg sp (fun z hz=>hsp z (by simp [hz]))) (trodAll_cons_mk (R1.again W' hg sp (fun z hz=>hsp z (by simp [hz]))) (trodAll_cons_mk (shut_flat flat64 h2) trodAll_mk0)))) (fun _ _=>rfl) (by simp)
  hg (ok_one (by kernel_rfl) rfl (okWide_bool_mk Try.underlying4 _))⟩
theorem over:Rows.worldTellsRow.holds Try.pinned (OpenSpec.ofChange Rows.worldTellsSpec):=
 OpenClaim.holds_of_wide 7 Try.f7 rfl rfl rfl rfl rfl rfl rfl ⟨rfl,rfl,rfl,rfl,rfl⟩ rfl rfl rfl rfl rfl (by kernel_rfl) Try.func7 (by kernel_rfl)
  (of_decide_eq_true (by kernel_rfl)) (by unfold Func.isWrapper;first|(rw [if_pos (by decide+kernel)];kernel_rfl)|(rw [if_neg (by decide+kernel)];exact ⟨rfl,rfl⟩))
  (fun os started H enc _=>lifted os started H enc)
theorem proved:Rows.WorldTellsSaid:=
 over
#print axioms proved
end Go.Proofs.Ytapfkgenachpgaa.worldTells
