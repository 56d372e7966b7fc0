/-
 WorldSets is true: the script, Set and what comes by their contracts; two loops by steps.
 No conditions.
-/
import Derived.Test.YtapfkgenachpgaaRows
import Derived.WalkKit
import Derived.ProofKit
import Derived.OpenShut
import Derived.Below
import Derived.ChangeSame
import Derived.Test.YtapfkgenachpgaaWs4
import Derived.Test.YtapfkgenachpgaaEv8
namespace Go.Proofs.Ytapfkgenachpgaa.worldSets
open Go.ChangeShapes Go.WideShapes Go.ChangeAt Go.RowKit
set_option linter.unusedVariables false
section Walk
open Go.Ev Go.Wpl Go.Wt Go.Proofs.Ytapfkgenachpgaa.wc
theorem own : ownKnob Try.prog.godebug = none := by kernel_rfl
theorem ovl : Ev.OvlOk Try.prog 92 := ⟨61, 4, 64, 3, by kernel_rfl, fun w => by kernel_rfl, fun args w => run_callFunc_extern (f := 92) Try.func92 (by kernel_rfl) (by kernel_rfl) (by kernel_rfl) (by kernel_rfl) args w⟩
def ingI : Ev.Ing := { m := 0, G := [], T := .e, insf := some (54, 92) }
theorem hooksI (F : List Ev.Fact) : Ev.Hooks Try.prog (Ev.cxOf ingI F) :=
 ⟨fun f args v h => by simp only [ingI, Ev.cxOf, Ev.noHook, reduceCtorEq] at h, fun f args hp v hp' h => by simp only [ingI, Ev.cxOf, Ev.noMh, reduceCtorEq] at h, fun f k h => by simp only [ingI, Ev.cxOf, Option.some.injEq, Prod.mk.injEq] at h; obtain ⟨_, rfl⟩ := h; exact ovl, fun k b h => by simp only [ingI, Ev.cxOf, List.not_mem_nil] at h⟩
theorem works_run : isTrue ((evD Try.prog (cxOf ingI) true 1000 40).1 [] 23 [] ⟨[], []⟩) = true := by kernel_rfl
theorem works_contract : FnOk Try.prog 23 [] [.one .b] (fun _ => [1]) := fun l hl w => closed_hook ⟨rfl, rfl, rfl, rfl, rfl, rfl⟩ (hm := wc.mixed) (hh := hooksI) (h := works_run) (w := w)
def w8Tru : List Ent := [⟨23, [], [.one .b], 0⟩]
theorem w8_tru : ∀ e, e ∈ w8Tru → FnOk Try.prog e.f e.ins [.one .b] (fun _ => [1]) := by
 intro e he
 obtain rfl := List.mem_singleton.1 he
 exact works_contract
theorem tru_val {X : Ing} (hX : X.hook = trueHook w8Tru) (F : List Fact) (f : FuncId) (args : List AVal) (v : AVal) (h : (cxOf X F).hook f args = some v) (hp : Hp) : CallP Try.prog (cxOf X F) f args hp (.val v) hp := by
 replace h : X.hook (symS (baseOf X F)) (kdX X) f args = some v := h
 rw [hX] at h
 exact true_at w8_tru F f args v h hp
set_option maxRecDepth 100000 in
def ws6AG : List SDef := [.sop (.fs 230) [.symi .i64 4, .syms 5],
 .fn 231 .i64 [.symi .i64 4, .syms 5],
 .fnb 202 [.syms 6],
 .bin .rem (.symi .u16 3) (.int .u16 700),
 .conv .i64 (.symi .u16 9),
 .bin .add (.int .i64 1) (.symi .i64 10),
 .bin .rem (.symi .u8 1) (.int .u8 3),
 .conv .i64 (.symi .u8 12),
 .fnb 205 [.symi .i64 11, .symi .i64 13, .symi .u8 2],
 .fn 253 .i64 [.syms 6, .symi .i64 11, .symi .i64 13, .symi .u8 2],
 .sop (.fs 252) [.syms 6, .symi .i64 11, .symi .i64 13, .symi .u8 2],
 .fnb 202 [.syms 16],
 .fn 200 .i64 [.syms 16],
 .fn 201 .i64 [.syms 16],
 .bin .neq (.symi .i64 19) (.int .i64 0),
 .fn 253 .i64 [.syms 16, .symi .i64 11, .symi .i64 13, .symi .u8 2],
 .sop (.fs 252) [.syms 16, .symi .i64 11, .symi .i64 13, .symi .u8 2],
 .fnb 206 [.syms 22, .syms 16]]
set_option maxRecDepth 100000 in
def ws6AT : LT := .n (.n (.n (.n (.n (.e) 44613969 17 (.fnb 202 [.syms 16]) (.e)) 52282367 16 (.sop (.fs 252) [.syms 6, .symi .i64 11, .symi .i64 13, .symi .u8 2]) (.e)) 62396064 14 (.fnb 205 [.symi .i64 11, .symi .i64 13, .symi .u8 2]) (.n (.e) 97103178 21 (.fn 253 .i64 [.syms 16, .symi .i64 11, .symi .i64 13, .symi .u8 2]) (.e))) 101160753 12 (.bin .rem (.symi .u8 1) (.int .u8 3)) (.n (.n (.n (.e) 101856018 23 (.fnb 206 [.syms 22, .syms 16]) (.e)) 162262213 13 (.conv .i64 (.symi .u8 12)) (.e)) 212340933 11 (.bin .add (.int .i64 1) (.symi .i64 10)) (.n (.e) 338035754 9 (.bin .rem (.symi .u16 3) (.int .u16 700)) (.e)))) 428839079 7 (.fn 231 .i64 [.symi .i64 4, .syms 5]) (.n (.n (.n (.n (.e) 648602330 22 (.sop (.fs 252) [.syms 16, .symi .i64 11, .symi .i64 13, .symi .u8 2]) (.e)) 784603914 6 (.sop (.fs 230) [.symi .i64 4, .syms 5]) (.e)) 822046933 8 (.fnb 202 [.syms 6]) (.n (.e) 845274331 20 (.bin .neq (.symi .i64 19) (.int .i64 0)) (.e))) 927003113 10 (.conv .i64 (.symi .u16 9)) (.n (.n (.e) 934538362 15 (.fn 253 .i64 [.syms 6, .symi .i64 11, .symi .i64 13, .symi .u8 2]) (.e)) 1022349874 18 (.fn 200 .i64 [.syms 16]) (.n (.e) 1022349917 19 (.fn 201 .i64 [.syms 16]) (.e))))
set_option maxRecDepth 100000 in
def ws6AW : Sw := .node 8 (.node 14 (.node 17 (.node 20 (.dead) (.node 23 (.run (.leaf .normal w6S1 [(1, 0), (2, 0), (3, 0)] [(1, .symi .i64 7), (6, .symi .i64 15), (7, .int .i64 1048576), (8, .int .i64 0), (0, .syms 6), (1, .symi .i64 7), (2, .symi .i64 11), (3, .symi .i64 13), (4, .symi .u8 2), (5, .syms 16), (6, .symi .i64 15)] [])) (.dead))) (.dead)) (.dead)) (.dead)
def ws6AKd : KdT := .n (.n (.n (.n (.n .e (some .i64) .e) (some .i64) (.n .e none .e)) (some .u16) (.n (.n .e (some .i64) .e) (some .i64) .e)) (some .u8) (.n (.n (.n .e none .e) (some .u16) .e) none (.n (.n .e (some .i64) .e) (some .i64) .e))) (some .u8) (.n (.n (.n (.n .e none .e) none .e) (some .i64) (.n (.n .e none .e) (some .u8) .e)) (some .u8) (.n (.n (.n .e (some .i64) .e) (some .i64) .e) none (.n (.n .e none .e) none .e)))
def ws6AY : Ing := { m := 6, ins := w6K, G := ws6AG, T := ws6AT, tab := wTab, rows := [⟨.symi .i64 4, []⟩], lsts := wL, kb := 24, kt := ws6AKd, hook := trueHook w8Tru }
noncomputable def ws6AX (Y : Fz) : Ing := { m := 6, ins := w6K, G := ws6AG, T := ws6AT, tab := wTab, rows := [⟨.symi .i64 4, []⟩], lsts := wL, kb := 24, kt := ws6AKd, hook := trueHook w8Tru, mh := orMh (symMfx (kdX ws6AY) w6X [sf24]) (symMf (kdX ws6AY) [sf25, sf26, sf27]), inv := Inv24 Y 4 5 }
theorem ws6A_lt : okLT 6 ws6AG ws6AT = true := by kernel_rfl
theorem ws6A_ok : okG ws6AG 6 = true := by kernel_rfl
theorem ws6A_hooks {W : World} {v : Value} {Y : Fz} (hY : RowV W d3 v Y) (F : List Fact) : Hooks Try.prog (cxOf (ws6AX Y) F) where
 val := fun f args v h hp => tru_val (X := ws6AX Y) rfl F f args v h hp
 mem := fun f args hp v hp' h => by
  replace h : (orMh (symMfx (kdX ws6AY) w6X [sf24]) (symMf (kdX ws6AY) [sf25, sf26, sf27])) (symS (baseOf (ws6AX Y) F)) f args hp = some (v, hp') := h
  unfold orMh at h
  split at h
  ·rename_i r hr
   cases h
   exact mem_symFx (X := ws6AX Y) (tbl := [sf24]) (ys := w6X) (inv := Inv24 Y 0 1) (fun e he => by
    obtain rfl := List.mem_singleton.1 he
    exact c24 hY) ws6A_lt rfl (fun e he σ τ hx hxs hv => by
    obtain rfl := List.mem_singleton.1 he
    have h : [AVal.int .i64 (τ.ival 0), .str (τ.sval 1)] = [AVal.int .i64 (σ.ival 4), .str (σ.sval 5)] := hxs
    simp only [List.cons.injEq, AVal.int.injEq, AVal.str.injEq, true_and, and_true] at h
    obtain ⟨h1, h2, h3, S, s1, s2⟩ := hv
    exact ⟨by rw [hx]; exact h1, by rw [h.1]; exact h2, ⟨h3, S, by rw [← s1]; show AVal.str _ = AVal.str _; rw [h.2], s2⟩⟩) F f args hp v hp' hr
  ·exact mem_symF (X := ws6AX Y) (tbl := [sf25, sf26, sf27]) (inv := fun _ => True) (fun e he => by
    simp only [List.mem_cons, List.not_mem_nil, or_false] at he
    rcases he with rfl | rfl | rfl
    ·exact c25
    ·exact c26
    ·exact c27) ws6A_lt rfl (fun _ _ _ _ => trivial) F f args hp v hp' h
 ovl := fun f k h => by simp only [ws6AX, cxOf, reduceCtorEq] at h
 atm := fun k b h => by simp only [ws6AX, cxOf, List.not_mem_nil] at h
theorem ws6A_seg {W : World} {v : Value} {Y : Fz} (hY : RowV W d3 v Y) : SegOkI Try.prog wTab 160 ((flatC (bodyOf Try.f6)).take 16) w6S0 (ws6AX Y) ws6AW where
 lt := ws6A_lt
 ok := ws6A_ok
 hook := ws6A_hooks hY
 n0 := rfl
 id := by kernel_rfl
 reck := by kernel_rfl
 tab := rfl
 cuts := rfl
 kt := by kernel_rfl
set_option maxRecDepth 100000 in
def ws6BG : List SDef := [.bin .lss (.symi .i64 8) (.symi .i64 1),
 .bin .leq (.int .i64 0) (.symi .i64 8),
 .sop (.cell [.some .i64, .some .i64, .some .u8] 0) [.syms 0, .symi .i64 8],
 .sop (.cell [.some .i64, .some .i64, .some .u8] 1) [.syms 0, .symi .i64 8],
 .sop (.cell [.some .i64, .some .i64, .some .u8] 2) [.syms 0, .symi .i64 8],
 .bin .eql (.symi .i64 12) (.symi .i64 3),
 .bin .gtr (.symi .i64 11) (.symi .i64 2),
 .low [.symi .i64 7, .symi .i64 11],
 .ite (.symb 15) (.symi .i64 16) (.symi .i64 7),
 .ite (.symb 14) (.symi .i64 17) (.symi .i64 7),
 .ite (.symb 14) (.symb 15) (.bool false),
 .bin .add (.symi .i64 8) (.int .i64 1)]
set_option maxRecDepth 100000 in
def ws6BT : LT := .n (.n (.n (.n (.e) 77644597 9 (.bin .lss (.symi .i64 8) (.symi .i64 1)) (.e)) 94611124 14 (.bin .eql (.symi .i64 12) (.symi .i64 3)) (.n (.e) 157371927 17 (.ite (.symb 15) (.symi .i64 16) (.symi .i64 7)) (.e))) 167367787 18 (.ite (.symb 14) (.symi .i64 17) (.symi .i64 7)) (.n (.n (.e) 599375197 10 (.bin .leq (.int .i64 0) (.symi .i64 8)) (.e)) 614112757 11 (.sop (.cell [.some .i64, .some .i64, .some .u8] 0) [.syms 0, .symi .i64 8]) (.e))) 614112759 12 (.sop (.cell [.some .i64, .some .i64, .some .u8] 1) [.syms 0, .symi .i64 8]) (.n (.n (.n (.e) 614112761 13 (.sop (.cell [.some .i64, .some .i64, .some .u8] 2) [.syms 0, .symi .i64 8]) (.e)) 723999098 15 (.bin .gtr (.symi .i64 11) (.symi .i64 2)) (.e)) 729002718 16 (.low [.symi .i64 7, .symi .i64 11]) (.n (.n (.e) 808062776 20 (.bin .add (.symi .i64 8) (.int .i64 1)) (.e)) 959917136 19 (.ite (.symb 14) (.symb 15) (.bool false)) (.e)))
set_option maxRecDepth 100000 in
def ws6BW : Sw := .node 10 (.run (.node 9 (.leaf .normal w6S1 [(0, 0), (1, 0), (2, 0)] [(1, .symi .i64 1), (6, .symi .i64 6), (7, .symi .i64 18), (8, .symi .i64 20), (0, .syms 0), (1, .symi .i64 1), (2, .symi .i64 2), (3, .symi .i64 3), (4, .symi .u8 4), (5, .syms 5), (6, .symi .i64 6)] []) (.leaf (.exit 0) w6S1 [(0, 0), (1, 0), (2, 0)] [(1, .symi .i64 1), (6, .symi .i64 6), (7, .symi .i64 7), (8, .symi .i64 8), (0, .syms 0), (1, .symi .i64 1), (2, .symi .i64 2), (3, .symi .i64 3), (4, .symi .u8 4), (5, .syms 5), (6, .symi .i64 6)] []))) (.dead)
def ws6BKd : KdT := .n (.n (.n (.n (.n .e none .e) none .e) (some .i64) (.n (.n .e none .e) (some .i64) .e)) (some .i64) (.n (.n (.n .e none .e) none .e) none (.n .e (some .u8) .e))) none (.n (.n (.n (.n .e none .e) (some .i64) .e) (some .u8) (.n (.n .e (some .i64) .e) (some .i64) .e)) (some .i64) (.n (.n (.n .e none .e) none .e) (some .i64) (.n .e none .e)))
def ws6BX : Ing := { m := 9, ins := w6K1, G := ws6BG, T := ws6BT, tab := wTab, lsts := wL, kb := 21, kt := ws6BKd }
theorem ws6B_lt : okLT 9 ws6BG ws6BT = true := by kernel_rfl
theorem ws6B_ok : okG ws6BG 9 = true := by kernel_rfl
theorem ws6B_seg : SegOk Try.prog wTab 160 ([loopOf (bodyOf Try.f6)]) w6S1 ws6BX ws6BW where
 lt := ws6B_lt
 ok := ws6B_ok
 hook := fun F => no_hooks rfl F
 n0 := rfl
 id := by kernel_rfl
 reck := by kernel_rfl
 tab := rfl
 cuts := rfl
 kt := by kernel_rfl
set_option maxRecDepth 100000 in
def ws6CG : List SDef := []
set_option maxRecDepth 100000 in
def ws6CT : LT := .e
set_option maxRecDepth 100000 in
def ws6CW : Sw := .run (.leaf .normal w6S2 [(0, 0), (1, 0), (2, 0)] [(1, .symi .i64 1), (6, .symi .i64 6), (7, .symi .i64 7), (8, .int .i64 1), (0, .syms 0), (1, .symi .i64 1), (2, .symi .i64 2), (3, .symi .i64 3), (4, .symi .u8 4), (5, .syms 5), (6, .symi .i64 6)] [])
def ws6CKd : KdT := .n (.n (.n (.n .e none .e) (some .i64) .e) (some .i64) (.n .e none .e)) none (.n (.n (.n .e (some .i64) .e) (some .u8) .e) (some .i64) (.n .e (some .i64) .e))
def ws6CX : Ing := { m := 9, ins := w6K1, G := ws6CG, T := ws6CT, tab := wTab, lsts := wL, kb := 9, kt := ws6CKd }
theorem ws6C_lt : okLT 9 ws6CG ws6CT = true := by kernel_rfl
theorem ws6C_ok : okG ws6CG 9 = true := by kernel_rfl
theorem ws6C_seg : SegOk Try.prog wTab 160 (((flatC (bodyOf Try.f6)).drop 17).take 1) w6S1 ws6CX ws6CW where
 lt := ws6C_lt
 ok := ws6C_ok
 hook := fun F => no_hooks rfl F
 n0 := rfl
 id := by kernel_rfl
 reck := by kernel_rfl
 tab := rfl
 cuts := rfl
 kt := by kernel_rfl
set_option maxRecDepth 100000 in
def ws6DG : List SDef := [.bin .lss (.symi .i64 8) (.int .i64 720),
 .fn 210 .u8 [.syms 0, .symi .i64 8],
 .fn 211 .u8 [.syms 0, .symi .i64 8],
 .fnb 212 [.syms 0, .symi .i64 8],
 .fn 213 .u8 [.syms 0, .symi .i64 8],
 .fn 210 .u8 [.syms 5, .symi .i64 8],
 .fn 211 .u8 [.syms 5, .symi .i64 8],
 .fnb 212 [.syms 5, .symi .i64 8],
 .fn 213 .u8 [.syms 5, .symi .i64 8],
 .bin .eql (.symi .i64 3) (.int .i64 1),
 .bin .eql (.symi .i64 8) (.symi .i64 2),
 .bin .eql (.symi .i64 3) (.int .i64 0),
 .bin .geq (.symi .i64 8) (.symi .i64 2),
 .bin .lss (.symi .i64 8) (.symi .i64 7),
 .bin .eql (.symi .i64 3) (.int .i64 2),
 .ite (.symb 22) (.symi .u8 4) (.symi .u8 10),
 .ite (.symb 21) (.symb 22) (.bool false),
 .ite (.symb 21) (.symi .u8 24) (.symi .u8 10),
 .ite (.symb 22) (.symi .u8 4) (.symi .u8 11),
 .ite (.symb 21) (.symi .u8 27) (.symi .u8 11),
 .ite (.symb 23) (.symb 25) (.bool false),
 .ite (.symb 23) (.symb 21) (.bool false),
 .ite (.symb 23) (.symi .u8 28) (.symi .u8 11),
 .ite (.symb 20) (.symb 25) (.bool false),
 .ite (.symb 20) (.symb 21) (.bool false),
 .ite (.symb 20) (.symi .u8 26) (.symi .u8 10),
 .ite (.symb 20) (.symi .u8 11) (.symi .u8 31),
 .ite (.symb 19) (.symi .u8 10) (.symi .u8 34),
 .ite (.symb 19) (.symi .u8 11) (.symi .u8 35),
 .ite (.symb 19) (.bool true) (.symb 12),
 .ite (.symb 19) (.symi .u8 4) (.symi .u8 13),
 .ite (.symb 18) (.symb 19) (.bool false),
 .ite (.symb 18) (.symi .u8 36) (.symi .u8 34),
 .ite (.symb 18) (.symi .u8 37) (.symi .u8 35),
 .ite (.symb 18) (.symb 38) (.symb 12),
 .ite (.symb 18) (.symi .u8 39) (.symi .u8 13),
 .all [(.symi .u8 14, .symi .u8 41), (.symi .u8 15, .symi .u8 42), (.symb 16, .symb 43), (.symi .u8 17, .symi .u8 44)],
 .bin .add (.symi .i64 8) (.int .i64 1)]
set_option maxRecDepth 100000 in
def ws6DT : LT := .n (.n (.n (.n (.n (.n (.e) 13180697 28 (.ite (.symb 21) (.symi .u8 27) (.symi .u8 11)) (.e)) 62768347 32 (.ite (.symb 20) (.symb 25) (.bool false)) (.e)) 115214070 41 (.ite (.symb 18) (.symi .u8 36) (.symi .u8 34)) (.n (.e) 158183669 38 (.ite (.symb 19) (.bool true) (.symb 12)) (.e))) 275991246 10 (.fn 210 .u8 [.syms 0, .symi .i64 8]) (.n (.n (.n (.e) 275991289 11 (.fn 211 .u8 [.syms 0, .symi .i64 8]) (.e)) 275991375 13 (.fn 213 .u8 [.syms 0, .symi .i64 8]) (.e)) 301546009 16 (.fnb 212 [.syms 5, .symi .i64 8]) (.n (.e) 303011303 20 (.bin .eql (.symi .i64 3) (.int .i64 0)) (.e)))) 303061338 18 (.bin .eql (.symi .i64 3) (.int .i64 1)) (.n (.n (.n (.n (.e) 303111373 23 (.bin .eql (.symi .i64 3) (.int .i64 2)) (.e)) 312655899 43 (.ite (.symb 18) (.symb 38) (.symb 12)) (.e)) 387767982 45 (.all [(.symi .u8 14, .symi .u8 41), (.symi .u8 15, .symi .u8 42), (.symb 16, .symb 43), (.symi .u8 17, .symi .u8 44)]) (.n (.e) 415214970 42 (.ite (.symb 18) (.symi .u8 37) (.symi .u8 35)) (.e))) 420998161 19 (.bin .eql (.symi .i64 8) (.symi .i64 2)) (.n (.n (.n (.e) 420998196 21 (.bin .geq (.symi .i64 8) (.symi .i64 2)) (.e)) 440190318 31 (.ite (.symb 23) (.symi .u8 28) (.symi .u8 11)) (.e)) 479782108 29 (.ite (.symb 23) (.symb 25) (.bool false)) (.n (.e) 488920730 26 (.ite (.symb 21) (.symi .u8 24) (.symi .u8 10)) (.e))))) 510178018 35 (.ite (.symb 20) (.symi .u8 11) (.symi .u8 31)) (.n (.n (.n (.n (.n (.e) 540490506 33 (.ite (.symb 20) (.symb 21) (.bool false)) (.e)) 612431379 44 (.ite (.symb 18) (.symi .u8 39) (.symi .u8 13)) (.e)) 647917037 34 (.ite (.symb 20) (.symi .u8 26) (.symi .u8 10)) (.n (.e) 675174343 36 (.ite (.symb 19) (.symi .u8 10) (.symi .u8 34)) (.e))) 690262491 12 (.fnb 212 [.syms 0, .symi .i64 8]) (.n (.n (.n (.e) 808062776 46 (.bin .add (.symi .i64 8) (.int .i64 1)) (.e)) 828500010 25 (.ite (.symb 21) (.symb 22) (.bool false)) (.e)) 844038032 9 (.bin .lss (.symi .i64 8) (.int .i64 720)) (.n (.e) 869141858 24 (.ite (.symb 22) (.symi .u8 4) (.symi .u8 10)) (.e)))) 905129456 39 (.ite (.symb 19) (.symi .u8 4) (.symi .u8 13)) (.n (.n (.n (.n (.e) 931015481 14 (.fn 210 .u8 [.syms 5, .symi .i64 8]) (.e)) 931015524 15 (.fn 211 .u8 [.syms 5, .symi .i64 8]) (.e)) 931015610 17 (.fn 213 .u8 [.syms 5, .symi .i64 8]) (.n (.e) 957504267 30 (.ite (.symb 23) (.symb 21) (.bool false)) (.e))) 975175243 37 (.ite (.symb 19) (.symi .u8 11) (.symi .u8 35)) (.n (.n (.e) 1020142311 27 (.ite (.symb 22) (.symi .u8 4) (.symi .u8 11)) (.e)) 1038213325 40 (.ite (.symb 18) (.symb 19) (.bool false)) (.n (.e) 1064024238 22 (.bin .lss (.symi .i64 8) (.symi .i64 7)) (.e)))))
set_option maxRecDepth 100000 in
def ws6DW : Sw := .node 45 (.run (.node 9 (.leaf .normal w6S2 [(0, 0), (1, 0), (2, 0)] [(1, .symi .i64 1), (6, .symi .i64 6), (7, .symi .i64 7), (8, .symi .i64 46), (0, .syms 0), (1, .symi .i64 1), (2, .symi .i64 2), (3, .symi .i64 3), (4, .symi .u8 4), (5, .syms 5), (6, .symi .i64 6)] []) (.leaf (.exit 2) w6S2 [(0, 0), (1, 0), (2, 0)] [(1, .symi .i64 1), (6, .symi .i64 6), (7, .symi .i64 7), (8, .symi .i64 8), (0, .syms 0), (1, .symi .i64 1), (2, .symi .i64 2), (3, .symi .i64 3), (4, .symi .u8 4), (5, .syms 5), (6, .symi .i64 6)] []))) (.dead)
def ws6DKd : KdT := .n (.n (.n (.n (.n (.n .e (some .u8) .e) (some .u8) .e) none (.n (.n .e (some .u8) .e) none .e)) (some .i64) (.n (.n (.n .e (some .u8) .e) none .e) (some .u8) (.n (.n .e none .e) (some .u8) .e))) (some .i64) (.n (.n (.n (.n .e none .e) (some .u8) .e) none (.n (.n .e (some .u8) .e) none .e)) none (.n (.n (.n .e (some .u8) .e) none .e) (some .u8) (.n (.n .e none .e) none .e)))) none (.n (.n (.n (.n (.n .e none .e) none .e) (some .i64) (.n (.n .e none .e) (some .u8) .e)) (some .u8) (.n (.n (.n .e (some .u8) .e) none .e) none (.n (.n .e (some .u8) .e) (some .u8) .e))) (some .i64) (.n (.n (.n (.n .e (some .u8) .e) none .e) (some .u8) (.n (.n .e (some .u8) .e) (some .u8) .e)) (some .i64) (.n (.n (.n .e none .e) none .e) (some .u8) (.n (.n .e (some .i64) .e) none .e))))
def ws6DY : Ing := { m := 9, ins := w6K1, G := ws6DG, T := ws6DT, tab := wTab, lsts := wL, kb := 47, kt := ws6DKd }
def ws6DX : Ing := { m := 9, ins := w6K1, G := ws6DG, T := ws6DT, tab := wTab, lsts := wL, kb := 47, kt := ws6DKd, mh := symMf (kdX ws6DY) [sf28] }
theorem ws6D_lt : okLT 9 ws6DG ws6DT = true := by kernel_rfl
theorem ws6D_ok : okG ws6DG 9 = true := by kernel_rfl
theorem ws6D_hooks (F : List Fact) : Hooks Try.prog (cxOf ws6DX F) where
 val := fun f args v h => by simp only [ws6DX, cxOf, noHook, reduceCtorEq] at h
 mem := fun f args hp v hp' h => by
  replace h : (symMf (kdX ws6DY) [sf28]) (symS (baseOf ws6DX F)) f args hp = some (v, hp') := h
  exact mem_symF (X := ws6DX) (tbl := [sf28]) (inv := fun _ => True) (fun e he => by
   simp only [List.mem_cons, List.not_mem_nil, or_false] at he
   rcases he with rfl
   ·exact c28) ws6D_lt rfl (fun _ _ _ _ => trivial) F f args hp v hp' h
 ovl := fun f k h => by simp only [ws6DX, cxOf, reduceCtorEq] at h
 atm := fun k b h => by simp only [ws6DX, cxOf, List.not_mem_nil] at h
theorem ws6D_seg : SegOk Try.prog wTab 160 ([loopAt 18 (bodyOf Try.f6)]) w6S2 ws6DX ws6DW where
 lt := ws6D_lt
 ok := ws6D_ok
 hook := ws6D_hooks
 n0 := rfl
 id := by kernel_rfl
 reck := by kernel_rfl
 tab := rfl
 cuts := rfl
 kt := by kernel_rfl
set_option maxRecDepth 100000 in
def ws6EG : List SDef := []
set_option maxRecDepth 100000 in
def ws6ET : LT := .e
set_option maxRecDepth 100000 in
def ws6EW : Sw := .run (.leaf .ret w6SE [] [] [])
def ws6EKd : KdT := .n (.n (.n (.n .e none .e) (some .i64) .e) (some .i64) (.n .e none .e)) none (.n (.n (.n .e (some .i64) .e) (some .u8) .e) (some .i64) (.n .e (some .i64) .e))
def ws6EX : Ing := { m := 9, ins := w6K1, G := ws6EG, T := ws6ET, tab := wTab, lsts := wL, kb := 9, kt := ws6EKd }
theorem ws6E_lt : okLT 9 ws6EG ws6ET = true := by kernel_rfl
theorem ws6E_ok : okG ws6EG 9 = true := by kernel_rfl
theorem ws6E_seg : SegOk Try.prog wTab 160 ((flatC (bodyOf Try.f6)).drop 19) w6S2 ws6EX ws6EW where
 lt := ws6E_lt
 ok := ws6E_ok
 hook := fun F => no_hooks rfl F
 n0 := rfl
 id := by kernel_rfl
 reck := by kernel_rfl
 tab := rfl
 cuts := rfl
 kt := by kernel_rfl
structure J6 (s : List E3) (U : ByteArray) (x : E3) (n i : Int) (σ : Sig) : Prop where
 s0 : σ.sval 0 = Wt.encL s
 n1 : σ.ival 1 = s.length
 x2 : σ.ival 2 = x.t
 x3 : σ.ival 3 = x.k
 x4 : σ.ival 4 = x.v
 s5 : σ.sval 5 = U
 n6 : σ.ival 6 = (set s x).length
 n7 : σ.ival 7 = n
 i8 : σ.ival 8 = i
theorem J6.agree {s : List E3} {U : ByteArray} {x : E3} {n i : Int} {σ τ : Sig} (ag : Agree 9 σ τ) (h : J6 s U x n i σ) : J6 s U x n i τ := by
 have e := fun j (hj : j < 9) => (ag.val j hj).1
 have es := fun j (hj : j < 9) => (ag.val j hj).2.2
 exact ⟨by rw [← es 0 (by decide)]; exact h.s0, by rw [← e 1 (by decide)]; exact h.n1, by rw [← e 2 (by decide)]; exact h.x2, by rw [← e 3 (by decide)]; exact h.x3, by rw [← e 4 (by decide)]; exact h.x4, by rw [← es 5 (by decide)]; exact h.s5, by rw [← e 6 (by decide)]; exact h.n6, by rw [← e 7 (by decide)]; exact h.n7, by rw [← e 8 (by decide)]; exact h.i8⟩
theorem J6.to {s : List E3} {U : ByteArray} {x : E3} {n i n' i' : Int} {τ : Sig} {a b : Nat} (h : J6 s U x n i τ) (ha : τ.ival a = n') (hb : τ.ival b = i') :
  J6 s U x n' i' (asgS τ ([(1, .symi .i64 1), (6, .symi .i64 6), (7, .symi .i64 a), (8, .symi .i64 b), (0, .syms 0), (1, .symi .i64 1), (2, .symi .i64 2), (3, .symi .i64 3), (4, .symi .u8 4), (5, .syms 5), (6, .symi .i64 6)] ++ [])) := ⟨h.s0, h.n1, h.x2, h.x3, h.x4, h.s5, h.n6, ha, hb⟩
theorem J6.one {s : List E3} {U : ByteArray} {x : E3} {n i : Int} {τ : Sig} (h : J6 s U x n i τ) :
  J6 s U x n 1 (asgS τ ([(1, .symi .i64 1), (6, .symi .i64 6), (7, .symi .i64 7), (8, .int .i64 1), (0, .syms 0), (1, .symi .i64 1), (2, .symi .i64 2), (3, .symi .i64 3), (4, .symi .u8 4), (5, .syms 5), (6, .symi .i64 6)] ++ [])) := ⟨h.s0, h.n1, h.x2, h.x3, h.x4, h.s5, h.n6, h.n7, rfl⟩
theorem J6.zero {s : List E3} {U : ByteArray} {x : E3} {τ : Sig} (h6 : τ.sval 6 = Wt.encL s) (h7 : τ.ival 7 = s.length) (h11 : τ.ival 11 = x.t) (h13 : τ.ival 13 = x.k) (h2 : τ.ival 2 = x.v) (h16 : τ.sval 16 = U) (h15 : τ.ival 15 = (set s x).length) :
  J6 s U x 1048576 0 (asgS τ ([(1, .symi .i64 7), (6, .symi .i64 15), (7, .int .i64 1048576), (8, .int .i64 0), (0, .syms 6), (1, .symi .i64 7), (2, .symi .i64 11), (3, .symi .i64 13), (4, .symi .u8 2), (5, .syms 16), (6, .symi .i64 15)] ++ [])) := ⟨h6, h7, h11, h13, h2, h16, h15, rfl, rfl⟩
theorem now_byte {l : List E3} (h : Script l) (hl : ∀ x, x ∈ l → okV x) {c : Int} (hc : 1 ≤ c) : IntKind.u8.wrap (at_ l c).pins = (at_ l c).pins ∧ IntKind.u8.wrap (at_ l c).mask = (at_ l c).mask ∧ IntKind.u8.wrap (at_ l c).byte = (at_ l c).byte := by
 have ho : LvOk (lv l c) := LvOk.zero.fold (fun x hx => hl x (List.mem_filter.1 hx).1)
 rw [at_script h hc]
 refine ⟨ho.v0, ho.v2, ?_⟩
 show IntKind.u8.wrap (if (lv l c).came = c then (lv l c).v1 else 0) = if (lv l c).came = c then (lv l c).v1 else 0
 split
 ·exact ho.v1
 ·rfl
theorem eqAll4 {a1 b1 a2 b2 a4 b4 : Int} {a3 b3 r : Bool} (h : r = ((a1 == b1) && ((a2 == b2) && ((a3 == b3) && ((a4 == b4) && true))))) : r = true ↔ Now.mk a1 a2 a3 a4 = Now.mk b1 b2 b3 b4 := by
 rw [h]
 simp only [Bool.and_eq_true, beq_iff_eq, Now.mk.injEq, and_true]
set_option maxHeartbeats 2000000 in
theorem round2 {s : List E3} {U : ByteArray} {x : E3} {c : Int} (hScr : Script s) (hs : ∀ y, y ∈ s → okV y) (hxi : okIn x) (hx : okV x) (hU : U.data.toList.length = (set s x).length * 17) (hUl : lstE U (set s x).length = set s x) (h1 : 1 ≤ c) (h2 : c ≤ 720) {τ : Sig} (e : Eqs τ 9 ws6DG) (ht : τ.tab = wTab) (hj : J6 s U x (next s x) c τ) :
  τ.bval 9 = decide (c < 720) ∧ τ.bval 45 = true ∧ τ.ival 46 = c + 1 := by
 have i8 := hj.i8
 have b9 : τ.bval 9 = decide (τ.ival 8 < 720) := eqB (e.at 0 _ rfl rfl) rfl
 have i10 : τ.ival 10 = IntKind.u8.wrap (τ.tab 210 [encB (τ.sval 0), τ.ival 8]) := eqFn (e.at 1 _ rfl rfl)
 have i11 : τ.ival 11 = IntKind.u8.wrap (τ.tab 211 [encB (τ.sval 0), τ.ival 8]) := eqFn (e.at 2 _ rfl rfl)
 have b12 : τ.bval 12 = !(τ.tab 212 [encB (τ.sval 0), τ.ival 8] == 0) := eqFnb (e.at 3 _ rfl rfl)
 have i13 : τ.ival 13 = IntKind.u8.wrap (τ.tab 213 [encB (τ.sval 0), τ.ival 8]) := eqFn (e.at 4 _ rfl rfl)
 have i14 : τ.ival 14 = IntKind.u8.wrap (τ.tab 210 [encB (τ.sval 5), τ.ival 8]) := eqFn (e.at 5 _ rfl rfl)
 have i15 : τ.ival 15 = IntKind.u8.wrap (τ.tab 211 [encB (τ.sval 5), τ.ival 8]) := eqFn (e.at 6 _ rfl rfl)
 have b16 : τ.bval 16 = !(τ.tab 212 [encB (τ.sval 5), τ.ival 8] == 0) := eqFnb (e.at 7 _ rfl rfl)
 have i17 : τ.ival 17 = IntKind.u8.wrap (τ.tab 213 [encB (τ.sval 5), τ.ival 8]) := eqFn (e.at 8 _ rfl rfl)
 have e0 : ∀ C : ByteArray, wTab 210 [encB C, c] = (at_ (decL (encB C)) c).pins := fun _ => rfl
 have e1 : ∀ C : ByteArray, wTab 211 [encB C, c] = (at_ (decL (encB C)) c).mask := fun _ => rfl
 have e2 : ∀ C : ByteArray, wTab 212 [encB C, c] = b01 (at_ (decL (encB C)) c).isb := fun _ => rfl
 have e3 : ∀ C : ByteArray, wTab 213 [encB C, c] = (at_ (decL (encB C)) c).byte := fun _ => rfl
 obtain ⟨w1, w2, w3⟩ := now_byte hScr hs h1
 obtain ⟨u1, u2, u3⟩ := now_byte (set_script hScr hxi) (set_okV hs hx) h1
 have hds : decL (encB (Wt.encL s)) = s := decL_enc hs
 have hdu : decL (encB U) = set s x := by rw [decL_of hU, hUl]
 rw [ht, hj.s0, i8, e0, hds, w1] at i10
 rw [ht, hj.s0, i8, e1, hds, w2] at i11
 rw [ht, hj.s0, i8, e2, b01_ne, hds] at b12
 rw [ht, hj.s0, i8, e3, hds, w3] at i13
 rw [ht, hj.s5, i8, e0, hdu, u1] at i14
 rw [ht, hj.s5, i8, e1, hdu, u2] at i15
 rw [ht, hj.s5, i8, e2, b01_ne, hdu] at b16
 rw [ht, hj.s5, i8, e3, hdu, u3] at i17
 have b18 : τ.bval 18 = (τ.ival 3 == 1) := eqB (e.at 9 _ rfl rfl) rfl
 have b19 : τ.bval 19 = (τ.ival 8 == τ.ival 2) := eqB (e.at 10 _ rfl rfl) rfl
 have b20 : τ.bval 20 = (τ.ival 3 == 0) := eqB (e.at 11 _ rfl rfl) rfl
 have b21 : τ.bval 21 = decide (τ.ival 8 ≥ τ.ival 2) := eqB (e.at 12 _ rfl rfl) rfl
 have b22 : τ.bval 22 = decide (τ.ival 8 < τ.ival 7) := eqB (e.at 13 _ rfl rfl) rfl
 have b23 : τ.bval 23 = (τ.ival 3 == 2) := eqB (e.at 14 _ rfl rfl) rfl
 have i24 : τ.ival 24 = (bif τ.bval 22 then τ.ival 4 else τ.ival 10) := eqIteI (e.at 15 _ rfl rfl) rfl rfl rfl
 have i26 : τ.ival 26 = (bif τ.bval 21 then τ.ival 24 else τ.ival 10) := eqIteI (e.at 17 _ rfl rfl) rfl rfl rfl
 have i27 : τ.ival 27 = (bif τ.bval 22 then τ.ival 4 else τ.ival 11) := eqIteI (e.at 18 _ rfl rfl) rfl rfl rfl
 have i28 : τ.ival 28 = (bif τ.bval 21 then τ.ival 27 else τ.ival 11) := eqIteI (e.at 19 _ rfl rfl) rfl rfl rfl
 have i31 : τ.ival 31 = (bif τ.bval 23 then τ.ival 28 else τ.ival 11) := eqIteI (e.at 22 _ rfl rfl) rfl rfl rfl
 have i34 : τ.ival 34 = (bif τ.bval 20 then τ.ival 26 else τ.ival 10) := eqIteI (e.at 25 _ rfl rfl) rfl rfl rfl
 have i35 : τ.ival 35 = (bif τ.bval 20 then τ.ival 11 else τ.ival 31) := eqIteI (e.at 26 _ rfl rfl) rfl rfl rfl
 have i36 : τ.ival 36 = (bif τ.bval 19 then τ.ival 10 else τ.ival 34) := eqIteI (e.at 27 _ rfl rfl) rfl rfl rfl
 have i37 : τ.ival 37 = (bif τ.bval 19 then τ.ival 11 else τ.ival 35) := eqIteI (e.at 28 _ rfl rfl) rfl rfl rfl
 have b38 : τ.bval 38 = (bif τ.bval 19 then true else τ.bval 12) := eqIteB (e.at 29 _ rfl rfl) rfl rfl rfl
 have i39 : τ.ival 39 = (bif τ.bval 19 then τ.ival 4 else τ.ival 13) := eqIteI (e.at 30 _ rfl rfl) rfl rfl rfl
 have i41 : τ.ival 41 = (bif τ.bval 18 then τ.ival 36 else τ.ival 34) := eqIteI (e.at 32 _ rfl rfl) rfl rfl rfl
 have i42 : τ.ival 42 = (bif τ.bval 18 then τ.ival 37 else τ.ival 35) := eqIteI (e.at 33 _ rfl rfl) rfl rfl rfl
 have b43 : τ.bval 43 = (bif τ.bval 18 then τ.bval 38 else τ.bval 12) := eqIteB (e.at 34 _ rfl rfl) rfl rfl rfl
 have i44 : τ.ival 44 = (bif τ.bval 18 then τ.ival 39 else τ.ival 13) := eqIteI (e.at 35 _ rfl rfl) rfl rfl rfl
 have b45 : τ.bval 45 = ((τ.ival 14 == τ.ival 41) && ((τ.ival 15 == τ.ival 42) && ((τ.bval 16 == τ.bval 43) && ((τ.ival 17 == τ.ival 44) && true)))) := eqB (e.at 36 _ rfl rfl) rfl
 have i46 : τ.ival 46 = IntKind.i64.wrap (τ.ival 8 + 1) := eqI (e.at 37 _ rfl rfl) rfl
 rw [wr_i64] at i46
 refine ⟨by rw [b9, i8], (eqAll4 b45).2 ?_, by omega⟩
 have hw := at_set hScr hxi h1 (show c < 1048576 by omega)
 have hl : Now.mk (τ.ival 14) (τ.ival 15) (τ.bval 16) (τ.ival 17) = at_ (set s x) c := by rw [i14, i15, b16, i17]
 rw [hl, hw, i41, i42, b43, i44, i36, i37, b38, i39, i34, i35, i31, i28, i27, i26, i24, b18, b19, b20, b21, b22, b23, i10, i11, b12, i13, i8, hj.x2, hj.x3, hj.x4, hj.n7]
 have hk : x.k = 0 ∨ x.k = 1 ∨ x.k = 2 := by obtain ⟨_, _, _, _⟩ := hxi; omega
 unfold want
 generalize at_ s c = a
 obtain ⟨a0, a1, a2, a3⟩ := a
 rcases hk with hk | hk | hk
 ·by_cases g1 : x.t ≤ c <;> by_cases g2 : c < next s x <;> simp [hk, g1, g2]
 ·by_cases g1 : c = x.t
  ·simp [hk, g1]
  ·have g3 : (c == x.t) = false := beq_eq_false_iff_ne.2 g1
   simp [hk, g1, g3]
 ·by_cases g1 : x.t ≤ c <;> by_cases g2 : c < next s x <;> simp [hk, g1, g2]
abbrev WZ (W : World) := bodyPost Try.prog Try.f6 (fun e W' => e = .returned (encR [.one .b] [1]) ∧ Below W.heap.size W W')
set_option maxHeartbeats 2000000 in
theorem walk (W : World) (v0 : Value) (X : Fz) (hX : RowV W [.i .u8, .i .u8, .i .u8] v0 X) (l1 : List Int) (i1 : InR [.i .u8, .i .u8, .i .u8] l1) (n2 : Int) (i2 : InR [.i .u16] [n2]) : Calls Try.prog 6 #[v0, .agg (encCs [.i .u8, .i .u8, .i .u8] l1).toArray, encC (.i .u16) n2] W fun e W' => e = .returned (.bool true) ∧ Below W.heap.size W W' := by
 obtain ⟨a0, a1, a2, rfl, w0, w1, w2⟩ : ∃ a0 a1 a2 : Int, l1 = [a0, a1, a2] ∧ IntKind.u8.wrap a0 = a0 ∧ IntKind.u8.wrap a1 = a1 ∧ IntKind.u8.wrap a2 = a2 := by
  match l1, i1 with
  | [a, b, c], ⟨h1, h2, h3, _⟩ => exact ⟨a, b, c, rfl, h1, h2, h3⟩
 have w3 : IntKind.u16.wrap n2 = n2 := i2.1
 let σ0 : Sig := ⟨fun i => if i = 0 then a0 else if i = 1 then a1 else if i = 2 then a2 else if i = 3 then n2 else X.len, fun _ => false, fun i => if i = 5 then conR X X.len else .empty, wTab, ex1 X⟩
 have hXl := hX.len
 have n1b := w1
 have n2b := w2
 have n3b := w3
 rw [wr_u8] at n1b n2b
 rw [wr_u16] at n3b
 let C := conR X X.len
 let s := script (X.len : Int) C
 have hso : ScrOk (scrN C (min X.len 100)).1 (scrN C (min X.len 100)).2 (min X.len 100) := scrN_ok C _ (by omega)
 have hse : s = (scrN C (min X.len 100)).1 := script_min rfl
 have hScr : Script s := by rw [hse]; exact hso.script
 have hs : ∀ x, x ∈ s → okV x := by rw [hse]; exact scr_okV hso
 have hl : s.length ≤ 100 := by rw [hse, scrN_len]; omega
 have hsd : s = script (X.len : Int) C := rfl
 have hCd : C = conR X X.len := rfl
 clear_value s C
 obtain ⟨x, hxt, hxk, hxv⟩ : ∃ x : E3, x.t = 1 + n2 % 700 ∧ x.k = a1 % 3 ∧ x.v = a2 := ⟨⟨_, _, _⟩, rfl, rfl, rfl⟩
 have hxi : okIn x := ⟨by omega, by omega, by omega, by omega⟩
 have hx : okV x := ⟨by rw [wr_i64]; omega, by rw [wr_i64]; omega, by rw [hxv]; exact w2⟩
 have hCs : (Wt.encL s).data.toList.length = s.length * 17 := encL_len hs
 have hls : lstE (Wt.encL s) s.length = s := lstE_enc hs
 obtain ⟨hU, hUl⟩ := setS_lst (x := x) hCs hls hScr hx
 generalize hUU : Wt.setS (Wt.encL s) s x = U at hU hUl
 have hScrU := set_script hScr hxi
 have hsl : (set s x).length ≤ 1000 := by
  have h1 := List.length_filter_le (fun a => Wpl.ahead a x) s
  have h2 := List.length_filter_le (fun a => Wpl.ahead x a) s
  show (s.filter (fun a => Wpl.ahead a x) ++ x :: s.filter (fun a => Wpl.ahead x a)).length ≤ 1000
  rw [List.length_append, List.length_cons]
  exact Nat.le_trans (Nat.add_le_add h1 (Nat.add_le_add_right h2 1)) (by omega)
 obtain ⟨hV, hVl⟩ := setS_lst (x := x) hU hUl hScrU hx
 rw [set_set] at hV hVl
 have hlast : Stage Try.prog wTab 160 W (WZ W) ((flatC (bodyOf Try.f6)).drop 19) w6S2 9 w6K1 (fun _ => True) := by
  refine Stage.last mixed ws6E_seg ⟨rfl, rfl⟩ (fun _ _ _ _ => trivial) (fun _ _ => rows_nil) (fun τ e ht hi _ => ?_)
  refine segsPw_segs ?_
  exact endZ_res (outs := [.one .b]) (l := [1]) (vs := [.bool true]) (by kernel_rfl) ⟨rfl, trivial⟩ (.inl rfl)
 have hloop2 : Stage Try.prog wTab 160 W (WZ W) (.block 2 (.loop (loopAt 18 (bodyOf Try.f6))) :: (flatC (bodyOf Try.f6)).drop 19) w6S2 9 w6K1 (fun σ => ∃ c : Int, J6 s U x (next s x) c σ ∧ 1 ≤ c ∧ c ≤ 720) := by
  refine Stage.loop (μ := fun σ => (720 - σ.ival 8).toNat) mixed ws6D_seg ⟨rfl, rfl⟩ (fun σ τ ag h => let ⟨c, h1, h2⟩ := h; ⟨c, h1.agree ag, h2⟩) (fun σ τ ag => by rw [(ag.val 8 (by decide)).1]) (fun τ h => rows_nil) hlast (fun τ e ht hi hj => ?_)
  obtain ⟨c, hj, c1, c2⟩ := hj
  obtain ⟨b9, b45, i46⟩ := round2 hScr hs hxi hx hU hUl c1 c2 e ht hj
  have i8 := hj.i8
  refine segsPw_segs ?_
  refine ⟨fun _ => ⟨fun f9 => ?_, fun f9 => .inr (.inl ⟨rfl, rfl, insOk_kt (X := ws6DX) e hi (by kernel_rfl) (by kernel_rfl), trivial, tabS ht⟩)⟩, fun f => (by rw [b45] at f; cases f)⟩
  rw [b9, decide_eq_true_eq] at f9
  have hst := hj.to (a := 7) (b := 46) hj.n7 i46
  refine .inl ⟨rfl, rfl, insOk_kt (X := ws6DX) e hi (by kernel_rfl) (by kernel_rfl), ⟨c + 1, hst, by omega, by omega⟩, tabS ht, ?_⟩
  show (720 - τ.ival 46).toNat < (720 - τ.ival 8).toNat
  omega
 have hmid : Stage Try.prog wTab 160 W (WZ W) ((flatC (bodyOf Try.f6)).drop 17) w6S1 9 w6K1 (fun σ => ∃ i, J6 s U x (next s x) i σ) := by
  rw [show (flatC (bodyOf Try.f6)).drop 17 = ((flatC (bodyOf Try.f6)).drop 17).take 1 ++ (.block 2 (.loop (loopAt 18 (bodyOf Try.f6))) :: (flatC (bodyOf Try.f6)).drop 19) from rfl]
  refine Stage.seg mixed ws6C_seg ⟨rfl, rfl⟩ (fun σ τ ag h => let ⟨i, h1⟩ := h; ⟨i, h1.agree ag⟩) (fun τ h => rows_nil) hloop2 (fun τ e ht hi hj => ?_)
  obtain ⟨i, hj⟩ := hj
  refine segsPw_segs ?_
  exact .inl ⟨rfl, rfl, insOk_kt (X := ws6CX) e hi (by kernel_rfl) (by kernel_rfl), ⟨1, hj.one, by omega, by omega⟩, tabS ht⟩
 have hloop1 : Stage Try.prog wTab 160 W (WZ W) (.block (idOf (bodyOf Try.f6)) (.loop (loopOf (bodyOf Try.f6))) :: (flatC (bodyOf Try.f6)).drop 17) w6S1 9 w6K1 (fun σ => ∃ j : Nat, J6 s U x (nextN s x j) j σ ∧ j ≤ s.length) := by
  refine Stage.loop (μ := fun σ => (s.length - σ.ival 8).toNat) mixed ws6B_seg ⟨rfl, rfl⟩ (fun σ τ ag h => let ⟨c, h1, h2⟩ := h; ⟨c, h1.agree ag, h2⟩) (fun σ τ ag => by rw [(ag.val 8 (by decide)).1]) (fun τ h => rows_nil) hmid (fun τ e ht hi hj => ?_)
  obtain ⟨j, hj, hjl⟩ := hj
  have i8 := hj.i8
  have i1' := hj.n1
  have b9 : τ.bval 9 = decide (τ.ival 8 < τ.ival 1) := eqB (e.at 0 _ rfl rfl) rfl
  have b10 : τ.bval 10 = decide ((0 : Int) ≤ τ.ival 8) := eqB (e.at 1 _ rfl rfl) rfl
  have c11 := eqCell (m := j) (e.at 2 _ rfl rfl) (show den τ (.symi .i64 8) = _ by rw [← i8]; rfl)
  have c12 := eqCell (m := j) (e.at 3 _ rfl rfl) (show den τ (.symi .i64 8) = _ by rw [← i8]; rfl)
  rw [hj.s0] at c11 c12
  have v11 : τ.ival 11 = (rowE (Wt.encL s) j).t := by simp only [rowE, c11, iOf]
  have v12 : τ.ival 12 = (rowE (Wt.encL s) j).k := by simp only [rowE, c12, iOf]
  have b14 : τ.bval 14 = (τ.ival 12 == τ.ival 3) := eqB (e.at 5 _ rfl rfl) rfl
  have b15 : τ.bval 15 = decide (τ.ival 11 > τ.ival 2) := eqB (e.at 6 _ rfl rfl) rfl
  have i16 : τ.ival 16 = (if τ.ival 11 < τ.ival 7 then τ.ival 11 else τ.ival 7) := eqI (e.at 7 _ rfl rfl) rfl
  have i17 : τ.ival 17 = (bif τ.bval 15 then τ.ival 16 else τ.ival 7) := eqIteI (e.at 8 _ rfl rfl) rfl rfl rfl
  have i18 : τ.ival 18 = (bif τ.bval 14 then τ.ival 17 else τ.ival 7) := eqIteI (e.at 9 _ rfl rfl) rfl rfl rfl
  have i20 : τ.ival 20 = IntKind.i64.wrap (τ.ival 8 + 1) := eqI (e.at 11 _ rfl rfl) rfl
  rw [wr_i64] at i20
  refine segsPw_segs ?_
  refine ⟨fun _ => ⟨fun f9 => ?_, fun f9 => .inr (.inl ⟨rfl, rfl, insOk_kt (X := ws6BX) e hi (by kernel_rfl) (by kernel_rfl), ?_, tabS ht⟩)⟩, fun f => ?_⟩
  ·rw [b9, decide_eq_true_eq] at f9
   have hjlt : j < s.length := by omega
   have hg : s[j]? = some (rowE (Wt.encL s) j) := by
    have := lstE_get (C := Wt.encL s) hjlt
    rw [hls] at this; exact this
   have hn := nextN_succ (x := x) hg
   have hst : J6 s U x (nextN s x (j + 1)) ((j + 1 : Nat) : Int) _ := hj.to (a := 18) (b := 20) (by
    rw [hn, i18, i17, i16, b14, b15, v11, v12, hj.x2, hj.x3, hj.n7]
    by_cases g1 : (rowE (Wt.encL s) j).k = x.k
    ·by_cases g2 : x.t < (rowE (Wt.encL s) j).t
     ·simp only [g1, g2, and_self, if_true, beq_self_eq_true, cond_true, gt_iff_lt, decide_true]
      split <;> omega
     ·simp [g1, g2]
    ·have g3 : ((rowE (Wt.encL s) j).k == x.k) = false := beq_eq_false_iff_ne.2 g1
     simp only [g1, g3, false_and, if_false, cond_false]) (by omega)
   refine .inl ⟨rfl, rfl, insOk_kt (X := ws6BX) e hi (by kernel_rfl) (by kernel_rfl), ⟨j + 1, hst, by omega⟩, tabS ht, ?_⟩
   show (s.length - τ.ival 20).toNat < (s.length - τ.ival 8).toNat
   omega
  ·rw [b9, decide_eq_false_iff_not] at f9
   have : j = s.length := by omega
   subst this
   rw [nextN_all] at hj
   exact ⟨_, hj.to hj.n7 i8⟩
  ·rw [b10, decide_eq_false_iff_not] at f
   exfalso; omega
 have hC3 : okV x := hx
 have hmain : Stage Try.prog wTab 160 W (WZ W) (flatC (bodyOf Try.f6)) w6S0 6 w6K (fun σ => σ.ext = ex1 X ∧ σ.ival 4 = X.len ∧ σ.sval 5 = C ∧ σ.ival 1 = a1 ∧ σ.ival 2 = a2 ∧ σ.ival 3 = n2) := by
  rw [show flatC (bodyOf Try.f6) = (flatC (bodyOf Try.f6)).take 16 ++ (.block (idOf (bodyOf Try.f6)) (.loop (loopOf (bodyOf Try.f6))) :: (flatC (bodyOf Try.f6)).drop 17) from rfl]
  refine Stage.segI (q2 := 9) (ins2 := w6K1) (S2 := w6S1) (J2 := fun σ => ∃ j : Nat, J6 s U x (nextN s x j) j σ ∧ j ≤ s.length) mixed (ws6A_seg hX) ⟨rfl, rfl⟩ (fun σ τ ag h => ⟨by rw [← ag.ext]; exact h.1, by rw [← (ag.val 4 (by decide)).1]; exact h.2.1, by rw [← (ag.val 5 (by decide)).2.2]; exact h.2.2.1, by rw [← (ag.val 1 (by decide)).1]; exact h.2.2.2.1, by rw [← (ag.val 2 (by decide)).1]; exact h.2.2.2.2.1, by rw [← (ag.val 3 (by decide)).1]; exact h.2.2.2.2.2⟩)
   (fun τ h => rows_len (k := 4) (X := X) h.1 h.2.1) (fun τ h => ⟨h.1, h.2.1, conR_str hX (h.2.2.1.trans hCd)⟩) hloop1 (fun τ e ht hi hj => ?_)
  obtain ⟨hxx, j4, j5, j1, j2, j3⟩ := hj
  have s6 : τ.sval 6 = Wt.encL s := by
   have h : τ.sval 6 = decS (τ.tab 230 [τ.ival 4, encB (τ.sval 5)]) := eqFs (e.at 0 _ rfl rfl)
   have e0 : wTab 230 [(X.len : Int), encB C] = encB (Wt.encL (script (X.len : Int) (decS (encB C)))) := rfl
   rw [h, ht, j4, j5, e0, decS_enc, decS_enc, ← hsd]
  have i7 : τ.ival 7 = s.length := by
   have h : τ.ival 7 = IntKind.i64.wrap (τ.tab 231 [τ.ival 4, encB (τ.sval 5)]) := eqFn (e.at 1 _ rfl rfl)
   have e0 : wTab 231 [(X.len : Int), encB C] = ((script (X.len : Int) (decS (encB C))).length : Int) := rfl
   rw [ht, j4, j5, e0, decS_enc, ← hsd, wr_i64] at h
   omega
  have b8 : τ.bval 8 = true := (eqFnb (e.at 2 _ rfl rfl)).trans (bval202 (i := 6) ht s6 hCs ⟨by rw [hls]; exact hScr, by omega⟩)
  have i9 : τ.ival 9 = n2 % 700 := by
   have h : τ.ival 9 = (τ.ival 3).tmod 700 := eqI (e.at 3 _ rfl rfl) rfl
   rw [h, j3, Int.tmod_eq_emod_of_nonneg (by omega)]
  have i11 : τ.ival 11 = x.t := by
   have h : τ.ival 10 = IntKind.i64.wrap (τ.ival 9) := eqI (e.at 4 _ rfl rfl) rfl
   have h2 : τ.ival 11 = IntKind.i64.wrap (1 + τ.ival 10) := eqI (e.at 5 _ rfl rfl) rfl
   rw [wr_i64] at h h2
   omega
  have i13 : τ.ival 13 = x.k := by
   have h : τ.ival 12 = (τ.ival 1).tmod 3 := eqI (e.at 6 _ rfl rfl) rfl
   have h2 : τ.ival 13 = IntKind.i64.wrap (τ.ival 12) := eqI (e.at 7 _ rfl rfl) rfl
   rw [j1, Int.tmod_eq_emod_of_nonneg (by omega)] at h
   rw [wr_i64] at h2
   omega
  have i2' : τ.ival 2 = x.v := by rw [j2, hxv]
  have b14 : τ.bval 14 = true := by
   have h : τ.bval 14 = !(τ.tab 205 [τ.ival 11, τ.ival 13, τ.ival 2] == 0) := eqFnb (e.at 8 _ rfl rfl)
   rw [h, ht, i11, i13, i2', tab205, b01_ne, decide_eq_true_eq]
   exact hxi
  have hds : decL (encB (Wt.encL s)) = s := decL_enc hs
  have hdu : decL (encB U) = set s x := by rw [decL_of hU, hUl]
  have i15 : τ.ival 15 = (set s x).length := by
   have h : τ.ival 15 = IntKind.i64.wrap (τ.tab 253 [encB (τ.sval 6), τ.ival 11, τ.ival 13, τ.ival 2]) := eqFn (e.at 9 _ rfl rfl)
   have e0 : wTab 253 [encB (Wt.encL s), x.t, x.k, x.v] = ((set (decL (encB (Wt.encL s))) x).length : Int) := rfl
   rw [h, ht, s6, i11, i13, i2', e0, hds, wr_i64]
   omega
  have s16 : τ.sval 16 = U := by
   have h : τ.sval 16 = decS (τ.tab 252 [encB (τ.sval 6), τ.ival 11, τ.ival 13, τ.ival 2]) := eqFs (e.at 10 _ rfl rfl)
   have e0 : wTab 252 [encB (Wt.encL s), x.t, x.k, x.v] = encB (Wt.setS (decS (encB (Wt.encL s))) (decL (encB (Wt.encL s))) ⟨x.t, x.k, x.v⟩) := rfl
   rw [h, ht, s6, i11, i13, i2', e0, decS_enc, decS_enc, hds]
   exact hUU
  have b17 : τ.bval 17 = true := (eqFnb (e.at 11 _ rfl rfl)).trans (bval202 (i := 16) ht s16 hU ⟨by rw [hUl]; exact hScrU, by omega⟩)
  have i19 : τ.ival 19 = 0 := by
   have h : τ.ival 19 = IntKind.i64.wrap (τ.tab 201 [encB (τ.sval 16)]) := eqFn (e.at 13 _ rfl rfl)
   have e2 : wTab 201 [encB U] = (check (decL (encB U))).2 := rfl
   rw [h, ht, s16, e2, hdu, check_zero.2 hScrU]; rfl
  have b20 : τ.bval 20 = !(τ.ival 19 == 0) := eqB (e.at 14 _ rfl rfl) rfl
  have s22 : τ.sval 22 = Wt.setS U (set s x) x := by
   have h : τ.sval 22 = decS (τ.tab 252 [encB (τ.sval 16), τ.ival 11, τ.ival 13, τ.ival 2]) := eqFs (e.at 16 _ rfl rfl)
   have e0 : wTab 252 [encB U, x.t, x.k, x.v] = encB (Wt.setS (decS (encB U)) (decL (encB U)) ⟨x.t, x.k, x.v⟩) := rfl
   rw [h, ht, s16, i11, i13, i2', e0, decS_enc, decS_enc, hdu]
  have b23 : τ.bval 23 = true := by
   have h : τ.bval 23 = !(τ.tab 206 [encB (τ.sval 22), encB (τ.sval 16)] == 0) := eqFnb (e.at 17 _ rfl rfl)
   have e0 : ∀ A B : ByteArray, wTab 206 [encB A, encB B] = b01 (decide (decL (encB A) = decL (encB B))) := fun _ _ => rfl
   rw [h, ht, s22, s16, e0, b01_ne, hdu, decL_of hV, hVl]
   simp
  refine segsPw_segs ?_
  exact ⟨fun _ => ⟨fun _ => ⟨fun _ => ⟨fun f => (by rw [b20, i19] at f; cases f), fun _ => ⟨fun _ => .inl ⟨rfl, rfl, insOk_kt (X := ws6AX X) e hi (by kernel_rfl) (by kernel_rfl), ⟨0, .zero s6 i7 i11 i13 i2' s16 i15, Nat.zero_le _⟩, tabS ht⟩, fun f => (by rw [b23] at f; cases f)⟩⟩, fun f => (by rw [b17] at f; cases f)⟩, fun f => (by rw [b14] at f; cases f)⟩, fun f => (by rw [b8] at f; cases f)⟩
 have hv1 : VRel ⟨fun _ => none, σ0, fun _ => none⟩ (.agg [.symi .u8 0, .symi .u8 1, .symi .u8 2]) (.agg (encCs [.i .u8, .i .u8, .i .u8] [a0, a1, a2]).toArray) := by
  have he : encCs [.i .u8, .i .u8, .i .u8] [a0, a1, a2] = [.int .u8 a0, .int .u8 a1, .int .u8 a2] := by
   show [Value.int .u8 (IntKind.u8.wrap a0), .int .u8 (IntKind.u8.wrap a1), .int .u8 (IntKind.u8.wrap a2)] = _
   rw [w0, w1, w2]
  rw [he]
  exact .agg _ _ (.cons _ _ _ _ (VRel.symi (g := ⟨fun _ => none, σ0, fun _ => none⟩) .u8 0) (.cons _ _ _ _ (VRel.symi (g := ⟨fun _ => none, σ0, fun _ => none⟩) .u8 1) (.cons _ _ _ _ (VRel.symi (g := ⟨fun _ => none, σ0, fun _ => none⟩) .u8 2) .nil)))
 have hv2 : VRel ⟨fun _ => none, σ0, fun _ => none⟩ (.symi .u16 3) (encC (.i .u16) n2) := by
  have he : encC (.i .u16) n2 = .int .u16 n2 := congrArg (Value.int .u16) w3
  rw [he]
  exact VRel.symi (g := ⟨fun _ => none, σ0, fun _ => none⟩) .u16 3
 have := calls_of_stageG (σ0 := σ0) (tab := wTab) (n := 160) (q := 6) (ins := w6K) (args := [.row 0, .agg [.symi .u8 0, .symi .u8 1, .symi .u8 2], .symi .u16 3]) (args' := #[v0, .agg (encCs [.i .u8, .i .u8, .i .u8] [a0, a1, a2]).toArray, encC (.i .u16) n2]) (W := W) (R := fun e W' => e = .returned (encR [.one .b] [1]) ∧ Below W.heap.size W W') (J := fun σ => σ.ext = ex1 X ∧ σ.ival 4 = X.len ∧ σ.sval 5 = C ∧ σ.ival 1 = a1 ∧ σ.ival 2 = a2 ∧ σ.ival 3 = n2) Try.func6 rfl rfl rfl (.cons _ _ _ _ (hX.rel _ 0 rfl) (.cons _ _ _ _ hv1 (.cons _ _ _ _ hv2 .nil))) (by simp)
  (fun i Y h hlen => by
   have := ext_one (σ := σ0) rfl h
   subst this
   exact hX.ok hlen)
  (fun i k hi hk => by
   have : i = 0 ∨ i = 1 ∨ i = 2 ∨ i = 3 ∨ i = 4 ∨ i = 5 := by omega
   rcases this with rfl | rfl | rfl | rfl | rfl | rfl
   ·cases hk; exact w0
   ·cases hk; exact w1
   ·cases hk; exact w2
   ·cases hk; exact w3
   ·cases hk
    show IntKind.i64.wrap (X.len : Int) = X.len
    rw [wr_i64]; omega
   ·cases hk)
  ⟨rfl, rfl, hCd.symm, rfl, rfl, rfl⟩ hmain
 exact this
end Walk
open Go.Ev
section
variable {H : Type} {enc : TypeId × Value → H} {P : Program}
theorem post_of_below {f : Func} {s : ChangeSpec} {apart fresh handsOn again : Bool} {W W' : World} {args : Array Value} {v : Value} {ds gs : List (DataW H)} {before pa pv : List MemPlace}
  (hW : DataW.Whole enc P f.params.toList s.vars apart W args.toList ds gs before)
  (hres : ∀ (b : Nat) (sp : Nat → Bool) (hd : Bool), DataW.TrodAll enc P W' b sp hd f.resultTypes.toList (v.resultList f.resultTypes.size) (s.fn H (ds ++ gs)).results [])
  (hargs : ∀ sp : Nat → Bool, (∀ p ∈ before, sp p.block = true) → DataW.TrodAll enc P W' 0 sp true f.params.toList args.toList (s.fn H (ds ++ gs)).args pa)
  (hvars : ∀ sp : Nat → Bool, (∀ p ∈ before, sp p.block = true) → DataW.TrodVars enc P W' sp s.vars (s.fn H (ds ++ gs)).vars pv)
  (hps : before = pa ++ pv) (hb : Below W.heap.size W W')
  (hok : ∀ (j : Nat) (t : TypeId) (r : Value), f.resultTypes[j]? = some t → (v.resultList f.resultTypes.size)[j]? = some r → Value.okWide P W' .any 0 t r) :
  s.post enc P f apart fresh handsOn again W args v W' := by
 have hlt : ∀ p ∈ before, p.block < W.heap.size := fun p hp => hW.lt p hp
 have hold : ∀ p ∈ before, (fun b => decide (b < W.heap.size)) p.block = true := fun p hp => by simpa using hlt p hp
 refine ⟨ds, gs, before, [], pa, pv, hW, hres _ _ _, hargs _ hold, hvars _ hold, World.keptBut_mono (fun p hp => ⟨hp, ?_⟩) (hb.frame (· ∈ before)), fun _ => ?_⟩
 ·rw [hps, List.mem_append] at hp
  exact Or.inr hp
 ·obtain ⟨_, _, _, _, _, hz, hn⟩ := hW
  refine ⟨hok, _, _, ([] ++ pa) ++ pv, ⟨[] ++ pa, pv, trodAll_append (hargs _ (fun _ _ => rfl)) (hres _ _ _), hvars _ (fun _ _ => rfl), rfl, ?_, ?_⟩, ?_⟩
  ·intro b off hp
   have hin : MemPlace.cell b off ∈ before := by rw [hps]; simpa using hp
   rw [hb.frozen (hlt _ hin)]
   exact hz b off hin
  ·intro ha
   have := hn ha
   rw [hps] at this
   simpa using this
  ·intro p hp _
   rw [hps]
   simpa using hp
end
theorem size59 : Nat.beq (Try.prog.cellsOf 59) ([.i .u8, .i .u8, .i .u8] : List Cl).length = true := by kernel_rfl
theorem flat59 : flat Try.prog 4 59 = some [.i .u8, .i .u8, .i .u8] := by kernel_rfl
theorem agg59 : Ev.isAgg Try.prog 59 = true := by kernel_rfl
theorem agg60 : Ev.isAgg Try.prog 60 = false := by kernel_rfl
theorem flat60 : flat Try.prog 4 60 = some [.i .u16] := by kernel_rfl
set_option maxRecDepth 100000 in
theorem lifted (os : Os) (started : os.Started) (H : Type) (enc : TypeId × Value → H) :
  ReturnsInHanded {} Try.checked os 6 .any (Rows.worldSetsSpec.pre6 enc Try.prog Try.f6 Rows.worldSetsRow.domain false) (Rows.worldSetsSpec.post enc Try.prog Try.f6 false true false false) := by
 refine returnsInHanded_of_change (C := Try.checked) own started (by kernel_rfl) Try.func6
  (ChangeSpec.witness6 (enc := enc) (C := Try.checked) false ⟨#[], #[.slice none 0 0, .agg #[.int .u8 0, .int .u8 0, .int .u8 0], .int .u16 0], []⟩ 8 (by kernel_rfl) (by kernel_rfl) (by kernel_rfl) (by kernel_rfl)) ?_
 intro W base args ds gs before hval0 hW hcnd _
 have hval : ∀ (j : Nat) t v, Try.f6.params[j]? = some t → args[j]? = some v → Value.okWide Try.prog W .any base t v := hval0
 have hW' := hW
 obtain ⟨p, q, hA0, hV, rfl, hfz, hnd⟩ := hW
 have hA : DataW.TrodAll enc Try.prog W 0 (fun _ => true) true Try.f6.params.toList args.toList ds p := hA0
 rw [Try.params6] at hA hval
 obtain ⟨v0, vs0, d0, ds0, p0, q0, hargs, rfl, rfl, h0, r0⟩ := trodAll_cons hA
 obtain ⟨v1, vs1, d1, ds1, p1, q1, rfl, rfl, rfl, h1, r1⟩ := trodAll_cons r0
 obtain ⟨v2, vs2, d2, ds2, p2, q2, rfl, rfl, rfl, h2, r2⟩ := trodAll_cons r1
 obtain ⟨rfl, rfl, rfl⟩ := trodAll_nil r2
 obtain rfl : args = #[v0, v1, v2] := by cases args; simp_all
 obtain ⟨rfl, rfl⟩ := trodVars_none hV
 obtain ⟨X0, R0⟩ := open_rows (cl := [.i .u8, .i .u8, .i .u8]) Try.underlying57 flat59 size59 rfl (hval 0 57 v0 rfl rfl) h0
 obtain ⟨l1, i1, rfl, rfl⟩ := open_agg flat59 agg59 (hval 1 59 v1 rfl rfl) h1
 obtain ⟨n2, i2, rfl, rfl⟩ := open_one flat60 agg60 (hval 2 60 v2 rfl rfl) h2
 clear hA0 hval0
 simp only [List.append_nil] at hW'
 refine (walk W v0 X0 R0.row l1 i1 n2 i2).mono fun e W' ⟨he, hg⟩ => ?_
 subst he
 exact ⟨_, rfl, post_of_below (pa := p0 ++ ([] ++ ([] ++ ([])))) (pv := []) hW' (fun _ _ _ => (trodAll_cons_mk (shut_bool Try.underlying4 _) trodAll_mk0)) (fun sp hsp => (trodAll_cons_mk (R0.again W' hg sp (fun z hz => hsp z (by simp [hz]))) (trodAll_cons_mk (shut_flat flat59 h1) (trodAll_cons_mk (shut_flat flat60 h2) trodAll_mk0)))) (fun _ _ => rfl) (by simp)
  hg (ok_one (by kernel_rfl) rfl (okWide_bool_mk Try.underlying4 _))⟩
theorem over : Rows.worldSetsRow.holds Try.pinned (OpenSpec.ofChange Rows.worldSetsSpec) :=
 OpenClaim.holds_of_wide 6 Try.f6 rfl rfl rfl rfl rfl rfl rfl ⟨rfl, rfl, rfl, rfl, rfl⟩ rfl rfl rfl rfl rfl (by kernel_rfl) Try.func6 (by kernel_rfl)
  (of_decide_eq_true (by kernel_rfl)) (by unfold Func.isWrapper; first | (rw [if_pos (by decide +kernel)]; kernel_rfl) | (rw [if_neg (by decide +kernel)]; exact ⟨rfl, rfl⟩))
  (fun os started H enc _ => lifted os started H enc)
theorem proved : Rows.WorldSetsSaid :=
 over
#print axioms proved
end Go.Proofs.Ytapfkgenachpgaa.worldSets
