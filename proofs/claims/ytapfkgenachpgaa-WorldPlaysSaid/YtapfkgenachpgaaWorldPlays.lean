/-
  WorldPlays is true: the script, the players and what has come by their contracts; the loop over the cycles by steps.
  No conditions.
-/
import Derived.Test.YtapfkgenachpgaaRows
import Derived.WalkKit
import Derived.ProofKit
import Derived.OpenShut
import Derived.Below
import Derived.ChangeSame
import Derived.Test.YtapfkgenachpgaaWi
import Derived.Test.YtapfkgenachpgaaEv9
namespace Go.Proofs.Ytapfkgenachpgaa.worldPlays
open Go.ChangeShapes Go.WideShapes Go.ChangeAt Go.RowKit
set_option linter.unusedVariables false
section Walk
open Go.Ev Go.Wpl Go.Wt Go.Proofs.Ytapfkgenachpgaa.wc

theorem own : ownKnob Try.prog.godebug = none := by kernel_rfl
theorem ovl : Ev.OvlOk Try.prog 92 := ⟨61, 4, 64, 3, by kernel_rfl, fun w => by kernel_rfl, fun args w => run_callFunc_extern (f := 92) Try.func92 (by kernel_rfl) (by kernel_rfl) (by kernel_rfl) (by kernel_rfl) args w⟩
def ingI : Ev.Ing := { m := 0, G := [], T := .e, insf := some (54, 92) }
theorem hooksI (F : List Ev.Fact) : Ev.Hooks Try.prog (Ev.cxOf ingI F) :=
  ⟨fun f args v h => by simp only [ingI, Ev.cxOf, Ev.noHook, reduceCtorEq] at h, fun f args hp v hp' h => by simp only [ingI, Ev.cxOf, Ev.noMh, reduceCtorEq] at h, fun f k h => by simp only [ingI, Ev.cxOf, Option.some.injEq, Prod.mk.injEq] at h; obtain ⟨_, rfl⟩ := h; exact ovl, fun k b h => by simp only [ingI, Ev.cxOf, List.not_mem_nil] at h⟩
theorem works_run : isTrue ((evD Try.prog (cxOf ingI) true 1000 40).1 [] 23 [] ⟨[], []⟩) = true := by kernel_rfl
theorem works_contract : FnOk Try.prog 23 [] [.one .b] (fun _ => [1]) := fun l hl w => closed_hook ⟨rfl, rfl, rfl, rfl, rfl, rfl⟩ (hm := wc.mixed) (hh := hooksI) (h := works_run) (w := w)
def w8Tru : List Ent := [⟨23, [], [.one .b], 0⟩]
theorem w8_tru : ∀ e, e ∈ w8Tru → FnOk Try.prog e.f e.ins [.one .b] (fun _ => [1]) := by
  intro e he
  obtain rfl := List.mem_singleton.1 he
  exact works_contract
theorem tru_val {X : Ing} (hX : X.hook = trueHook w8Tru) (F : List Fact) (f : FuncId) (args : List AVal) (v : AVal) (h : (cxOf X F).hook f args = some v) (hp : Hp) : CallP Try.prog (cxOf X F) f args hp (.val v) hp := by
  replace h : X.hook (symS (baseOf X F)) (kdX X) f args = some v := h
  rw [hX] at h
  exact true_at w8_tru F f args v h hp

set_option maxRecDepth 100000 in
def wq8AG : List SDef := [.sop (.fs 230) [.symi .i64 1, .syms 2],
  .fn 231 .i64 [.symi .i64 1, .syms 2],
  .fnb 202 [.syms 3],
  .bin .rem (.symi .u16 0) (.int .u16 400),
  .conv .i64 (.symi .u16 6),
  .sop (.fs 220) [.syms 3, .int .i64 0, .symi .i64 4, .symi .i64 7],
  .fn 221 .i64 [.syms 3, .int .i64 0, .symi .i64 4, .symi .i64 7],
  .fnb 202 [.syms 8]]
set_option maxRecDepth 100000 in
def wq8AT : LT := .n (.n (.n (.n (.e) 20024345 6 (.bin .rem (.symi .u16 0) (.int .u16 400)) (.e)) 22315244 10 (.fnb 202 [.syms 8]) (.e)) 411031726 5 (.fnb 202 [.syms 3]) (.n (.e) 564253805 8 (.sop (.fs 220) [.syms 3, .int .i64 0, .symi .i64 4, .symi .i64 7]) (.e))) 618002186 7 (.conv .i64 (.symi .u16 6)) (.n (.n (.e) 737289053 4 (.fn 231 .i64 [.symi .i64 1, .syms 2]) (.e)) 796082716 9 (.fn 221 .i64 [.syms 3, .int .i64 0, .symi .i64 4, .symi .i64 7]) (.n (.e) 858155169 3 (.sop (.fs 230) [.symi .i64 1, .syms 2]) (.e)))
set_option maxRecDepth 100000 in
def wq8AW : Sw := .node 5 (.node 10 (.run (.leaf .normal w8S1 [(0, 0), (1, 0), (2, 0), (4, 0), (5, 0)] [(2, .symi .i64 4), (0, .symi .i64 7), (5, .int .i64 1), (1, .syms 3), (2, .symi .i64 4), (6, .int .u8 0), (7, .int .u8 0), (8, .int .u8 0), (9, .int .i64 0), (10, .int .i64 0), (11, .symi .i64 4), (18, .int .i64 0), (1, .syms 3), (2, .symi .i64 4), (12, .int .u8 0), (13, .int .u8 0), (14, .int .u8 0), (15, .int .i64 0), (16, .int .i64 0), (17, .symi .i64 9), (18, .int .i64 0), (3, .syms 8), (4, .symi .i64 9)] [])) (.dead)) (.dead)
def wq8AKd : KdT := .n (.n (.n (.n .e (some .i64) .e) none .e) (some .i64) (.n (.n .e (some .i64) .e) none .e)) (some .u16) (.n (.n (.n .e none .e) (some .i64) .e) none (.n (.n .e none .e) (some .u16) .e))
def wq8AY : Ing := { m := 3, ins := w8K, G := wq8AG, T := wq8AT, tab := wTab, rows := [⟨.symi .i64 1, []⟩], lsts := wL, kb := 11, kt := wq8AKd, hook := trueHook w8Tru }
noncomputable def wq8AX (Y : Fz) : Ing := { m := 3, ins := w8K, G := wq8AG, T := wq8AT, tab := wTab, rows := [⟨.symi .i64 1, []⟩], lsts := wL, kb := 11, kt := wq8AKd, hook := trueHook w8Tru, mh := orMh (symMfx (kdX wq8AY) w24X [sf24]) (symMf (kdX wq8AY) [sf30, sf35]), inv := Inv24 Y 1 2 }
theorem wq8A_lt : okLT 3 wq8AG wq8AT = true := by kernel_rfl
theorem wq8A_ok : okG wq8AG 3 = true := by kernel_rfl
theorem wq8A_hooks {W : World} {v : Value} {Y : Fz} (hY : RowV W d3 v Y) (F : List Fact) : Hooks Try.prog (cxOf (wq8AX Y) F) where
  val := fun f args v h hp => tru_val (X := wq8AX Y) rfl F f args v h hp
  mem := fun f args hp v hp' h => by
    replace h : (orMh (symMfx (kdX wq8AY) w24X [sf24]) (symMf (kdX wq8AY) [sf30, sf35])) (symS (baseOf (wq8AX Y) F)) f args hp = some (v, hp') := h
    unfold orMh at h
    split at h
    · rename_i r hr
      cases h
      exact mem_symFx (X := wq8AX Y) (tbl := [sf24]) (ys := w24X) (inv := Inv24 Y 0 1) (fun e he => by
        obtain rfl := List.mem_singleton.1 he
        exact c24 hY) wq8A_lt rfl (fun e he σ τ hx hxs hv => by
        obtain rfl := List.mem_singleton.1 he
        have h : [AVal.int .i64 (τ.ival 0), .str (τ.sval 1)] = [AVal.int .i64 (σ.ival 1), .str (σ.sval 2)] := hxs
        simp only [List.cons.injEq, AVal.int.injEq, AVal.str.injEq, true_and, and_true] at h
        obtain ⟨h1, h2, h3, S, s1, s2⟩ := hv
        exact ⟨by rw [hx]; exact h1, by rw [h.1]; exact h2, ⟨h3, S, by rw [← s1]; show AVal.str _ = AVal.str _; rw [h.2], s2⟩⟩) F f args hp v hp' hr
    · exact mem_symF (X := wq8AX Y) (tbl := [sf30, sf35]) (inv := fun _ => True) (fun e he => by
        simp only [List.mem_cons, List.not_mem_nil, or_false] at he
        rcases he with rfl | rfl
        · exact c30
        · exact c35) wq8A_lt rfl (fun _ _ _ _ => trivial) F f args hp v hp' h
  ovl := fun f k h => by simp only [wq8AX, cxOf, reduceCtorEq] at h
  atm := fun k b h => by simp only [wq8AX, cxOf, List.not_mem_nil] at h
theorem wq8A_seg {W : World} {v : Value} {Y : Fz} (hY : RowV W d3 v Y) : SegOkI Try.prog wTab 74 ((flatC (bodyOf Try.f8)).take 9) w8S0 (wq8AX Y) wq8AW where
  lt := wq8A_lt
  ok := wq8A_ok
  hook := wq8A_hooks hY
  n0 := rfl
  id := by kernel_rfl
  reck := by kernel_rfl
  tab := rfl
  cuts := rfl
  kt := by kernel_rfl

set_option maxRecDepth 100000 in
def wq8BG : List SDef := [.fnb 203 [.syms 1, .symi .i64 10, .symi .i64 11],
  .fnb 203 [.syms 3, .symi .i64 16, .symi .i64 17],
  .bin .lss (.symi .i64 5) (.int .i64 450),
  .bin .add (.symi .i64 18) (.int .i64 1),
  .fn 240 .u8 [.syms 1, .symi .i64 10, .symi .i64 11, .symi .i64 22, .symi .u8 6, .symi .u8 7, .symi .u8 8, .symi .i64 9],
  .fn 241 .u8 [.syms 1, .symi .i64 10, .symi .i64 11, .symi .i64 22, .symi .u8 6, .symi .u8 7, .symi .u8 8, .symi .i64 9],
  .fn 242 .u8 [.syms 1, .symi .i64 10, .symi .i64 11, .symi .i64 22, .symi .u8 6, .symi .u8 7, .symi .u8 8, .symi .i64 9],
  .fn 243 .i64 [.syms 1, .symi .i64 10, .symi .i64 11, .symi .i64 22, .symi .u8 6, .symi .u8 7, .symi .u8 8, .symi .i64 9],
  .fn 244 .i64 [.syms 1, .symi .i64 10, .symi .i64 11, .symi .i64 22],
  .bin .add (.symi .i64 10) (.symi .i64 27),
  .bin .sub (.symi .i64 11) (.symi .i64 27),
  .bin .eql (.symi .i64 26) (.symi .i64 22),
  .ite (.symb 30) (.symi .u8 24) (.int .u8 0),
  .fn 240 .u8 [.syms 3, .symi .i64 16, .symi .i64 17, .symi .i64 22, .symi .u8 12, .symi .u8 13, .symi .u8 14, .symi .i64 15],
  .fn 241 .u8 [.syms 3, .symi .i64 16, .symi .i64 17, .symi .i64 22, .symi .u8 12, .symi .u8 13, .symi .u8 14, .symi .i64 15],
  .fn 242 .u8 [.syms 3, .symi .i64 16, .symi .i64 17, .symi .i64 22, .symi .u8 12, .symi .u8 13, .symi .u8 14, .symi .i64 15],
  .fn 243 .i64 [.syms 3, .symi .i64 16, .symi .i64 17, .symi .i64 22, .symi .u8 12, .symi .u8 13, .symi .u8 14, .symi .i64 15],
  .fn 244 .i64 [.syms 3, .symi .i64 16, .symi .i64 17, .symi .i64 22],
  .bin .add (.symi .i64 16) (.symi .i64 36),
  .bin .sub (.symi .i64 17) (.symi .i64 36),
  .bin .eql (.symi .i64 35) (.symi .i64 22),
  .ite (.symb 39) (.symi .u8 33) (.int .u8 0),
  .fn 210 .u8 [.syms 1, .symi .i64 5],
  .fn 211 .u8 [.syms 1, .symi .i64 5],
  .fnb 212 [.syms 1, .symi .i64 5],
  .fn 213 .u8 [.syms 1, .symi .i64 5],
  .all [(.symi .u8 23, .symi .u8 41), (.symi .u8 25, .symi .u8 42), (.symb 30, .symb 43), (.symi .u8 31, .symi .u8 44)],
  .bin .leq (.symi .i64 5) (.symi .i64 0),
  .all [(.symi .u8 23, .symi .u8 32), (.symi .u8 25, .symi .u8 34), (.symb 30, .symb 39), (.symi .u8 31, .symi .u8 40)],
  .un .not (.symb 47),
  .bin .gtr (.symi .i64 5) (.symi .i64 0),
  .bin .neq (.symi .i64 22) (.symi .i64 5),
  .bin .add (.symi .i64 5) (.int .i64 1)]
set_option maxRecDepth 100000 in
def wq8BT : LT := .n (.n (.n (.n (.n (.n (.e) 18120236 37 (.bin .add (.symi .i64 16) (.symi .i64 36)) (.e)) 35119641 41 (.fn 210 .u8 [.syms 1, .symi .i64 5]) (.e)) 35119684 42 (.fn 211 .u8 [.syms 1, .symi .i64 5]) (.n (.e) 35119770 44 (.fn 213 .u8 [.syms 1, .symi .i64 5]) (.e))) 119120546 38 (.bin .sub (.symi .i64 17) (.symi .i64 36)) (.n (.n (.e) 145990578 20 (.fnb 203 [.syms 3, .symi .i64 16, .symi .i64 17]) (.e)) 149888332 47 (.all [(.symi .u8 23, .symi .u8 32), (.symi .u8 25, .symi .u8 34), (.symb 30, .symb 39), (.symi .u8 31, .symi .u8 40)]) (.n (.e) 199570013 27 (.fn 244 .i64 [.syms 1, .symi .i64 10, .symi .i64 11, .symi .i64 22]) (.e)))) 229957181 31 (.ite (.symb 30) (.symi .u8 24) (.int .u8 0)) (.n (.n (.n (.e) 351401459 39 (.bin .eql (.symi .i64 35) (.symi .i64 22)) (.e)) 452190069 48 (.un .not (.symb 47)) (.n (.e) 489322688 19 (.fnb 203 [.syms 1, .symi .i64 10, .symi .i64 11]) (.e))) 505031944 46 (.bin .leq (.symi .i64 5) (.symi .i64 0)) (.n (.n (.e) 505031951 49 (.bin .gtr (.symi .i64 5) (.symi .i64 0)) (.e)) 505061867 51 (.bin .add (.symi .i64 5) (.int .i64 1)) (.n (.e) 516140559 30 (.bin .eql (.symi .i64 26) (.symi .i64 22)) (.e))))) 527527673 21 (.bin .lss (.symi .i64 5) (.int .i64 450)) (.n (.n (.n (.n (.n (.e) 551297632 32 (.fn 240 .u8 [.syms 3, .symi .i64 16, .symi .i64 17, .symi .i64 22, .symi .u8 12, .symi .u8 13, .symi .u8 14, .symi .i64 15]) (.e)) 551297675 33 (.fn 241 .u8 [.syms 3, .symi .i64 16, .symi .i64 17, .symi .i64 22, .symi .u8 12, .symi .u8 13, .symi .u8 14, .symi .i64 15]) (.e)) 551297718 34 (.fn 242 .u8 [.syms 3, .symi .i64 16, .symi .i64 17, .symi .i64 22, .symi .u8 12, .symi .u8 13, .symi .u8 14, .symi .i64 15]) (.n (.e) 551297761 35 (.fn 243 .i64 [.syms 3, .symi .i64 16, .symi .i64 17, .symi .i64 22, .symi .u8 12, .symi .u8 13, .symi .u8 14, .symi .i64 15]) (.e))) 616903524 28 (.bin .add (.symi .i64 10) (.symi .i64 27)) (.n (.n (.e) 639352441 36 (.fn 244 .i64 [.syms 3, .symi .i64 16, .symi .i64 17, .symi .i64 22]) (.e)) 674518833 40 (.ite (.symb 39) (.symi .u8 33) (.int .u8 0)) (.n (.e) 688514341 45 (.all [(.symi .u8 23, .symi .u8 41), (.symi .u8 25, .symi .u8 42), (.symb 30, .symb 43), (.symi .u8 31, .symi .u8 44)]) (.e)))) 717579490 50 (.bin .neq (.symi .i64 22) (.symi .i64 5)) (.n (.n (.n (.e) 717903834 29 (.bin .sub (.symi .i64 11) (.symi .i64 27)) (.e)) 744323979 22 (.bin .add (.symi .i64 18) (.int .i64 1)) (.n (.e) 971131261 43 (.fnb 212 [.syms 1, .symi .i64 5]) (.e))) 979949017 23 (.fn 240 .u8 [.syms 1, .symi .i64 10, .symi .i64 11, .symi .i64 22, .symi .u8 6, .symi .u8 7, .symi .u8 8, .symi .i64 9]) (.n (.n (.e) 979949060 24 (.fn 241 .u8 [.syms 1, .symi .i64 10, .symi .i64 11, .symi .i64 22, .symi .u8 6, .symi .u8 7, .symi .u8 8, .symi .i64 9]) (.e)) 979949103 25 (.fn 242 .u8 [.syms 1, .symi .i64 10, .symi .i64 11, .symi .i64 22, .symi .u8 6, .symi .u8 7, .symi .u8 8, .symi .i64 9]) (.n (.e) 979949146 26 (.fn 243 .i64 [.syms 1, .symi .i64 10, .symi .i64 11, .symi .i64 22, .symi .u8 6, .symi .u8 7, .symi .u8 8, .symi .i64 9]) (.e)))))
set_option maxRecDepth 100000 in
def wq8BW : Sw := .node 19 (.node 20 (.node 45 (.node 50 (.dead) (.run (.node 21 (.node 46 (.node 48 (.dead) (.node 49 (.dead) (.leaf .normal w8S1 [(0, 0), (1, 0), (2, 0), (3, 0), (4, 0)] [(2, .symi .i64 2), (0, .symi .i64 0), (5, .symi .i64 51), (1, .syms 1), (2, .symi .i64 2), (6, .symi .u8 23), (7, .symi .u8 24), (8, .symi .u8 25), (9, .symi .i64 26), (10, .symi .i64 28), (11, .symi .i64 29), (18, .symi .i64 22), (1, .syms 1), (2, .symi .i64 2), (12, .symi .u8 32), (13, .symi .u8 33), (14, .symi .u8 34), (15, .symi .i64 35), (16, .symi .i64 37), (17, .symi .i64 38), (18, .symi .i64 22), (3, .syms 3), (4, .symi .i64 4)] []))) (.node 49 (.node 39 (.dead) (.leaf .normal w8S1 [(0, 0), (1, 0), (2, 0), (3, 0), (4, 0)] [(2, .symi .i64 2), (0, .symi .i64 0), (5, .symi .i64 51), (1, .syms 1), (2, .symi .i64 2), (6, .symi .u8 23), (7, .symi .u8 24), (8, .symi .u8 25), (9, .symi .i64 26), (10, .symi .i64 28), (11, .symi .i64 29), (18, .symi .i64 22), (1, .syms 1), (2, .symi .i64 2), (12, .symi .u8 32), (13, .symi .u8 33), (14, .symi .u8 34), (15, .symi .i64 35), (16, .symi .i64 37), (17, .symi .i64 38), (18, .symi .i64 22), (3, .syms 3), (4, .symi .i64 4)] [])) (.dead))) (.leaf (.exit 0) w8S1 [(0, 0), (1, 0), (2, 0), (3, 0), (4, 0)] [(2, .symi .i64 2), (0, .symi .i64 0), (5, .symi .i64 5), (1, .syms 1), (2, .symi .i64 2), (6, .symi .u8 6), (7, .symi .u8 7), (8, .symi .u8 8), (9, .symi .i64 9), (10, .symi .i64 10), (11, .symi .i64 11), (18, .symi .i64 18), (1, .syms 1), (2, .symi .i64 2), (12, .symi .u8 12), (13, .symi .u8 13), (14, .symi .u8 14), (15, .symi .i64 15), (16, .symi .i64 16), (17, .symi .i64 17), (18, .symi .i64 18), (3, .syms 3), (4, .symi .i64 4)] [])))) (.dead)) (.dead)) (.dead)
def wq8BKd : KdT := .n (.n (.n (.n (.n (.n .e (some .u8) .e) (some .i64) (.n .e none .e)) (some .u8) (.n (.n .e none .e) (some .u8) .e)) none (.n (.n (.n .e (some .i64) .e) none (.n .e (some .i64) .e)) (some .i64) (.n (.n .e none .e) (some .i64) .e))) none (.n (.n (.n (.n .e (some .u8) .e) (some .i64) (.n .e none .e)) (some .i64) (.n (.n .e (some .u8) .e) (some .u8) .e)) (some .i64) (.n (.n (.n .e (some .i64) .e) none .e) (some .u8) (.n (.n .e none .e) (some .i64) .e)))) (some .i64) (.n (.n (.n (.n (.n .e (some .u8) .e) (some .i64) (.n .e none .e)) (some .u8) (.n (.n .e (some .u8) .e) (some .u8) .e)) (some .i64) (.n (.n (.n .e (some .i64) .e) none .e) (some .u8) (.n (.n .e (some .u8) .e) (some .i64) .e))) (some .i64) (.n (.n (.n (.n .e (some .u8) .e) (some .i64) (.n .e none .e)) (some .i64) (.n (.n .e (some .u8) .e) (some .i64) .e)) (some .u8) (.n (.n (.n .e (some .i64) .e) (some .i64) .e) (some .u8) (.n (.n .e none .e) none .e))))
def wq8BY : Ing := { m := 19, ins := w8K1, G := wq8BG, T := wq8BT, tab := wTab, rows := [], lsts := wL, kb := 52, kt := wq8BKd, hook := trueHook w8Tru }
def wq8BX : Ing := { m := 19, ins := w8K1, G := wq8BG, T := wq8BT, tab := wTab, rows := [], lsts := wL, kb := 52, kt := wq8BKd, hook := trueHook w8Tru, mh := symMf (kdX wq8BY) [sf28, sf32] }
theorem wq8B_lt : okLT 19 wq8BG wq8BT = true := by kernel_rfl
theorem wq8B_ok : okG wq8BG 19 = true := by kernel_rfl
theorem wq8B_hooks (F : List Fact) : Hooks Try.prog (cxOf wq8BX F) where
  val := fun f args v h hp => tru_val (X := wq8BX) rfl F f args v h hp
  mem := fun f args hp v hp' h => by
    replace h : (symMf (kdX wq8BY) [sf28, sf32]) (symS (baseOf wq8BX F)) f args hp = some (v, hp') := h
    exact mem_symF (X := wq8BX) (tbl := [sf28, sf32]) (inv := fun _ => True) (fun e he => by
      simp only [List.mem_cons, List.not_mem_nil, or_false] at he
      rcases he with rfl | rfl
      · exact c28
      · exact c32) wq8B_lt rfl (fun _ _ _ _ => trivial) F f args hp v hp' h
  ovl := fun f k h => by simp only [wq8BX, cxOf, reduceCtorEq] at h
  atm := fun k b h => by simp only [wq8BX, cxOf, List.not_mem_nil] at h
theorem wq8B_seg : SegOk Try.prog wTab 74 [loopOf (bodyOf Try.f8)] w8S1 wq8BX wq8BW where
  lt := wq8B_lt
  ok := wq8B_ok
  hook := wq8B_hooks
  n0 := rfl
  id := by kernel_rfl
  reck := by kernel_rfl
  tab := rfl
  cuts := rfl
  kt := by kernel_rfl

set_option maxRecDepth 100000 in
def wq8CG : List SDef := []
set_option maxRecDepth 100000 in
def wq8CT : LT := .e
set_option maxRecDepth 100000 in
def wq8CW : Sw := .run (.leaf .ret w8SE [] [] [])
def wq8CKd : KdT := .n (.n (.n (.n (.n .e (some .i64) .e) (some .u8) .e) none (.n .e (some .i64) .e)) none (.n (.n (.n .e (some .i64) .e) (some .i64) .e) (some .i64) (.n .e (some .u8) .e))) (some .i64) (.n (.n (.n (.n .e (some .i64) .e) (some .u8) .e) (some .i64) (.n .e (some .u8) .e)) (some .i64) (.n (.n (.n .e (some .i64) .e) (some .i64) .e) (some .u8) (.n .e (some .u8) .e)))
def wq8CX : Ing := { m := 19, ins := w8K1, G := wq8CG, T := wq8CT, tab := wTab, lsts := wL, kb := 19, kt := wq8CKd }
theorem wq8C_lt : okLT 19 wq8CG wq8CT = true := by kernel_rfl
theorem wq8C_ok : okG wq8CG 19 = true := by kernel_rfl
theorem wq8C_seg : SegOk Try.prog wTab 74 ((flatC (bodyOf Try.f8)).drop 10) w8S1 wq8CX wq8CW where
  lt := wq8C_lt
  ok := wq8C_ok
  hook := fun F => no_hooks rfl F
  n0 := rfl
  id := by kernel_rfl
  reck := by kernel_rfl
  tab := rfl
  cuts := rfl
  kt := by kernel_rfl

structure J8 (s : List E3) (cc : Int) (i : Nat) (σ : Sig) : Prop where
  k0 : σ.ival 0 = cc
  s1 : σ.sval 1 = Wt.encL s
  n2 : σ.ival 2 = s.length
  s3 : σ.sval 3 = Wt.encL (upto s cc)
  n4 : σ.ival 4 = (upto s cc).length
  i5 : σ.ival 5 = ((i + 1 : Nat) : Int)
  hi : i ≤ 449
  p : PlI s i (σ.ival 6) (σ.ival 7) (σ.ival 8) (σ.ival 9) (σ.ival 10) (σ.ival 11)
  q : PlI (upto s cc) i (σ.ival 12) (σ.ival 13) (σ.ival 14) (σ.ival 15) (σ.ival 16) (σ.ival 17)
  c : σ.ival 18 = i
theorem J8.agree {s : List E3} {cc : Int} {i : Nat} {σ τ : Sig} (ag : Agree 19 σ τ) (h : J8 s cc i σ) : J8 s cc i τ := by
  have e := fun j (hj : j < 19) => (ag.val j hj).1
  have es := fun j (hj : j < 19) => (ag.val j hj).2.2
  refine ⟨by rw [← e 0 (by decide)]; exact h.k0, by rw [← es 1 (by decide)]; exact h.s1, by rw [← e 2 (by decide)]; exact h.n2, by rw [← es 3 (by decide)]; exact h.s3, by rw [← e 4 (by decide)]; exact h.n4, by rw [← e 5 (by decide)]; exact h.i5, h.hi, ?_, ?_, by rw [← e 18 (by decide)]; exact h.c⟩
  · rw [← e 6 (by decide), ← e 7 (by decide), ← e 8 (by decide), ← e 9 (by decide), ← e 10 (by decide), ← e 11 (by decide)]; exact h.p
  · rw [← e 12 (by decide), ← e 13 (by decide), ← e 14 (by decide), ← e 15 (by decide), ← e 16 (by decide), ← e 17 (by decide)]; exact h.q
theorem J8.zero {s : List E3} {cc : Int} {τ : Sig} (h7 : τ.ival 7 = cc) (h3 : τ.sval 3 = Wt.encL s) (h4 : τ.ival 4 = s.length) (h8 : τ.sval 8 = Wt.encL (upto s cc)) (h9 : τ.ival 9 = (upto s cc).length) :
    J8 s cc 0 (asgS τ ([(2, .symi .i64 4), (0, .symi .i64 7), (5, .int .i64 1), (1, .syms 3), (2, .symi .i64 4), (6, .int .u8 0), (7, .int .u8 0), (8, .int .u8 0), (9, .int .i64 0), (10, .int .i64 0), (11, .symi .i64 4), (18, .int .i64 0), (1, .syms 3), (2, .symi .i64 4), (12, .int .u8 0), (13, .int .u8 0), (14, .int .u8 0), (15, .int .i64 0), (16, .int .i64 0), (17, .symi .i64 9), (18, .int .i64 0), (3, .syms 8), (4, .symi .i64 9)] ++ [])) := by
  refine ⟨h7, h3, h4, h8, h9, rfl, by decide, ?_, ?_, rfl⟩
  · show PlI s 0 0 0 0 0 0 (τ.ival 4)
    rw [h4]; exact .zero s
  · show PlI (upto s cc) 0 0 0 0 0 0 (τ.ival 9)
    rw [h9]; exact .zero _
theorem J8.step {s : List E3} {cc : Int} {i : Nat} {τ : Sig} (h : J8 s cc i τ) (hi : i + 1 ≤ 449) (h51 : τ.ival 51 = ((i + 1 + 1 : Nat) : Int)) (h22 : τ.ival 22 = ((i + 1 : Nat) : Int))
    (hp : PlI s (i + 1) (τ.ival 23) (τ.ival 24) (τ.ival 25) (τ.ival 26) (τ.ival 28) (τ.ival 29)) (hq : PlI (upto s cc) (i + 1) (τ.ival 32) (τ.ival 33) (τ.ival 34) (τ.ival 35) (τ.ival 37) (τ.ival 38)) :
    J8 s cc (i + 1) (asgS τ ([(2, .symi .i64 2), (0, .symi .i64 0), (5, .symi .i64 51), (1, .syms 1), (2, .symi .i64 2), (6, .symi .u8 23), (7, .symi .u8 24), (8, .symi .u8 25), (9, .symi .i64 26), (10, .symi .i64 28), (11, .symi .i64 29), (18, .symi .i64 22), (1, .syms 1), (2, .symi .i64 2), (12, .symi .u8 32), (13, .symi .u8 33), (14, .symi .u8 34), (15, .symi .i64 35), (16, .symi .i64 37), (17, .symi .i64 38), (18, .symi .i64 22), (3, .syms 3), (4, .symi .i64 4)] ++ [])) := ⟨h.k0, h.s1, h.n2, h.s3, h.n4, h51, hi, hp, hq, h22⟩
theorem eqAll4 {a1 b1 a2 b2 a4 b4 : Int} {a3 b3 r : Bool} (h : r = ((a1 == b1) && ((a2 == b2) && ((a3 == b3) && ((a4 == b4) && true))))) : r = true ↔ Now.mk a1 a2 a3 a4 = Now.mk b1 b2 b3 b4 := by
  rw [h]
  simp only [Bool.and_eq_true, beq_iff_eq, Now.mk.injEq, and_true]

abbrev WZ (W : World) := bodyPost Try.prog Try.f8 (fun e W' => e = .returned (encR [.one .b] [1]) ∧ Below W.heap.size W W')
set_option maxHeartbeats 2000000 in
theorem round {s : List E3} {cc : Int} (hcc : 0 ≤ cc) (hScr : Script s) (hs : ∀ x, x ∈ s → okV x) (hl : s.length ≤ 1000) {i : Nat} {τ : Sig} (e : Eqs τ 19 wq8BG) (ht : τ.tab = wTab) (hj : J8 s cc i τ) :
    τ.bval 19 = true ∧ τ.bval 20 = true ∧ τ.bval 45 = true ∧ τ.bval 50 = false ∧ τ.bval 21 = decide (i + 1 < 450) ∧ (τ.bval 46 = true → τ.bval 48 = false ∧ τ.bval 49 = false) ∧ (τ.bval 46 = false → τ.bval 49 = true ∧ τ.bval 39 = false) ∧
      τ.ival 22 = ((i + 1 : Nat) : Int) ∧ (i + 1 < 450 → τ.ival 51 = ((i + 1 + 1 : Nat) : Int)) ∧ PlI s (i + 1) (τ.ival 23) (τ.ival 24) (τ.ival 25) (τ.ival 26) (τ.ival 28) (τ.ival 29) ∧ PlI (upto s cc) (i + 1) (τ.ival 32) (τ.ival 33) (τ.ival 34) (τ.ival 35) (τ.ival 37) (τ.ival 38) := by
  have hsu : ∀ x, x ∈ upto s cc → okV x := fun x hx => hs x (List.mem_filter.1 hx).1
  have hScu : Script (upto s cc) := hScr.filter _
  have hlu : (upto s cc).length ≤ 1000 := Nat.le_trans (upto_le s cc) hl
  have i5 := hj.i5
  have hi := hj.hi
  have c18 := hj.c
  have b19 : τ.bval 19 = !(τ.tab 203 [encB (τ.sval 1), τ.ival 10, τ.ival 11] == 0) := eqFnb (e.at 0 _ rfl rfl)
  have b20 : τ.bval 20 = !(τ.tab 203 [encB (τ.sval 3), τ.ival 16, τ.ival 17] == 0) := eqFnb (e.at 1 _ rfl rfl)
  rw [ht, hj.s1, hj.p.pc hs hScr] at b19
  rw [ht, hj.s3, hj.q.pc hsu hScu] at b20
  have b21 : τ.bval 21 = decide (τ.ival 5 < 450) := eqB (e.at 2 _ rfl rfl) rfl
  have i22 : τ.ival 22 = IntKind.i64.wrap (τ.ival 18 + 1) := eqI (e.at 3 _ rfl rfl) rfl
  rw [wr_i64] at i22
  have h22 : τ.ival 22 = (i : Int) + 1 := by omega
  have i23 : τ.ival 23 = IntKind.u8.wrap (τ.tab 240 [encB (τ.sval 1), τ.ival 10, τ.ival 11, τ.ival 22, τ.ival 6, τ.ival 7, τ.ival 8, τ.ival 9]) := eqFn (e.at 4 _ rfl rfl)
  have i24 : τ.ival 24 = IntKind.u8.wrap (τ.tab 241 [encB (τ.sval 1), τ.ival 10, τ.ival 11, τ.ival 22, τ.ival 6, τ.ival 7, τ.ival 8, τ.ival 9]) := eqFn (e.at 5 _ rfl rfl)
  have i25 : τ.ival 25 = IntKind.u8.wrap (τ.tab 242 [encB (τ.sval 1), τ.ival 10, τ.ival 11, τ.ival 22, τ.ival 6, τ.ival 7, τ.ival 8, τ.ival 9]) := eqFn (e.at 6 _ rfl rfl)
  have i26 : τ.ival 26 = IntKind.i64.wrap (τ.tab 243 [encB (τ.sval 1), τ.ival 10, τ.ival 11, τ.ival 22, τ.ival 6, τ.ival 7, τ.ival 8, τ.ival 9]) := eqFn (e.at 7 _ rfl rfl)
  have i27 : τ.ival 27 = IntKind.i64.wrap (τ.tab 244 [encB (τ.sval 1), τ.ival 10, τ.ival 11, τ.ival 22]) := eqFn (e.at 8 _ rfl rfl)
  have i28 : τ.ival 28 = IntKind.i64.wrap (τ.ival 10 + τ.ival 27) := eqI (e.at 9 _ rfl rfl) rfl
  have i29 : τ.ival 29 = IntKind.i64.wrap (τ.ival 11 - τ.ival 27) := eqI (e.at 10 _ rfl rfl) rfl
  have b30 : τ.bval 30 = (τ.ival 26 == τ.ival 22) := eqB (e.at 11 _ rfl rfl) rfl
  have i31 : τ.ival 31 = (bif τ.bval 30 then τ.ival 24 else 0) := eqIteI (e.at 12 _ rfl rfl) rfl rfl rfl
  rw [ht, hj.s1] at i23 i24 i25 i26 i27
  have hp := hj.p.next hs hl h22 i23 i24 i25 i26 i27 i28 i29
  have i32 : τ.ival 32 = IntKind.u8.wrap (τ.tab 240 [encB (τ.sval 3), τ.ival 16, τ.ival 17, τ.ival 22, τ.ival 12, τ.ival 13, τ.ival 14, τ.ival 15]) := eqFn (e.at 13 _ rfl rfl)
  have i33 : τ.ival 33 = IntKind.u8.wrap (τ.tab 241 [encB (τ.sval 3), τ.ival 16, τ.ival 17, τ.ival 22, τ.ival 12, τ.ival 13, τ.ival 14, τ.ival 15]) := eqFn (e.at 14 _ rfl rfl)
  have i34 : τ.ival 34 = IntKind.u8.wrap (τ.tab 242 [encB (τ.sval 3), τ.ival 16, τ.ival 17, τ.ival 22, τ.ival 12, τ.ival 13, τ.ival 14, τ.ival 15]) := eqFn (e.at 15 _ rfl rfl)
  have i35 : τ.ival 35 = IntKind.i64.wrap (τ.tab 243 [encB (τ.sval 3), τ.ival 16, τ.ival 17, τ.ival 22, τ.ival 12, τ.ival 13, τ.ival 14, τ.ival 15]) := eqFn (e.at 16 _ rfl rfl)
  have i36 : τ.ival 36 = IntKind.i64.wrap (τ.tab 244 [encB (τ.sval 3), τ.ival 16, τ.ival 17, τ.ival 22]) := eqFn (e.at 17 _ rfl rfl)
  have i37 : τ.ival 37 = IntKind.i64.wrap (τ.ival 16 + τ.ival 36) := eqI (e.at 18 _ rfl rfl) rfl
  have i38 : τ.ival 38 = IntKind.i64.wrap (τ.ival 17 - τ.ival 36) := eqI (e.at 19 _ rfl rfl) rfl
  have b39 : τ.bval 39 = (τ.ival 35 == τ.ival 22) := eqB (e.at 20 _ rfl rfl) rfl
  have i40 : τ.ival 40 = (bif τ.bval 39 then τ.ival 33 else 0) := eqIteI (e.at 21 _ rfl rfl) rfl rfl rfl
  rw [ht, hj.s3] at i32 i33 i34 i35 i36
  have hq := hj.q.next hsu hlu h22 i32 i33 i34 i35 i36 i37 i38
  clear i23 i24 i25 i26 i27 i28 i29 i32 i33 i34 i35 i36 i37 i38
  have h22' : τ.ival 22 = ((i + 1 : Nat) : Int) := by omega
  have hdec : decL (encB (Wt.encL s)) = s := decL_enc hs
  have i41 : τ.ival 41 = IntKind.u8.wrap (τ.tab 210 [encB (τ.sval 1), τ.ival 5]) := eqFn (e.at 22 _ rfl rfl)
  have i42 : τ.ival 42 = IntKind.u8.wrap (τ.tab 211 [encB (τ.sval 1), τ.ival 5]) := eqFn (e.at 23 _ rfl rfl)
  have b43 : τ.bval 43 = !(τ.tab 212 [encB (τ.sval 1), τ.ival 5] == 0) := eqFnb (e.at 24 _ rfl rfl)
  have i44 : τ.ival 44 = IntKind.u8.wrap (τ.tab 213 [encB (τ.sval 1), τ.ival 5]) := eqFn (e.at 25 _ rfl rfl)
  have e0 : wTab 210 [encB (Wt.encL s), ((i + 1 : Nat) : Int)] = (at_ (decL (encB (Wt.encL s))) ((i + 1 : Nat) : Int)).pins := rfl
  have e1 : wTab 211 [encB (Wt.encL s), ((i + 1 : Nat) : Int)] = (at_ (decL (encB (Wt.encL s))) ((i + 1 : Nat) : Int)).mask := rfl
  have e2 : wTab 212 [encB (Wt.encL s), ((i + 1 : Nat) : Int)] = b01 (at_ (decL (encB (Wt.encL s))) ((i + 1 : Nat) : Int)).isb := rfl
  have e3 : wTab 213 [encB (Wt.encL s), ((i + 1 : Nat) : Int)] = (at_ (decL (encB (Wt.encL s))) ((i + 1 : Nat) : Int)).byte := rfl
  obtain ⟨w1, w2, w3⟩ := hp.byte hScr
  rw [ht, hj.s1, i5, e0, hdec, w1] at i41
  rw [ht, hj.s1, i5, e1, hdec, w2] at i42
  rw [ht, hj.s1, i5, e2, b01_ne, hdec] at b43
  rw [ht, hj.s1, i5, e3, hdec, w3] at i44
  have po := hp.out hScr
  have qo := hq.out hScu
  have pOut : Now.mk (τ.ival 23) (τ.ival 25) (τ.bval 30) (τ.ival 31) = at_ s ((i + 1 : Nat) : Int) := by
    rw [← po, i31, b30, h22']
    congr 1
    all_goals first
      | rw [bif_eq]
      | (by_cases h : τ.ival 26 = ((i + 1 : Nat) : Int) <;> simp [h])
  have qOut : Now.mk (τ.ival 32) (τ.ival 34) (τ.bval 39) (τ.ival 40) = at_ (upto s cc) ((i + 1 : Nat) : Int) := by
    rw [← qo, i40, b39, h22']
    congr 1
    all_goals first
      | rw [bif_eq]
      | (by_cases h : τ.ival 35 = ((i + 1 : Nat) : Int) <;> simp [h])
  have b45 : τ.bval 45 = ((τ.ival 23 == τ.ival 41) && ((τ.ival 25 == τ.ival 42) && ((τ.bval 30 == τ.bval 43) && ((τ.ival 31 == τ.ival 44) && true)))) := eqB (e.at 26 _ rfl rfl) rfl
  have b46 : τ.bval 46 = decide (τ.ival 5 ≤ τ.ival 0) := eqB (e.at 27 _ rfl rfl) rfl
  have b47 : τ.bval 47 = ((τ.ival 23 == τ.ival 32) && ((τ.ival 25 == τ.ival 34) && ((τ.bval 30 == τ.bval 39) && ((τ.ival 31 == τ.ival 40) && true)))) := eqB (e.at 28 _ rfl rfl) rfl
  have b48 : τ.bval 48 = !(τ.bval 47) := eqB (e.at 29 _ rfl rfl) rfl
  have b49 : τ.bval 49 = decide (τ.ival 5 > τ.ival 0) := eqB (e.at 30 _ rfl rfl) rfl
  have b50 : τ.bval 50 = !(τ.ival 22 == τ.ival 5) := eqB (e.at 31 _ rfl rfl) rfl
  have i51 : τ.ival 51 = IntKind.i64.wrap (τ.ival 5 + 1) := eqI (e.at 32 _ rfl rfl) rfl
  rw [wr_i64] at i51
  have k0 := hj.k0
  refine ⟨b19, b20, (eqAll4 b45).2 ?_, ?_, ?_, fun f => ⟨?_, ?_⟩, fun f => ⟨?_, ?_⟩, h22', fun h => by omega, hp, hq⟩
  · rw [pOut, i41, i42, b43, i44]
  · rw [b50, h22', i5]; simp
  · rw [b21, i5, decide_eq_decide]; omega
  · rw [b46, decide_eq_true_eq] at f
    have : τ.bval 47 = true := by
      refine (eqAll4 b47).2 ?_
      rw [pOut, qOut, at_script hScr (by omega), at_script hScu (by omega), lv_upto s (by omega)]
    rw [b48, this]; rfl
  · rw [b46, decide_eq_true_eq] at f
    rw [b49, decide_eq_false_iff_not]; omega
  · rw [b46, decide_eq_false_iff_not] at f
    rw [b49, decide_eq_true_eq]; omega
  · rw [b46, decide_eq_false_iff_not] at f
    have h := congrArg Now.isb qOut
    rw [at_script hScu (by omega), none_behind s hcc (by omega)] at h
    exact h
set_option maxHeartbeats 2000000 in
theorem walk (W : World) (v0 : Value) (X : Fz) (hX : RowV W [.i .u8, .i .u8, .i .u8] v0 X) (n1 : Int) (i1 : InR [.i .u16] [n1]) : Calls Try.prog 8 #[v0, encC (.i .u16) n1] W fun e W' => e = .returned (.bool true) ∧ Below W.heap.size W W' := by
  let σ0 : Sig := ⟨fun i => if i = 1 then (X.len : Int) else n1, fun _ => false, fun i => if i = 2 then conR X X.len else .empty, wTab, ex1 X⟩
  have hXl := hX.len
  have hn1 : IntKind.u16.wrap n1 = n1 := i1.1
  let C := conR X X.len
  let s := script (X.len : Int) C
  have hso : ScrOk (scrN C (min X.len 100)).1 (scrN C (min X.len 100)).2 (min X.len 100) := scrN_ok C _ (by omega)
  have hse : s = (scrN C (min X.len 100)).1 := script_min rfl
  have hScr : Script s := by rw [hse]; exact hso.script
  have hs : ∀ x, x ∈ s → okV x := by rw [hse]; exact scr_okV hso
  have hl : s.length ≤ 100 := by rw [hse, scrN_len]; omega
  have hsu : ∀ cc, ∀ x, x ∈ upto s cc → okV x := fun cc x hx => hs x (List.mem_filter.1 hx).1
  have hsd : s = script (X.len : Int) C := rfl
  have hCd : C = conR X X.len := rfl
  clear_value s C
  have hlast : Stage Try.prog wTab 74 W (WZ W) ((flatC (bodyOf Try.f8)).drop 10) w8S1 19 w8K1 (fun _ => True) := by
    refine Stage.last mixed wq8C_seg ⟨rfl, rfl⟩ (fun _ _ _ _ => trivial) (fun _ _ => rows_nil) (fun τ e ht hi _ => ?_)
    refine segsPw_segs ?_
    exact endZ_res (outs := [.one .b]) (l := [1]) (vs := [.bool true]) (by kernel_rfl) ⟨rfl, trivial⟩ (.inl rfl)
  have hloop : ∀ cc, 0 ≤ cc → Stage Try.prog wTab 74 W (WZ W) (.block (idOf (bodyOf Try.f8)) (.loop (loopOf (bodyOf Try.f8))) :: (flatC (bodyOf Try.f8)).drop 10) w8S1 19 w8K1 (fun σ => ∃ i, J8 s cc i σ) := by
    intro cc hcc
    refine Stage.loop (μ := fun σ => (450 - σ.ival 5).toNat) mixed wq8B_seg ⟨rfl, rfl⟩ (fun σ τ ag h => let ⟨i, hi⟩ := h; ⟨i, hi.agree ag⟩) (fun σ τ ag => by rw [(ag.val 5 (by decide)).1]) (fun τ h => rows_nil) hlast (fun τ e ht hi hj => ?_)
    obtain ⟨i, hj⟩ := hj
    obtain ⟨b19, b20, b45, b50, b21, h46, h46', h22, h51, hp, hq⟩ := round hcc hScr hs (by omega) e ht hj
    have i5 := hj.i5
    refine segsPw_segs ?_
    have fin : i + 1 < 450 → (SEx.normal = .normal ∧ w8S1 = w8S1 ∧ InsOk (asgS τ ([(2, .symi .i64 2), (0, .symi .i64 0), (5, .symi .i64 51), (1, .syms 1), (2, .symi .i64 2), (6, .symi .u8 23), (7, .symi .u8 24), (8, .symi .u8 25), (9, .symi .i64 26), (10, .symi .i64 28), (11, .symi .i64 29), (18, .symi .i64 22), (1, .syms 1), (2, .symi .i64 2), (12, .symi .u8 32), (13, .symi .u8 33), (14, .symi .u8 34), (15, .symi .i64 35), (16, .symi .i64 37), (17, .symi .i64 38), (18, .symi .i64 22), (3, .syms 3), (4, .symi .i64 4)] ++ [])) 19 w8K1 ∧ (∃ i, J8 s cc i (asgS τ ([(2, .symi .i64 2), (0, .symi .i64 0), (5, .symi .i64 51), (1, .syms 1), (2, .symi .i64 2), (6, .symi .u8 23), (7, .symi .u8 24), (8, .symi .u8 25), (9, .symi .i64 26), (10, .symi .i64 28), (11, .symi .i64 29), (18, .symi .i64 22), (1, .syms 1), (2, .symi .i64 2), (12, .symi .u8 32), (13, .symi .u8 33), (14, .symi .u8 34), (15, .symi .i64 35), (16, .symi .i64 37), (17, .symi .i64 38), (18, .symi .i64 22), (3, .syms 3), (4, .symi .i64 4)] ++ []))) ∧ (asgS τ ([(2, .symi .i64 2), (0, .symi .i64 0), (5, .symi .i64 51), (1, .syms 1), (2, .symi .i64 2), (6, .symi .u8 23), (7, .symi .u8 24), (8, .symi .u8 25), (9, .symi .i64 26), (10, .symi .i64 28), (11, .symi .i64 29), (18, .symi .i64 22), (1, .syms 1), (2, .symi .i64 2), (12, .symi .u8 32), (13, .symi .u8 33), (14, .symi .u8 34), (15, .symi .i64 35), (16, .symi .i64 37), (17, .symi .i64 38), (18, .symi .i64 22), (3, .syms 3), (4, .symi .i64 4)] ++ [])).tab = wTab ∧ (450 - (asgS τ ([(2, .symi .i64 2), (0, .symi .i64 0), (5, .symi .i64 51), (1, .syms 1), (2, .symi .i64 2), (6, .symi .u8 23), (7, .symi .u8 24), (8, .symi .u8 25), (9, .symi .i64 26), (10, .symi .i64 28), (11, .symi .i64 29), (18, .symi .i64 22), (1, .syms 1), (2, .symi .i64 2), (12, .symi .u8 32), (13, .symi .u8 33), (14, .symi .u8 34), (15, .symi .i64 35), (16, .symi .i64 37), (17, .symi .i64 38), (18, .symi .i64 22), (3, .syms 3), (4, .symi .i64 4)] ++ [])).ival 5).toNat < (450 - τ.ival 5).toNat) := by
      intro h
      have hst := hj.step (by omega) (h51 h) h22 hp hq
      refine ⟨rfl, rfl, insOk_kt (X := wq8BX) e hi (by kernel_rfl) (by kernel_rfl), ⟨_, hst⟩, tabS ht, ?_⟩
      have := hst.i5
      omega
    refine ⟨fun _ => ⟨fun _ => ⟨fun _ => ⟨fun f => (by rw [b50] at f; cases f), fun _ => ⟨fun f21 => ⟨fun f46 => ⟨fun f => (by rw [(h46 f46).1] at f; cases f), fun _ => ⟨fun f => (by rw [(h46 f46).2] at f; cases f), fun _ => .inl (fin ?_)⟩⟩, fun f46 => ⟨fun _ => ⟨fun f => (by rw [(h46' f46).2] at f; cases f), fun _ => .inl (fin ?_)⟩, fun f => (by rw [(h46' f46).1] at f; cases f)⟩⟩, fun f21 => .inr (.inl ⟨rfl, rfl, insOk_kt (X := wq8BX) e hi (by kernel_rfl) (by kernel_rfl), trivial, tabS ht⟩)⟩⟩, fun f => (by rw [b45] at f; cases f)⟩, fun f => (by rw [b20] at f; cases f)⟩, fun f => (by rw [b19] at f; cases f)⟩
    · rw [b21, decide_eq_true_eq] at f21; exact f21
    · rw [b21, decide_eq_true_eq] at f21; exact f21
  rw [wr_u16] at hn1
  have hCs : (Wt.encL s).data.toList.length = s.length * 17 := encL_len hs
  have hls : lstE (Wt.encL s) s.length = s := lstE_enc hs
  have hmain : Stage Try.prog wTab 74 W (WZ W) (flatC (bodyOf Try.f8)) w8S0 3 w8K (fun σ => σ.ext = ex1 X ∧ σ.ival 1 = X.len ∧ σ.sval 2 = C ∧ σ.ival 0 = n1) := by
    rw [show flatC (bodyOf Try.f8) = (flatC (bodyOf Try.f8)).take 9 ++ (.block (idOf (bodyOf Try.f8)) (.loop (loopOf (bodyOf Try.f8))) :: (flatC (bodyOf Try.f8)).drop 10) from rfl]
    refine Stage.segI (q2 := 19) (ins2 := w8K1) (S2 := w8S1) (J2 := fun σ => ∃ i, J8 s (n1 % 400) i σ) mixed (wq8A_seg hX) ⟨rfl, rfl⟩ (fun σ τ ag h => ⟨by rw [← ag.ext]; exact h.1, by rw [← (ag.val 1 (by decide)).1]; exact h.2.1, by rw [← (ag.val 2 (by decide)).2.2]; exact h.2.2.1, by rw [← (ag.val 0 (by decide)).1]; exact h.2.2.2⟩)
      (fun τ h => rows_len (k := 1) (X := X) h.1 h.2.1) (fun τ h => ⟨h.1, h.2.1, conR_str hX (h.2.2.1.trans hCd)⟩) (hloop (n1 % 400) (by omega)) (fun τ e ht hi hj => ?_)
    obtain ⟨hx, j1, j2, j0⟩ := hj
    have s3 : τ.sval 3 = Wt.encL s := by
      have h : τ.sval 3 = decS (τ.tab 230 [τ.ival 1, encB (τ.sval 2)]) := eqFs (e.at 0 _ rfl rfl)
      have e0 : wTab 230 [(X.len : Int), encB C] = encB (Wt.encL (script (X.len : Int) (decS (encB C)))) := rfl
      rw [h, ht, j1, j2, e0, decS_enc, decS_enc, ← hsd]
    have i4 : τ.ival 4 = s.length := by
      have h : τ.ival 4 = IntKind.i64.wrap (τ.tab 231 [τ.ival 1, encB (τ.sval 2)]) := eqFn (e.at 1 _ rfl rfl)
      have e0 : wTab 231 [(X.len : Int), encB C] = ((script (X.len : Int) (decS (encB C))).length : Int) := rfl
      rw [ht, j1, j2, e0, decS_enc, ← hsd, wr_i64] at h
      omega
    have b5 : τ.bval 5 = true := (eqFnb (e.at 2 _ rfl rfl)).trans (bval202 (i := 3) ht s3 hCs ⟨by rw [hls]; exact hScr, by omega⟩)
    have i6 : τ.ival 6 = n1 % 400 := by
      have h : τ.ival 6 = (τ.ival 0).tmod 400 := eqI (e.at 3 _ rfl rfl) rfl
      rw [h, j0, Int.tmod_eq_emod_of_nonneg (by omega)]
    have i7 : τ.ival 7 = n1 % 400 := by
      have h : τ.ival 7 = IntKind.i64.wrap (τ.ival 6) := eqI (e.at 4 _ rfl rfl) rfl
      rw [wr_i64] at h; omega
    have hul := upto_le s (n1 % 400)
    have s8 : τ.sval 8 = Wt.encL (upto s (n1 % 400)) := by
      have h : τ.sval 8 = decS (τ.tab 220 [encB (τ.sval 3), 0, τ.ival 4, τ.ival 7]) := eqFs (e.at 5 _ rfl rfl)
      have e0 : wTab 220 [encB (Wt.encL s), 0, (s.length : Int), n1 % 400] = encB (Wt.encL (upto (piece [encB (Wt.encL s), 0, (s.length : Int), n1 % 400]) (n1 % 400))) := rfl
      rw [h, ht, s3, i4, i7, e0, decS_enc, piece_all hCs, hls]
    have i9 : τ.ival 9 = (upto s (n1 % 400)).length := by
      have h : τ.ival 9 = IntKind.i64.wrap (τ.tab 221 [encB (τ.sval 3), 0, τ.ival 4, τ.ival 7]) := eqFn (e.at 6 _ rfl rfl)
      have e0 : wTab 221 [encB (Wt.encL s), 0, (s.length : Int), n1 % 400] = ((upto (piece [encB (Wt.encL s), 0, (s.length : Int), n1 % 400]) (n1 % 400)).length : Int) := rfl
      rw [ht, s3, i4, i7, e0, piece_all hCs, hls, wr_i64] at h
      omega
    have b10 : τ.bval 10 = true := (eqFnb (e.at 7 _ rfl rfl)).trans (bval202 (i := 8) ht s8 (encL_len (hsu (n1 % 400))) ⟨by rw [lstE_enc (hsu (n1 % 400))]; exact hScr.filter _, by omega⟩)
    refine segsPw_segs ?_
    exact ⟨fun _ => ⟨fun _ => .inl ⟨rfl, rfl, insOk_kt (X := wq8AX X) e hi (by kernel_rfl) (by kernel_rfl), ⟨0, .zero i7 s3 i4 s8 i9⟩, tabS ht⟩, fun f => (by rw [b10] at f; cases f)⟩, fun f => (by rw [b5] at f; cases f)⟩
  have hv0 : VRel ⟨fun _ => none, σ0, fun _ => none⟩ (.symi .u16 0) (encC (.i .u16) n1) := by
    have he : encC (.i .u16) n1 = .int .u16 n1 := congrArg (Value.int .u16) i1.1
    rw [he]
    exact VRel.symi (g := ⟨fun _ => none, σ0, fun _ => none⟩) .u16 0
  have := calls_of_stageG (σ0 := σ0) (tab := wTab) (n := 74) (q := 3) (ins := w8K) (args := [.row 0, .symi .u16 0]) (args' := #[v0, encC (.i .u16) n1]) (W := W) (R := fun e W' => e = .returned (encR [.one .b] [1]) ∧ Below W.heap.size W W') (J := fun σ => σ.ext = ex1 X ∧ σ.ival 1 = X.len ∧ σ.sval 2 = C ∧ σ.ival 0 = n1) Try.func8 rfl rfl rfl (.cons _ _ _ _ (hX.rel _ 0 rfl) (.cons _ _ _ _ hv0 .nil)) (by simp)
    (fun i Y h hlen => by
      have := ext_one (σ := σ0) rfl h
      subst this
      exact hX.ok hlen)
    (fun i k hi hk => by
      have : i = 0 ∨ i = 1 ∨ i = 2 := by omega
      rcases this with rfl | rfl | rfl
      · simp only [w8K, List.getElem?_cons_zero, Option.getD_some, Option.some.injEq] at hk
        subst hk
        show IntKind.u16.wrap n1 = n1
        rw [wr_u16]; omega
      · simp only [w8K, List.getElem?_cons_succ, List.getElem?_cons_zero, Option.getD_some, Option.some.injEq] at hk
        subst hk
        show IntKind.i64.wrap (X.len : Int) = X.len
        rw [wr_i64]; omega
      · cases hk)
    ⟨rfl, rfl, hCd.symm, rfl⟩ hmain
  exact this
end Walk
open Go.Ev
section
variable {H : Type} {enc : TypeId × Value → H} {P : Program}
theorem post_of_below {f : Func} {s : ChangeSpec} {apart fresh handsOn again : Bool} {W W' : World} {args : Array Value} {v : Value} {ds gs : List (DataW H)} {before pa pv : List MemPlace}
    (hW : DataW.Whole enc P f.params.toList s.vars apart W args.toList ds gs before)
    (hres : ∀ (b : Nat) (sp : Nat → Bool) (hd : Bool), DataW.TrodAll enc P W' b sp hd f.resultTypes.toList (v.resultList f.resultTypes.size) (s.fn H (ds ++ gs)).results [])
    (hargs : ∀ sp : Nat → Bool, (∀ p ∈ before, sp p.block = true) → DataW.TrodAll enc P W' 0 sp true f.params.toList args.toList (s.fn H (ds ++ gs)).args pa)
    (hvars : ∀ sp : Nat → Bool, (∀ p ∈ before, sp p.block = true) → DataW.TrodVars enc P W' sp s.vars (s.fn H (ds ++ gs)).vars pv)
    (hps : before = pa ++ pv) (hb : Below W.heap.size W W')
    (hok : ∀ (j : Nat) (t : TypeId) (r : Value), f.resultTypes[j]? = some t → (v.resultList f.resultTypes.size)[j]? = some r → Value.okWide P W' .any 0 t r) :
    s.post enc P f apart fresh handsOn again W args v W' := by
  have hlt : ∀ p ∈ before, p.block < W.heap.size := fun p hp => hW.lt p hp
  have hold : ∀ p ∈ before, (fun b => decide (b < W.heap.size)) p.block = true := fun p hp => by simpa using hlt p hp
  refine ⟨ds, gs, before, [], pa, pv, hW, hres _ _ _, hargs _ hold, hvars _ hold, World.keptBut_mono (fun p hp => ⟨hp, ?_⟩) (hb.frame (· ∈ before)), fun _ => ?_⟩
  · rw [hps, List.mem_append] at hp
    exact Or.inr hp
  · obtain ⟨_, _, _, _, _, hz, hn⟩ := hW
    refine ⟨hok, _, _, ([] ++ pa) ++ pv, ⟨[] ++ pa, pv, trodAll_append (hargs _ (fun _ _ => rfl)) (hres _ _ _), hvars _ (fun _ _ => rfl), rfl, ?_, ?_⟩, ?_⟩
    · intro b off hp
      have hin : MemPlace.cell b off ∈ before := by rw [hps]; simpa using hp
      rw [hb.frozen (hlt _ hin)]
      exact hz b off hin
    · intro ha
      have := hn ha
      rw [hps] at this
      simpa using this
    · intro p hp _
      rw [hps]
      simpa using hp
end


theorem size59 : Nat.beq (Try.prog.cellsOf 59) ([.i .u8, .i .u8, .i .u8] : List Cl).length = true := by kernel_rfl
theorem flat59 : flat Try.prog 4 59 = some [.i .u8, .i .u8, .i .u8] := by kernel_rfl
theorem agg60 : Ev.isAgg Try.prog 60 = false := by kernel_rfl
theorem flat60 : flat Try.prog 4 60 = some [.i .u16] := by kernel_rfl

set_option maxRecDepth 100000 in
set_option maxHeartbeats 2000000 in
theorem lifted (os : Os) (started : os.Started) (H : Type) (enc : TypeId × Value → H) :
    ReturnsInHanded {} Try.checked os 8 .any (Rows.worldPlaysSpec.pre6 enc Try.prog Try.f8 Rows.worldPlaysRow.domain false) (Rows.worldPlaysSpec.post enc Try.prog Try.f8 false true false false) := by
  refine returnsInHanded_of_change (C := Try.checked) own started (by kernel_rfl) Try.func8
    (ChangeSpec.witness6 (enc := enc) (C := Try.checked) false ⟨#[], #[.slice none 0 0, .int .u16 0], []⟩ 8 (by kernel_rfl) (by kernel_rfl) (by kernel_rfl) (by kernel_rfl)) ?_
  intro W base args ds gs before hval0 hW hcnd _
  have hval : ∀ (j : Nat) t v, Try.f8.params[j]? = some t → args[j]? = some v → Value.okWide Try.prog W .any base t v := hval0
  have hW' := hW
  obtain ⟨p, q, hA0, hV, rfl, hfz, hnd⟩ := hW
  have hA : DataW.TrodAll enc Try.prog W 0 (fun _ => true) true Try.f8.params.toList args.toList ds p := hA0
  rw [Try.params8] at hA hval
  obtain ⟨v0, vs0, d0, ds0, p0, q0, hargs, rfl, rfl, h0, r0⟩ := trodAll_cons hA
  obtain ⟨v1, vs1, d1, ds1, p1, q1, rfl, rfl, rfl, h1, r1⟩ := trodAll_cons r0
  obtain ⟨rfl, rfl, rfl⟩ := trodAll_nil r1
  obtain rfl : args = #[v0, v1] := by cases args; simp_all
  obtain ⟨rfl, rfl⟩ := trodVars_none hV
  obtain ⟨X0, R0⟩ := open_rows (cl := [.i .u8, .i .u8, .i .u8]) Try.underlying57 flat59 size59 rfl (hval 0 57 v0 rfl rfl) h0
  obtain ⟨n1, i1, rfl, rfl⟩ := open_one flat60 agg60 (hval 1 60 v1 rfl rfl) h1
  clear hA0 hval0
  simp only [List.append_nil] at hW'
  refine (walk W v0 X0 R0.row n1 i1).mono fun e W' ⟨he, hg⟩ => ?_
  subst he
  exact ⟨_, rfl, post_of_below (pa := p0 ++ ([] ++ ([]))) (pv := []) hW' (fun _ _ _ => (trodAll_cons_mk (shut_bool Try.underlying4 _) trodAll_mk0)) (fun sp hsp => (trodAll_cons_mk (R0.again W' hg sp (fun z hz => hsp z (by simp [hz]))) (trodAll_cons_mk (shut_flat flat60 h1) trodAll_mk0))) (fun _ _ => rfl) (by simp)
    hg (ok_one (by kernel_rfl) rfl (okWide_bool_mk Try.underlying4 _))⟩

theorem over : Rows.worldPlaysRow.holds Try.pinned (OpenSpec.ofChange Rows.worldPlaysSpec) :=
  OpenClaim.holds_of_wide 8 Try.f8 rfl rfl rfl rfl rfl rfl rfl ⟨rfl, rfl, rfl, rfl, rfl⟩ rfl rfl rfl rfl rfl (by kernel_rfl) Try.func8 (by kernel_rfl)
    (of_decide_eq_true (by kernel_rfl)) (by unfold Func.isWrapper; first | (rw [if_pos (by decide +kernel)]; kernel_rfl) | (rw [if_neg (by decide +kernel)]; exact ⟨rfl, rfl⟩))
    (fun os started H enc _ => lifted os started H enc)

/-- THE STATEMENT -/
theorem proved : Rows.WorldPlaysSaid :=
  over
#print axioms proved
end Go.Proofs.Ytapfkgenachpgaa.worldPlays
