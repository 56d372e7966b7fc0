/-
  ploverlaw10.FifoTells is true: what is made of any value by its helper's contract; of lists by each length that is read of them, with unknown bytes.
  No conditions.
-/
import Derived.Test.YtgifnmiggloclaaRows
import Derived.WalkKit
import Derived.ProofKit
import Derived.OpenShut
import Derived.Below
import Derived.ChangeSame
import Derived.Test.YtgifnmiggloclaaEwY
import Derived.Test.YtgifnmiggloclaaEwZb
namespace Go.Proofs.Ytgifnmiggloclaa.fifoTells
open Go.ChangeShapes Go.WideShapes Go.ChangeAt Go.RowKit
open Go.Ev
set_option linter.unusedVariables false
set_option linter.unusedSimpArgs false

theorem own : ownKnob Try.prog.godebug = none := by kernel_rfl
theorem mixed : Try.prog.follows .mixedOrders = true := Checked.mixed Try.checked

/-! ### The helper: true of any value, and any byte -/

set_option maxRecDepth 100000 in
def alG : List SDef := [.low [.symi .i64 0, .int .i64 8],
  .high [.int .i64 0, .symi .i64 10],
  .bin .lss (.int .i64 0) (.symi .i64 0),
  .bin .lss (.int .i64 1) (.symi .i64 0),
  .bin .lss (.int .i64 2) (.symi .i64 0),
  .bin .lss (.int .i64 3) (.symi .i64 0),
  .bin .lss (.int .i64 4) (.symi .i64 0),
  .bin .lss (.int .i64 5) (.symi .i64 0),
  .bin .lss (.int .i64 6) (.symi .i64 0),
  .bin .lss (.int .i64 7) (.symi .i64 0),
  .all [(.int .i64 0, .symi .i64 0), (.int .u8 0, .symi .u8 1), (.int .u8 0, .symi .u8 2), (.int .u8 0, .symi .u8 3), (.int .u8 0, .symi .u8 4), (.int .u8 0, .symi .u8 5), (.int .u8 0, .symi .u8 6), (.int .u8 0, .symi .u8 7), (.int .u8 0, .symi .u8 8)],
  .all [(.int .i64 1, .symi .i64 0), (.int .u8 0, .symi .u8 2), (.int .u8 0, .symi .u8 3), (.int .u8 0, .symi .u8 4), (.int .u8 0, .symi .u8 5), (.int .u8 0, .symi .u8 6), (.int .u8 0, .symi .u8 7), (.int .u8 0, .symi .u8 8)],
  .text [.symi .u8 1],
  .all [(.int .i64 2, .symi .i64 0), (.int .u8 0, .symi .u8 3), (.int .u8 0, .symi .u8 4), (.int .u8 0, .symi .u8 5), (.int .u8 0, .symi .u8 6), (.int .u8 0, .symi .u8 7), (.int .u8 0, .symi .u8 8)],
  .text [.symi .u8 1, .symi .u8 2],
  .all [(.int .i64 3, .symi .i64 0), (.int .u8 0, .symi .u8 4), (.int .u8 0, .symi .u8 5), (.int .u8 0, .symi .u8 6), (.int .u8 0, .symi .u8 7), (.int .u8 0, .symi .u8 8)],
  .text [.symi .u8 1, .symi .u8 2, .symi .u8 3],
  .all [(.int .i64 4, .symi .i64 0), (.int .u8 0, .symi .u8 5), (.int .u8 0, .symi .u8 6), (.int .u8 0, .symi .u8 7), (.int .u8 0, .symi .u8 8)],
  .text [.symi .u8 1, .symi .u8 2, .symi .u8 3, .symi .u8 4],
  .all [(.int .i64 5, .symi .i64 0), (.int .u8 0, .symi .u8 6), (.int .u8 0, .symi .u8 7), (.int .u8 0, .symi .u8 8)],
  .text [.symi .u8 1, .symi .u8 2, .symi .u8 3, .symi .u8 4, .symi .u8 5],
  .all [(.int .i64 6, .symi .i64 0), (.int .u8 0, .symi .u8 7), (.int .u8 0, .symi .u8 8)],
  .text [.symi .u8 1, .symi .u8 2, .symi .u8 3, .symi .u8 4, .symi .u8 5, .symi .u8 6],
  .all [(.int .i64 7, .symi .i64 0), (.int .u8 0, .symi .u8 8)],
  .text [.symi .u8 1, .symi .u8 2, .symi .u8 3, .symi .u8 4, .symi .u8 5, .symi .u8 6, .symi .u8 7],
  .all [(.int .i64 8, .symi .i64 0)],
  .text [.symi .u8 1, .symi .u8 2, .symi .u8 3, .symi .u8 4, .symi .u8 5, .symi .u8 6, .symi .u8 7, .symi .u8 8]]

set_option maxRecDepth 100000 in
def alT : LT := .n (.n (.n (.n (.n (.e) 20716 35 (.all [(.int .i64 8, .symi .i64 0)]) (.e)) 30220 12 (.bin .lss (.int .i64 0) (.symi .i64 0)) (.n (.e) 30725 13 (.bin .lss (.int .i64 1) (.symi .i64 0)) (.e))) 31230 14 (.bin .lss (.int .i64 2) (.symi .i64 0)) (.n (.n (.e) 31735 15 (.bin .lss (.int .i64 3) (.symi .i64 0)) (.e)) 32240 16 (.bin .lss (.int .i64 4) (.symi .i64 0)) (.e))) 32745 17 (.bin .lss (.int .i64 5) (.symi .i64 0)) (.n (.n (.n (.e) 33250 18 (.bin .lss (.int .i64 6) (.symi .i64 0)) (.e)) 33755 19 (.bin .lss (.int .i64 7) (.symi .i64 0)) (.n (.e) 239174 10 (.low [.symi .i64 0, .int .i64 8]) (.e))) 72912746 31 (.all [(.int .i64 6, .symi .i64 0), (.int .u8 0, .symi .u8 7), (.int .u8 0, .symi .u8 8)]) (.n (.n (.e) 92332461 28 (.text [.symi .u8 1, .symi .u8 2, .symi .u8 3, .symi .u8 4]) (.e)) 127004740 22 (.text [.symi .u8 1]) (.e)))) 162049360 21 (.all [(.int .i64 1, .symi .i64 0), (.int .u8 0, .symi .u8 2), (.int .u8 0, .symi .u8 3), (.int .u8 0, .symi .u8 4), (.int .u8 0, .symi .u8 5), (.int .u8 0, .symi .u8 6), (.int .u8 0, .symi .u8 7), (.int .u8 0, .symi .u8 8)]) (.n (.n (.n (.n (.e) 278431195 30 (.text [.symi .u8 1, .symi .u8 2, .symi .u8 3, .symi .u8 4, .symi .u8 5]) (.e)) 391971003 29 (.all [(.int .i64 5, .symi .i64 0), (.int .u8 0, .symi .u8 6), (.int .u8 0, .symi .u8 7), (.int .u8 0, .symi .u8 8)]) (.n (.e) 417184649 20 (.all [(.int .i64 0, .symi .i64 0), (.int .u8 0, .symi .u8 1), (.int .u8 0, .symi .u8 2), (.int .u8 0, .symi .u8 3), (.int .u8 0, .symi .u8 4), (.int .u8 0, .symi .u8 5), (.int .u8 0, .symi .u8 6), (.int .u8 0, .symi .u8 7), (.int .u8 0, .symi .u8 8)]) (.e))) 484965494 24 (.text [.symi .u8 1, .symi .u8 2]) (.n (.n (.e) 485128461 26 (.text [.symi .u8 1, .symi .u8 2, .symi .u8 3]) (.e)) 504219759 11 (.high [.int .i64 0, .symi .i64 10]) (.e))) 545114659 34 (.text [.symi .u8 1, .symi .u8 2, .symi .u8 3, .symi .u8 4, .symi .u8 5, .symi .u8 6, .symi .u8 7]) (.n (.n (.n (.e) 556154175 36 (.text [.symi .u8 1, .symi .u8 2, .symi .u8 3, .symi .u8 4, .symi .u8 5, .symi .u8 6, .symi .u8 7, .symi .u8 8]) (.e)) 598967329 32 (.text [.symi .u8 1, .symi .u8 2, .symi .u8 3, .symi .u8 4, .symi .u8 5, .symi .u8 6]) (.n (.e) 730765186 33 (.all [(.int .i64 7, .symi .i64 0), (.int .u8 0, .symi .u8 8)]) (.e))) 756089611 25 (.all [(.int .i64 3, .symi .i64 0), (.int .u8 0, .symi .u8 4), (.int .u8 0, .symi .u8 5), (.int .u8 0, .symi .u8 6), (.int .u8 0, .symi .u8 7), (.int .u8 0, .symi .u8 8)]) (.n (.n (.e) 930489711 27 (.all [(.int .i64 4, .symi .i64 0), (.int .u8 0, .symi .u8 5), (.int .u8 0, .symi .u8 6), (.int .u8 0, .symi .u8 7), (.int .u8 0, .symi .u8 8)]) (.e)) 1029784830 23 (.all [(.int .i64 2, .symi .i64 0), (.int .u8 0, .symi .u8 3), (.int .u8 0, .symi .u8 4), (.int .u8 0, .symi .u8 5), (.int .u8 0, .symi .u8 6), (.int .u8 0, .symi .u8 7), (.int .u8 0, .symi .u8 8)]) (.e))))

set_option maxRecDepth 100000 in
def alW : Wr' := .pick 11 0 (.node 12 (.dead) (.node 13 (.dead) (.node 14 (.dead) (.node 15 (.dead) (.node 16 (.dead) (.node 17 (.dead) (.node 18 (.dead) (.node 19 (.dead) (.run (.leaf (.bool true))))))))))) (.pick 11 1 (.node 12 (.node 13 (.dead) (.node 14 (.dead) (.node 15 (.dead) (.node 16 (.dead) (.node 17 (.dead) (.node 18 (.dead) (.node 19 (.dead) (.run (.leaf (.bool true)))))))))) (.dead)) (.pick 11 2 (.node 12 (.node 13 (.node 14 (.dead) (.node 15 (.dead) (.node 16 (.dead) (.node 17 (.dead) (.node 18 (.dead) (.node 19 (.dead) (.run (.leaf (.bool true))))))))) (.dead)) (.dead)) (.pick 11 3 (.node 12 (.node 13 (.node 14 (.node 15 (.dead) (.node 16 (.dead) (.node 17 (.dead) (.node 18 (.dead) (.node 19 (.dead) (.run (.leaf (.bool true)))))))) (.dead)) (.dead)) (.dead)) (.pick 11 4 (.node 12 (.node 13 (.node 14 (.node 15 (.node 16 (.dead) (.node 17 (.dead) (.node 18 (.dead) (.node 19 (.dead) (.run (.leaf (.bool true))))))) (.dead)) (.dead)) (.dead)) (.dead)) (.pick 11 5 (.node 12 (.node 13 (.node 14 (.node 15 (.node 16 (.node 17 (.dead) (.node 18 (.dead) (.node 19 (.dead) (.run (.leaf (.bool true)))))) (.dead)) (.dead)) (.dead)) (.dead)) (.dead)) (.pick 11 6 (.node 12 (.node 13 (.node 14 (.node 15 (.node 16 (.node 17 (.node 18 (.dead) (.node 19 (.dead) (.run (.leaf (.bool true))))) (.dead)) (.dead)) (.dead)) (.dead)) (.dead)) (.dead)) (.pick 11 7 (.node 12 (.node 13 (.node 14 (.node 15 (.node 16 (.node 17 (.node 18 (.node 19 (.dead) (.run (.leaf (.bool true)))) (.dead)) (.dead)) (.dead)) (.dead)) (.dead)) (.dead)) (.dead)) (.pick 11 8 (.node 12 (.node 13 (.node 14 (.node 15 (.node 16 (.node 17 (.node 18 (.node 19 (.run (.leaf (.bool true))) (.dead)) (.dead)) (.dead)) (.dead)) (.dead)) (.dead)) (.dead)) (.dead)) (.dead)))))))))

def ftIns : List Sh := [.agg [.i .i64, .i .u8, .i .u8, .i .u8, .i .u8, .i .u8, .i .u8, .i .u8, .i .u8], .one (.i .u8)]
def ftFs : Nat → List Int → List Int := fun _ _ => [1]
def ftTbl : List Ent := [⟨15, ftIns, [.one .b], 0⟩, ⟨19, [], [.one .b], 1⟩]
def ftS0 : Shape := ⟨argT 0 [.agg [.symi .i64 0, .symi .u8 1, .symi .u8 2, .symi .u8 3, .symi .u8 4, .symi .u8 5, .symi .u8 6, .symi .u8 7, .symi .u8 8], .symi .u8 9, .row 0], []⟩
def ftRows : List RowS := [⟨.symi .i64 10, []⟩, ⟨.symi .i64 11, [(.int .i64 0, [.symi .u8 12]), (.int .i64 1, [.symi .u8 13]), (.int .i64 2, [.symi .u8 14]), (.int .i64 3, [.symi .u8 15]), (.int .i64 4, [.symi .u8 16]), (.int .i64 5, [.symi .u8 17]), (.int .i64 6, [.symi .u8 18]), (.int .i64 7, [.symi .u8 19])]⟩]
def ftCuts : List (Nat × AVal × Nat) := [(0, .symi .i64 20, 1)]
def ftInK : List (Option IntKind) := [some .i64, some .u8, some .u8, some .u8, some .u8, some .u8, some .u8, some .u8, some .u8, some .u8, some .i64, some .i64, some .u8, some .u8, some .u8, some .u8, some .u8, some .u8, some .u8, some .u8]
def ftE : Shape := ⟨[(6, .bool true)], []⟩

def alX : Ing := { m := 10, ins := (cellsOf ftIns).map kindC, G := alG, T := alT }
theorem al_ok : okG alG 10 = true := by kernel_rfl
theorem al_lt : okLT 10 alG alT = true := by kernel_rfl
theorem al_run : okW (fun F => (evD Try.prog (cxOf alX) true 1000 40).1 F 15 (symSh ftIns 0) ⟨[], []⟩) alW [] = true := by kernel_rfl

set_option maxRecDepth 100000 in
theorem al_contract : FnOk Try.prog 15 ftIns [.one .b] (fun _ => [1]) :=
  fn_of_run (X := alX) (W := alW) mixed ⟨rfl, rfl, rfl, rfl, rfl⟩ al_ok al_lt (fun F => no_hooks rfl F) al_run (fun l σ hl e _ _ _ => by
    have e10 : σ.ival 10 = (if 8 < σ.ival 0 then 8 else σ.ival 0) := eqI (e.at 0 _ rfl rfl) rfl
    have e11 : σ.ival 11 = (if σ.ival 10 > 0 then σ.ival 10 else 0) := eqI (e.at 1 _ rfl rfl) rfl
    have e12 : σ.bval 12 = decide (0 < σ.ival 0) := eqB (e.at 2 _ rfl rfl) rfl
    have e13 : σ.bval 13 = decide (1 < σ.ival 0) := eqB (e.at 3 _ rfl rfl) rfl
    have e14 : σ.bval 14 = decide (2 < σ.ival 0) := eqB (e.at 4 _ rfl rfl) rfl
    have e15 : σ.bval 15 = decide (3 < σ.ival 0) := eqB (e.at 5 _ rfl rfl) rfl
    have e16 : σ.bval 16 = decide (4 < σ.ival 0) := eqB (e.at 6 _ rfl rfl) rfl
    have e17 : σ.bval 17 = decide (5 < σ.ival 0) := eqB (e.at 7 _ rfl rfl) rfl
    have e18 : σ.bval 18 = decide (6 < σ.ival 0) := eqB (e.at 8 _ rfl rfl) rfl
    have e19 : σ.bval 19 = decide (7 < σ.ival 0) := eqB (e.at 9 _ rfl rfl) rfl
    have k11 : (σ.ival 0 ≤ 0 ∧ σ.ival 11 = 0) ∨ (1 ≤ σ.ival 0 ∧ σ.ival 0 ≤ 8 ∧ σ.ival 11 = σ.ival 0) ∨ (8 < σ.ival 0 ∧ σ.ival 11 = 8) := by
      rw [e11, e10]; split <;> split <;> omega
    simp only [alW, valsW, vals]
    repeat' apply And.intro
    all_goals first
      | exact fun _ => ⟨rfl, trivial⟩
      | (intro hF
         simp only [Holds, Fact.holds, e12, e13, e14, e15, e16, e17, e18, e19, decide_eq_true_eq, decide_eq_false_iff_not, and_true] at hF
         omega))

theorem works_run : isTrue ((evD Try.prog (cxOf noIng) true 1000 40).1 [] 19 [] ⟨[], []⟩) = true := by kernel_rfl
theorem works_contract : FnOk Try.prog 19 [] [.one .b] (fun _ => [1]) := fun l hl w => closed_hook ⟨rfl, rfl, rfl, rfl, rfl, rfl⟩ mixed (fun F => no_hooks rfl F) works_run w

theorem ft_all : ∀ e, e ∈ ftTbl → (cellsOf e.outs).length ≤ 64 ∧ FnOk Try.prog e.f e.ins e.outs (ftFs e.id) := by
  intro e he
  simp only [ftTbl, List.mem_cons, List.not_mem_nil, or_false] at he
  rcases he with rfl | rfl
  · exact ⟨by decide, al_contract⟩
  · exact ⟨by decide, works_contract⟩

/-! ### The law -/

set_option maxRecDepth 100000 in
def ftG : List SDef := [.low [.symi .i64 10, .int .i64 20],
  .conv .u8 (.symi .i64 0),
  .bin .rem (.symi .u8 21) (.int .u8 12),
  .conv .i64 (.symi .u8 22),
  .bin .sub (.symi .i64 23) (.int .i64 2),
  .fnb 0 [.symi .i64 0, .symi .u8 1, .symi .u8 2, .symi .u8 3, .symi .u8 4, .symi .u8 5, .symi .u8 6, .symi .u8 7, .symi .u8 8, .symi .u8 9],
  .fnb 0 [.symi .i64 24, .symi .u8 1, .symi .u8 2, .symi .u8 3, .symi .u8 4, .symi .u8 5, .symi .u8 6, .symi .u8 7, .symi .u8 8, .symi .u8 9],
  .fnb 0 [.int .i64 0, .int .u8 0, .int .u8 0, .int .u8 0, .int .u8 0, .int .u8 0, .int .u8 0, .int .u8 0, .int .u8 0, .symi .u8 9],
  .fnb 0 [.int .i64 1, .symi .u8 12, .int .u8 0, .int .u8 0, .int .u8 0, .int .u8 0, .int .u8 0, .int .u8 0, .int .u8 0, .symi .u8 9],
  .fnb 0 [.int .i64 2, .symi .u8 12, .symi .u8 13, .int .u8 0, .int .u8 0, .int .u8 0, .int .u8 0, .int .u8 0, .int .u8 0, .symi .u8 9],
  .fnb 0 [.int .i64 3, .symi .u8 12, .symi .u8 13, .symi .u8 14, .int .u8 0, .int .u8 0, .int .u8 0, .int .u8 0, .int .u8 0, .symi .u8 9],
  .fnb 0 [.int .i64 4, .symi .u8 12, .symi .u8 13, .symi .u8 14, .symi .u8 15, .int .u8 0, .int .u8 0, .int .u8 0, .int .u8 0, .symi .u8 9],
  .fnb 0 [.int .i64 5, .symi .u8 12, .symi .u8 13, .symi .u8 14, .symi .u8 15, .symi .u8 16, .int .u8 0, .int .u8 0, .int .u8 0, .symi .u8 9],
  .fnb 0 [.int .i64 6, .symi .u8 12, .symi .u8 13, .symi .u8 14, .symi .u8 15, .symi .u8 16, .symi .u8 17, .int .u8 0, .int .u8 0, .symi .u8 9],
  .fnb 0 [.int .i64 7, .symi .u8 12, .symi .u8 13, .symi .u8 14, .symi .u8 15, .symi .u8 16, .symi .u8 17, .symi .u8 18, .int .u8 0, .symi .u8 9],
  .fnb 0 [.int .i64 8, .symi .u8 12, .symi .u8 13, .symi .u8 14, .symi .u8 15, .symi .u8 16, .symi .u8 17, .symi .u8 18, .symi .u8 19, .symi .u8 9]]

set_option maxRecDepth 100000 in
def ftT : LT := .n (.n (.n (.n (.n (.e) 332 21 (.conv .u8 (.symi .i64 0)) (.e)) 39608140 34 (.fnb 0 [.int .i64 7, .symi .u8 12, .symi .u8 13, .symi .u8 14, .symi .u8 15, .symi .u8 16, .symi .u8 17, .symi .u8 18, .int .u8 0, .symi .u8 9]) (.e)) 50419547 33 (.fnb 0 [.int .i64 6, .symi .u8 12, .symi .u8 13, .symi .u8 14, .symi .u8 15, .symi .u8 16, .symi .u8 17, .int .u8 0, .int .u8 0, .symi .u8 9]) (.n (.e) 117168021 35 (.fnb 0 [.int .i64 8, .symi .u8 12, .symi .u8 13, .symi .u8 14, .symi .u8 15, .symi .u8 16, .symi .u8 17, .symi .u8 18, .symi .u8 19, .symi .u8 9]) (.e))) 118523476 23 (.conv .i64 (.symi .u8 22)) (.n (.n (.e) 175633709 24 (.bin .sub (.symi .i64 23) (.int .i64 2)) (.e)) 206696397 27 (.fnb 0 [.int .i64 0, .int .u8 0, .int .u8 0, .int .u8 0, .int .u8 0, .int .u8 0, .int .u8 0, .int .u8 0, .int .u8 0, .symi .u8 9]) (.n (.e) 384157648 32 (.fnb 0 [.int .i64 5, .symi .u8 12, .symi .u8 13, .symi .u8 14, .symi .u8 15, .symi .u8 16, .int .u8 0, .int .u8 0, .int .u8 0, .symi .u8 9]) (.e)))) 554280434 31 (.fnb 0 [.int .i64 4, .symi .u8 12, .symi .u8 13, .symi .u8 14, .symi .u8 15, .int .u8 0, .int .u8 0, .int .u8 0, .int .u8 0, .symi .u8 9]) (.n (.n (.n (.e) 597921292 25 (.fnb 0 [.symi .i64 0, .symi .u8 1, .symi .u8 2, .symi .u8 3, .symi .u8 4, .symi .u8 5, .symi .u8 6, .symi .u8 7, .symi .u8 8, .symi .u8 9]) (.e)) 664705675 26 (.fnb 0 [.symi .i64 24, .symi .u8 1, .symi .u8 2, .symi .u8 3, .symi .u8 4, .symi .u8 5, .symi .u8 6, .symi .u8 7, .symi .u8 8, .symi .u8 9]) (.n (.e) 704992599 28 (.fnb 0 [.int .i64 1, .symi .u8 12, .int .u8 0, .int .u8 0, .int .u8 0, .int .u8 0, .int .u8 0, .int .u8 0, .int .u8 0, .symi .u8 9]) (.e))) 706918983 29 (.fnb 0 [.int .i64 2, .symi .u8 12, .symi .u8 13, .int .u8 0, .int .u8 0, .int .u8 0, .int .u8 0, .int .u8 0, .int .u8 0, .symi .u8 9]) (.n (.n (.e) 853176011 30 (.fnb 0 [.int .i64 3, .symi .u8 12, .symi .u8 13, .symi .u8 14, .int .u8 0, .int .u8 0, .int .u8 0, .int .u8 0, .int .u8 0, .symi .u8 9]) (.e)) 1047875301 22 (.bin .rem (.symi .u8 21) (.int .u8 12)) (.n (.e) 1070441404 20 (.low [.symi .i64 10, .int .i64 20]) (.e))))

set_option maxRecDepth 100000 in
def ftW : Sw := .pick 11 0 (.node 25 (.node 26 (.node 27 (.run (.leaf .ret ftE [] [] [])) (.dead)) (.dead)) (.dead)) (.pick 11 1 (.node 25 (.node 26 (.node 28 (.run (.leaf .ret ftE [] [] [])) (.dead)) (.dead)) (.dead)) (.pick 11 2 (.node 25 (.node 26 (.node 29 (.run (.leaf .ret ftE [] [] [])) (.dead)) (.dead)) (.dead)) (.pick 11 3 (.node 25 (.node 26 (.node 30 (.run (.leaf .ret ftE [] [] [])) (.dead)) (.dead)) (.dead)) (.pick 11 4 (.node 25 (.node 26 (.node 31 (.run (.leaf .ret ftE [] [] [])) (.dead)) (.dead)) (.dead)) (.pick 11 5 (.node 25 (.node 26 (.node 32 (.run (.leaf .ret ftE [] [] [])) (.dead)) (.dead)) (.dead)) (.pick 11 6 (.node 25 (.node 26 (.node 33 (.run (.leaf .ret ftE [] [] [])) (.dead)) (.dead)) (.dead)) (.pick 11 7 (.node 25 (.node 26 (.node 34 (.run (.leaf .ret ftE [] [] [])) (.dead)) (.dead)) (.dead)) (.pick 11 8 (.node 25 (.node 26 (.node 35 (.run (.leaf .ret ftE [] [] [])) (.dead)) (.dead)) (.dead)) (.pick 11 9 (.node 25 (.node 26 (.node 35 (.run (.leaf .ret ftE [] [] [])) (.dead)) (.dead)) (.dead)) (.pick 11 10 (.node 25 (.node 26 (.node 35 (.run (.leaf .ret ftE [] [] [])) (.dead)) (.dead)) (.dead)) (.pick 11 11 (.node 25 (.node 26 (.node 35 (.run (.leaf .ret ftE [] [] [])) (.dead)) (.dead)) (.dead)) (.pick 11 12 (.node 25 (.node 26 (.node 35 (.run (.leaf .ret ftE [] [] [])) (.dead)) (.dead)) (.dead)) (.pick 11 13 (.node 25 (.node 26 (.node 35 (.run (.leaf .ret ftE [] [] [])) (.dead)) (.dead)) (.dead)) (.pick 11 14 (.node 25 (.node 26 (.node 35 (.run (.leaf .ret ftE [] [] [])) (.dead)) (.dead)) (.dead)) (.pick 11 15 (.node 25 (.node 26 (.node 35 (.run (.leaf .ret ftE [] [] [])) (.dead)) (.dead)) (.dead)) (.pick 11 16 (.node 25 (.node 26 (.node 35 (.run (.leaf .ret ftE [] [] [])) (.dead)) (.dead)) (.dead)) (.pick 11 17 (.node 25 (.node 26 (.node 35 (.run (.leaf .ret ftE [] [] [])) (.dead)) (.dead)) (.dead)) (.pick 11 18 (.node 25 (.node 26 (.node 35 (.run (.leaf .ret ftE [] [] [])) (.dead)) (.dead)) (.dead)) (.pick 11 19 (.node 25 (.node 26 (.node 35 (.run (.leaf .ret ftE [] [] [])) (.dead)) (.dead)) (.dead)) (.pick 11 20 (.node 25 (.node 26 (.node 35 (.run (.leaf .ret ftE [] [] [])) (.dead)) (.dead)) (.dead)) (.dead)))))))))))))))))))))

def ftX : Ing := { m := 20, ins := ftInK, G := ftG, T := ftT, hook := tblHook (tabOf ftFs) ftTbl, tab := tabOf ftFs, rows := ftRows, cuts := ftCuts }
theorem ft_ok : okG ftG 20 = true := by kernel_rfl
theorem ft_lt : okLT 20 ftG ftT = true := by kernel_rfl
theorem ft_id : idOk ftS0 20 = true := by kernel_rfl
theorem ft_reck : okSw (fun F => runL Try.prog (cxOf ftX) true 1000 (evD Try.prog (cxOf ftX) true 1000 40).1 (evD Try.prog (cxOf ftX) true 1000 40).2 [bodyOf Try.f3] F (tmOf ftS0 46) ⟨ftS0.heap, []⟩) ftW [] = true := by kernel_rfl

theorem hbody : Try.f3.body = some (bodyOf Try.f3) := by kernel_rfl
theorem hnt : Try.f3.ntmps = 46 := by kernel_rfl
theorem hres : Try.f3.results.toList = [.tmp 6] := by kernel_rfl

/-- the byte at j, where there is one -/
def byteAt (X : Fz) (j : Nat) : Int := if j < min X.len 20 then iOf (X.val j 0) else 0
def nums (l0 : List Int) (b : Int) (X : Fz) : List Int := l0 ++ [b, X.len, (min X.len 20 : Nat), byteAt X 0, byteAt X 1, byteAt X 2, byteAt X 3, byteAt X 4, byteAt X 5, byteAt X 6, byteAt X 7]
def sig (l0 : List Int) (b : Int) (X : Fz) : Sig :=
  ⟨fun i => (nums l0 b X).getD i 0, fun _ => false, fun _ => .empty, tabOf ftFs, fun i => if i = 0 then some X else if i = 1 then some ⟨X.blk, X.off, X.z, min X.len 20, X.val⟩ else none⟩

theorem el_byte {W : World} {v : Value} {X : Fz} (r : RowV W [.i .u8] v X) {j : Nat} (hj : j < X.len) : ∃ n, X.val j 0 = .int .u8 n ∧ IntKind.u8.wrap n = n := by
  obtain ⟨l, h1, h2⟩ := r.els j hj
  have := h2 0 (by decide)
  match l, h1 with
  | [n], h1 =>
    rw [this]
    exact ⟨_, rfl, by rw [wrap_wrap]⟩

theorem byte_in {W : World} {v : Value} {X : Fz} (r : RowV W [.i .u8] v X) (j : Nat) : IntKind.u8.wrap (byteAt X j) = byteAt X j := by
  unfold byteAt
  split
  · obtain ⟨n, h1, h2⟩ := el_byte r (j := j) (by omega)
    rw [h1]; exact h2
  · rfl

set_option maxRecDepth 100000 in
theorem walk (W : World) (l0 : List Int) (i0 : InR [.i .i64, .i .u8, .i .u8, .i .u8, .i .u8, .i .u8, .i .u8, .i .u8, .i .u8] l0) (n1 : Int) (i1 : InR [.i .u8] [n1]) (v2 : Value) (X2 : Fz) (r2 : RowV W [.i .u8] v2 X2) :
    Calls Try.prog 3 #[.agg (encCs [.i .i64, .i .u8, .i .u8, .i .u8, .i .u8, .i .u8, .i .u8, .i .u8, .i .u8] l0).toArray, encC (.i .u8) n1, v2] W fun e W' => e = .returned (.bool true) ∧ Below W.heap.size W W' := by
  match l0, i0 with
  | [a0, a1, a2, a3, a4, a5, a6, a7, a8], i0 =>
  obtain ⟨w0, w1, w2, w3, w4, w5, w6, w7, w8, _⟩ := i0
  have wb : IntKind.u8.wrap n1 = n1 := i1.1
  refine calls_body Try.func3 hbody ?_
  rw [hnt]
  have hz : ∀ i Y, (sig [a0, a1, a2, a3, a4, a5, a6, a7, a8] n1 X2).ext i = some Y → 0 < Y.len → FzOk Y W := by
    intro i Y hi hl
    have hi : (if i = 0 then some X2 else if i = 1 then some ⟨X2.blk, X2.off, X2.z, min X2.len 20, X2.val⟩ else none) = some Y := hi
    split at hi
    · cases hi; exact r2.ok hl
    · split at hi
      · cases hi
        have hl : 0 < min X2.len 20 := hl
        obtain ⟨C, e, fr, h1, h2⟩ := r2.ok (by omega)
        exact ⟨C, e, fr, h1, fun m j hm hj => h2 m j (by have hm : m < min X2.len 20 := hm; omega) hj⟩
      · cases hi
  have hargs : LRel ⟨fun _ => none, sig [a0, a1, a2, a3, a4, a5, a6, a7, a8] n1 X2, fun _ => none⟩
      [.agg [.symi .i64 0, .symi .u8 1, .symi .u8 2, .symi .u8 3, .symi .u8 4, .symi .u8 5, .symi .u8 6, .symi .u8 7, .symi .u8 8], .symi .u8 9, .row 0]
      [.agg (encCs [.i .i64, .i .u8, .i .u8, .i .u8, .i .u8, .i .u8, .i .u8, .i .u8, .i .u8] [a0, a1, a2, a3, a4, a5, a6, a7, a8]).toArray, encC (.i .u8) n1, v2] := by
    refine .cons _ _ _ _ (.agg _ _ ?_) (.cons _ _ _ _ ?_ (.cons _ _ _ _ (r2.rel _ 0 rfl) .nil))
    · simp only [encCs, encC, List.headD_cons, List.tail_cons, w0, show IntKind.u8.wrap a1 = a1 from w1, show IntKind.u8.wrap a2 = a2 from w2, show IntKind.u8.wrap a3 = a3 from w3, show IntKind.u8.wrap a4 = a4 from w4, show IntKind.u8.wrap a5 = a5 from w5, show IntKind.u8.wrap a6 = a6 from w6, show IntKind.u8.wrap a7 = a7 from w7, show IntKind.u8.wrap a8 = a8 from w8, show IntKind.i64.wrap a0 = a0 from w0]
      exact .cons _ _ _ _ (.symi .i64 0) (.cons _ _ _ _ (.symi .u8 1) (.cons _ _ _ _ (.symi .u8 2) (.cons _ _ _ _ (.symi .u8 3) (.cons _ _ _ _ (.symi .u8 4) (.cons _ _ _ _ (.symi .u8 5) (.cons _ _ _ _ (.symi .u8 6) (.cons _ _ _ _ (.symi .u8 7) (.cons _ _ _ _ (.symi .u8 8) .nil))))))))
    · simp only [encC, wb]
      exact .symi .u8 9
  have hS : At (tabOf ftFs) ftS0 46 (sig [a0, a1, a2, a3, a4, a5, a6, a7, a8] n1 X2) W _ W := at_start (tab := tabOf ftFs) (args' := #[.agg (encCs [.i .i64, .i .u8, .i .u8, .i .u8, .i .u8, .i .u8, .i .u8, .i .u8, .i .u8] [a0, a1, a2, a3, a4, a5, a6, a7, a8]).toArray, encC (.i .u8) n1, v2]) rfl hargs (n := 46) (by show 3 ≤ 46; decide) W hz
  have ag := agree_solve ftG 20 (sig [a0, a1, a2, a3, a4, a5, a6, a7, a8] n1 X2)
  have hsz : X2.z = 1 := r2.z
  have hin : InsOk (sig [a0, a1, a2, a3, a4, a5, a6, a7, a8] n1 X2) 20 ftInK := by
    intro i k hi hk
    have h20 : i = 0 ∨ i = 1 ∨ i = 2 ∨ i = 3 ∨ i = 4 ∨ i = 5 ∨ i = 6 ∨ i = 7 ∨ i = 8 ∨ i = 9 ∨ i = 10 ∨ i = 11 ∨ i = 12 ∨ i = 13 ∨ i = 14 ∨ i = 15 ∨ i = 16 ∨ i = 17 ∨ i = 18 ∨ i = 19 := by omega
    have hl := r2.len
    have ew : ∀ n : Int, 0 ≤ n → n ≤ 9223372036854775807 → IntKind.i64.wrap n = n := by
      intro n h1 h2
      simp [IntKind.wrap, IntKind.bits, IntKind.signed]; omega
    rcases h20 with rfl | rfl | rfl | rfl | rfl | rfl | rfl | rfl | rfl | rfl | rfl | rfl | rfl | rfl | rfl | rfl | rfl | rfl | rfl | rfl <;>
      (simp only [ftInK, List.getElem?_cons_zero, List.getElem?_cons_succ, Option.getD_some, Option.some.injEq] at hk
       subst hk
       first | exact w0 | exact w1 | exact w2 | exact w3 | exact w4 | exact w5 | exact w6 | exact w7 | exact w8 | exact wb | exact byte_in r2 _ | exact ew _ (by simp [sig, nums]) (by simp [sig, nums]; omega))
  have hbyte : ∀ j : Nat, j < min X2.len 20 → .int .u8 (byteAt X2 j) = X2.val j 0 := by
    intro j hj
    obtain ⟨n, h1, h2⟩ := el_byte r2 (j := j) (by omega)
    unfold byteAt
    rw [if_pos hj, h1]; rfl
  have v : ∀ i, i < 20 → (solve ftG 20 (sig [a0, a1, a2, a3, a4, a5, a6, a7, a8] n1 X2)).ival i = (nums [a0, a1, a2, a3, a4, a5, a6, a7, a8] n1 X2).getD i 0 := fun i hi => (ag.val i hi).1.symm
  have hrows : RowsOk (solve ftG 20 (sig [a0, a1, a2, a3, a4, a5, a6, a7, a8] n1 X2)) ftRows := by
    intro i r Y hr hY
    rw [← ag.ext] at hY
    have hY : (if i = 0 then some X2 else if i = 1 then some ⟨X2.blk, X2.off, X2.z, min X2.len 20, X2.val⟩ else none) = some Y := hY
    split at hY
    · rename_i h0
      subst h0
      cases hY
      simp only [ftRows, List.getElem?_cons_zero, Option.some.injEq] at hr
      subst hr
      refine ⟨?_, fun p hp => by cases hp⟩
      show AVal.int .i64 _ = _
      rw [v 10 (by decide)]; rfl
    · split at hY
      · rename_i _ h1
        subst h1
        cases hY
        simp only [ftRows, List.getElem?_cons_zero, List.getElem?_cons_succ, Option.some.injEq] at hr
        subst hr
        refine ⟨?_, fun p hp m hm hlt => ?_⟩
        · show AVal.int .i64 _ = _
          rw [v 11 (by decide)]; rfl
        · have hlt : m < min X2.len 20 := hlt
          have one : ∀ (j : Nat) (u : Nat), u < 20 → p = (.int .i64 (j : Int), [.symi .u8 u]) → (nums [a0, a1, a2, a3, a4, a5, a6, a7, a8] n1 X2).getD u 0 = byteAt X2 j → p.2.length = X2.z ∧ ∀ (j : Nat) (c : AVal), p.2[j]? = some c → den (solve ftG 20 (sig [a0, a1, a2, a3, a4, a5, a6, a7, a8] n1 X2)) c = X2.val m j := by
            rintro j u hu rfl hn
            simp only [den, AVal.int.injEq, true_and] at hm
            have hjm : j = m := by omega
            subst hjm
            refine ⟨hsz.symm, fun i c hc => ?_⟩
            cases i with
            | zero =>
              simp only [List.getElem?_cons_zero, Option.some.injEq] at hc
              subst hc
              show AVal.int .u8 _ = _
              rw [v u hu, hn]; exact hbyte j hlt
            | succ i => simp at hc
          simp only [List.mem_cons, List.not_mem_nil, or_false] at hp
          rcases hp with rfl | rfl | rfl | rfl | rfl | rfl | rfl | rfl
          · exact one 0 12 (by decide) rfl rfl
          · exact one 1 13 (by decide) rfl rfl
          · exact one 2 14 (by decide) rfl rfl
          · exact one 3 15 (by decide) rfl rfl
          · exact one 4 16 (by decide) rfl rfl
          · exact one 5 17 (by decide) rfl rfl
          · exact one 6 18 (by decide) rfl rfl
          · exact one 7 19 (by decide) rfl rfl
      · cases hY
  have e := eqs_solve (m := 20) (G := ftG) (σ := sig [a0, a1, a2, a3, a4, a5, a6, a7, a8] n1 X2) ft_ok
  have htab : (solve ftG 20 (sig [a0, a1, a2, a3, a4, a5, a6, a7, a8] n1 X2)).tab = tabOf ftFs := ag.tab.symm
  have v10 := v 10 (by decide)
  have v11 := v 11 (by decide)
  have u10 : (solve ftG 20 (sig [a0, a1, a2, a3, a4, a5, a6, a7, a8] n1 X2)).ival 10 = X2.len := v10
  have u11 : (solve ftG 20 (sig [a0, a1, a2, a3, a4, a5, a6, a7, a8] n1 X2)).ival 11 = (min X2.len 20 : Nat) := v11
  have hext := ag.ext
  have key : ∀ τ : Sig, Eqs τ 20 ftG → τ.tab = tabOf ftFs → τ.ival 10 = X2.len → τ.ival 11 = (min X2.len 20 : Nat) → (∀ i, τ.ext i = (sig [a0, a1, a2, a3, a4, a5, a6, a7, a8] n1 X2).ext i) →
      CutsOk τ ftCuts ∧ segsW τ (fun x s _ => x = .ret ∧ s = ftE) ftW [] := by
    intro τ e ht u10 u11 hx
    have X : Sig := τ
    have e20 : τ.ival 20 = (if 20 < τ.ival 10 then 20 else τ.ival 10) := eqI (e.at 0 _ rfl rfl) rfl
    have e25 : τ.bval 25 = (!(τ.tab 0 [τ.ival 0, τ.ival 1, τ.ival 2, τ.ival 3, τ.ival 4, τ.ival 5, τ.ival 6, τ.ival 7, τ.ival 8, τ.ival 9] == 0)) := eqB (e.at 5 _ rfl rfl) rfl
    have e26 : τ.bval 26 = (!(τ.tab 0 [τ.ival 24, τ.ival 1, τ.ival 2, τ.ival 3, τ.ival 4, τ.ival 5, τ.ival 6, τ.ival 7, τ.ival 8, τ.ival 9] == 0)) := eqB (e.at 6 _ rfl rfl) rfl
    have e27 : τ.bval 27 = (!(τ.tab 0 [0, 0, 0, 0, 0, 0, 0, 0, 0, τ.ival 9] == 0)) := eqB (e.at 7 _ rfl rfl) rfl
    have e28 : τ.bval 28 = (!(τ.tab 0 [1, τ.ival 12, 0, 0, 0, 0, 0, 0, 0, τ.ival 9] == 0)) := eqB (e.at 8 _ rfl rfl) rfl
    have e29 : τ.bval 29 = (!(τ.tab 0 [2, τ.ival 12, τ.ival 13, 0, 0, 0, 0, 0, 0, τ.ival 9] == 0)) := eqB (e.at 9 _ rfl rfl) rfl
    have e30 : τ.bval 30 = (!(τ.tab 0 [3, τ.ival 12, τ.ival 13, τ.ival 14, 0, 0, 0, 0, 0, τ.ival 9] == 0)) := eqB (e.at 10 _ rfl rfl) rfl
    have e31 : τ.bval 31 = (!(τ.tab 0 [4, τ.ival 12, τ.ival 13, τ.ival 14, τ.ival 15, 0, 0, 0, 0, τ.ival 9] == 0)) := eqB (e.at 11 _ rfl rfl) rfl
    have e32 : τ.bval 32 = (!(τ.tab 0 [5, τ.ival 12, τ.ival 13, τ.ival 14, τ.ival 15, τ.ival 16, 0, 0, 0, τ.ival 9] == 0)) := eqB (e.at 12 _ rfl rfl) rfl
    have e33 : τ.bval 33 = (!(τ.tab 0 [6, τ.ival 12, τ.ival 13, τ.ival 14, τ.ival 15, τ.ival 16, τ.ival 17, 0, 0, τ.ival 9] == 0)) := eqB (e.at 13 _ rfl rfl) rfl
    have e34 : τ.bval 34 = (!(τ.tab 0 [7, τ.ival 12, τ.ival 13, τ.ival 14, τ.ival 15, τ.ival 16, τ.ival 17, τ.ival 18, 0, τ.ival 9] == 0)) := eqB (e.at 14 _ rfl rfl) rfl
    have e35 : τ.bval 35 = (!(τ.tab 0 [8, τ.ival 12, τ.ival 13, τ.ival 14, τ.ival 15, τ.ival 16, τ.ival 17, τ.ival 18, τ.ival 19, τ.ival 9] == 0)) := eqB (e.at 15 _ rfl rfl) rfl
    rw [ht] at e25 e26 e27 e28 e29 e30 e31 e32 e33 e34 e35
    have t25 : τ.bval 25 = true := by rw [e25]; rfl
    have t26 : τ.bval 26 = true := by rw [e26]; rfl
    have t27 : τ.bval 27 = true := by rw [e27]; rfl
    have t28 : τ.bval 28 = true := by rw [e28]; rfl
    have t29 : τ.bval 29 = true := by rw [e29]; rfl
    have t30 : τ.bval 30 = true := by rw [e30]; rfl
    have t31 : τ.bval 31 = true := by rw [e31]; rfl
    have t32 : τ.bval 32 = true := by rw [e32]; rfl
    have t33 : τ.bval 33 = true := by rw [e33]; rfl
    have t34 : τ.bval 34 = true := by rw [e34]; rfl
    have t35 : τ.bval 35 = true := by rw [e35]; rfl
    constructor
    · intro p hp Y hY
      simp only [ftCuts, List.mem_singleton] at hp
      subst hp
      rw [hx] at hY
      have hY : some X2 = some Y := hY
      cases hY
      refine ⟨⟨X2.blk, X2.off, X2.z, min X2.len 20, X2.val⟩, by rw [hx]; rfl, rfl, rfl, Nat.min_le_left _ _, ?_⟩
      show AVal.int .i64 (τ.ival 20) = .int .i64 ((min X2.len 20 : Nat) : Int)
      rw [e20, u10]
      congr 1
      split <;> omega
    · simp only [ftW, segsW, segs]
      repeat' apply And.intro
      all_goals first
        | exact fun _ => ⟨trivial, trivial⟩
        | (intro hF
           simp only [Holds, Fact.holds, t25, t26, t27, t28, t29, t30, t31, t32, t33, t34, t35, reduceCtorEq, Bool.true_eq_false, false_and] at hF
           done)
        | (intro hF
           simp only [Holds, Fact.holds, u11, and_true] at hF
           omega)
  obtain ⟨hcuts, hob⟩ := key _ e htab u10 u11 (fun i => by rw [← hext])
  have := segL (c := [bodyOf Try.f3]) (X := ftX) (W := ftW) (Q0 := fun x s _ => x = .ret ∧ s = ftE) (K := bodyPost Try.prog Try.f3 (fun e w' => e = .returned (.bool true) ∧ Below W.heap.size W w') .normal) (Z := bodyPost Try.prog Try.f3 (fun e w' => e = .returned (.bool true) ∧ Below W.heap.size W w'))
    mixed ft_lt ft_ok (fun F => tbl_hooks ft_lt rfl rfl ft_all F) rfl ft_id ft_reck hS hin hob (by
      rintro e a' w' x s2 σ2 hx ⟨rfl, rfl⟩ hA
      rw [then_self]
      exact at_end hres hA (by simp [ftE]) (.inl hx)) hrows hcuts
  simp only [chainK, then_self] at this
  exact this

section
variable {H : Type} {enc : TypeId × Value → H} {P : Program}
theorem post_of_below {f : Func} {s : ChangeSpec} {apart fresh handsOn again : Bool} {W W' : World} {args : Array Value} {v : Value} {ds gs : List (DataW H)} {before pa pv : List MemPlace}
    (hW : DataW.Whole enc P f.params.toList s.vars apart W args.toList ds gs before)
    (hres : ∀ (b : Nat) (sp : Nat → Bool) (hd : Bool), DataW.TrodAll enc P W' b sp hd f.resultTypes.toList (v.resultList f.resultTypes.size) (s.fn H (ds ++ gs)).results [])
    (hargs : ∀ sp : Nat → Bool, (∀ p ∈ before, sp p.block = true) → DataW.TrodAll enc P W' 0 sp true f.params.toList args.toList (s.fn H (ds ++ gs)).args pa)
    (hvars : ∀ sp : Nat → Bool, (∀ p ∈ before, sp p.block = true) → DataW.TrodVars enc P W' sp s.vars (s.fn H (ds ++ gs)).vars pv)
    (hps : before = pa ++ pv) (hb : Below W.heap.size W W')
    (hok : ∀ (j : Nat) (t : TypeId) (r : Value), f.resultTypes[j]? = some t → (v.resultList f.resultTypes.size)[j]? = some r → Value.okWide P W' .any 0 t r) :
    s.post enc P f apart fresh handsOn again W args v W' := by
  have hlt : ∀ p ∈ before, p.block < W.heap.size := fun p hp => hW.lt p hp
  have hold : ∀ p ∈ before, (fun b => decide (b < W.heap.size)) p.block = true := fun p hp => by simpa using hlt p hp
  refine ⟨ds, gs, before, [], pa, pv, hW, hres _ _ _, hargs _ hold, hvars _ hold, World.keptBut_mono (fun p hp => ⟨hp, ?_⟩) (hb.frame (· ∈ before)), fun _ => ?_⟩
  · rw [hps, List.mem_append] at hp
    exact Or.inr hp
  · obtain ⟨_, _, _, _, _, hz, hn⟩ := hW
    refine ⟨hok, _, _, ([] ++ pa) ++ pv, ⟨[] ++ pa, pv, trodAll_append (hargs _ (fun _ _ => rfl)) (hres _ _ _), hvars _ (fun _ _ => rfl), rfl, ?_, ?_⟩, ?_⟩
    · intro b off hp
      have hin : MemPlace.cell b off ∈ before := by rw [hps]; simpa using hp
      rw [hb.frozen (hlt _ hin)]
      exact hz b off hin
    · intro ha
      have := hn ha
      rw [hps] at this
      simpa using this
    · intro p hp _
      rw [hps]
      simpa using hp
end


theorem flat24 : flat Try.prog 4 24 = some [.i .i64, .i .u8, .i .u8, .i .u8, .i .u8, .i .u8, .i .u8, .i .u8, .i .u8] := by kernel_rfl
theorem agg24 : Ev.isAgg Try.prog 24 = true := by kernel_rfl
theorem flat5 : flat Try.prog 4 5 = some [.i .u8] := by kernel_rfl
theorem agg5 : Ev.isAgg Try.prog 5 = false := by kernel_rfl
theorem size5 : Nat.beq (Try.prog.cellsOf 5) ([.i .u8] : List Cl).length = true := by kernel_rfl

set_option maxRecDepth 100000 in
theorem lifted (os : Os) (started : os.Started) (H : Type) (enc : TypeId × Value → H) :
    ReturnsInHanded {} Try.checked os 3 .any (Rows.fifoTellsSpec.pre6 enc Try.prog Try.f3 Rows.fifoTellsRow.domain false) (Rows.fifoTellsSpec.post enc Try.prog Try.f3 false true false false) := by
  refine returnsInHanded_of_change (C := Try.checked) own started (by kernel_rfl) Try.func3
    (ChangeSpec.witness6 (enc := enc) (C := Try.checked) false ⟨#[], #[.agg #[.int .i64 0, .int .u8 0, .int .u8 0, .int .u8 0, .int .u8 0, .int .u8 0, .int .u8 0, .int .u8 0, .int .u8 0], .int .u8 0, .slice none 0 0], []⟩ 8 (by kernel_rfl) (by kernel_rfl) (by kernel_rfl) (by kernel_rfl)) ?_
  intro W base args ds gs before hval0 hW hcnd _
  have hval : ∀ (j : Nat) t v, Try.f3.params[j]? = some t → args[j]? = some v → Value.okWide Try.prog W .any base t v := hval0
  have hW' := hW
  obtain ⟨p, q, hA0, hV, rfl, hfz, hnd⟩ := hW
  have hA : DataW.TrodAll enc Try.prog W 0 (fun _ => true) true Try.f3.params.toList args.toList ds p := hA0
  rw [Try.params3] at hA hval
  obtain ⟨v0, vs0, d0, ds0, p0, q0, hargs, rfl, rfl, h0, r0⟩ := trodAll_cons hA
  obtain ⟨v1, vs1, d1, ds1, p1, q1, rfl, rfl, rfl, h1, r1⟩ := trodAll_cons r0
  obtain ⟨v2, vs2, d2, ds2, p2, q2, rfl, rfl, rfl, h2, r2⟩ := trodAll_cons r1
  obtain ⟨rfl, rfl, rfl⟩ := trodAll_nil r2
  obtain rfl : args = #[v0, v1, v2] := by cases args; simp_all
  obtain ⟨rfl, rfl⟩ := trodVars_none hV
  obtain ⟨l0, i0, rfl, rfl⟩ := open_agg flat24 agg24 (hval 0 24 v0 rfl rfl) h0
  obtain ⟨n1, i1, rfl, rfl⟩ := open_one flat5 agg5 (hval 1 5 v1 rfl rfl) h1
  obtain ⟨X2, R2⟩ := open_rows (cl := [.i .u8]) Try.underlying25 flat5 size5 rfl (hval 2 25 v2 rfl rfl) h2
  clear hA0 hval0
  simp only [List.append_nil] at hW'
  refine (walk W l0 i0 n1 i1 v2 X2 R2.row).mono fun e W' ⟨he, hg⟩ => ?_
  subst he
  exact ⟨_, rfl, post_of_below (pa := [] ++ ([] ++ (p2 ++ ([])))) (pv := []) hW' (fun _ _ _ => (trodAll_cons_mk (shut_bool Try.underlying4 _) trodAll_mk0)) (fun sp hsp => (trodAll_cons_mk (shut_flat flat24 h0) (trodAll_cons_mk (shut_flat flat5 h1) (trodAll_cons_mk (R2.again W' hg sp (fun z hz => hsp z (by simp [hz]))) trodAll_mk0)))) (fun _ _ => rfl) (by simp)
    hg (ok_one (by kernel_rfl) rfl (okWide_bool_mk Try.underlying4 _))⟩

theorem over : Rows.fifoTellsRow.holds Try.pinned (OpenSpec.ofChange Rows.fifoTellsSpec) :=
  OpenClaim.holds_of_wide 3 Try.f3 rfl rfl rfl rfl rfl rfl rfl ⟨rfl, rfl, rfl, rfl, rfl⟩ rfl rfl rfl rfl rfl (by kernel_rfl) Try.func3 (by kernel_rfl)
    (of_decide_eq_true (by kernel_rfl)) (by unfold Func.isWrapper; first | (rw [if_pos (by decide +kernel)]; kernel_rfl) | (rw [if_neg (by decide +kernel)]; exact ⟨rfl, rfl⟩))
    (fun os started H enc _ => lifted os started H enc)

/-- THE STATEMENT -/
theorem proved : Rows.FifoTellsSaid :=
  over
#print axioms proved
end Go.Proofs.Ytgifnmiggloclaa.fifoTells
