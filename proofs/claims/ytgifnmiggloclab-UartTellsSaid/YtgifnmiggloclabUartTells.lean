/-
  UartTells is true: reckoned with unknown numbers; its helper alike, its example and fifo.Mend by their contracts.
  No conditions.
-/
import Derived.Test.YtgifnmiggloclabRows
import Derived.WalkKit
import Derived.ProofKit
import Derived.OpenShut
import Derived.Below
import Derived.ChangeSame
import Derived.Test.YtgifnmiggloclabUc
import Derived.Test.YtgifnmiggloclabEwZ
import Derived.Test.YtgifnmiggloclabEwZb
import Derived.Test.YtgifnmiggloclabEwZc
namespace Go.Proofs.Ytgifnmiggloclab.uartTells
open Go.ChangeShapes Go.WideShapes Go.ChangeAt Go.RowKit
open Go.Ev Go.Proofs.Ytgifnmiggloclab.fc Go.Proofs.Ytgifnmiggloclab.uc
set_option linter.unusedVariables false

theorem own : ownKnob Try.prog.godebug = none := by kernel_rfl

theorem works_run : isTrue ((evD Try.prog (cxOf noIng) true 1000 40).1 [] 19 [] ⟨[], []⟩) = true := by kernel_rfl
theorem works_contract : FnOk Try.prog 19 [] [.one .b] (fun _ => [1]) := fun l hl w => closed_hook ⟨rfl, rfl, rfl, rfl, rfl, rfl⟩ mixed (fun F => no_hooks rfl F) works_run w

def utFs : Nat → List Int → List Int := fun _ => mendF
def utTbl : List Ent := [⟨54, q9, q9, 0⟩]
def utTru : List Ent := [⟨26, ualI, [.one .b], 0⟩, ⟨19, [], [.one .b], 0⟩]
theorem ut_tru : ∀ e, e ∈ utTru → FnOk Try.prog e.f e.ins [.one .b] (fun _ => [1]) := by
  intro e he
  simp only [utTru, List.mem_cons, List.not_mem_nil, or_false] at he
  rcases he with rfl | rfl
  · exact ual_contract
  · exact works_contract
theorem ut_all : ∀ e, e ∈ utTbl → (cellsOf e.outs).length ≤ 64 ∧ FnOk Try.prog e.f e.ins e.outs (utFs e.id) := by
  intro e he
  simp only [utTbl, List.mem_cons, List.not_mem_nil, or_false] at he
  subst he
  exact ⟨by decide, fmend_contract⟩

set_option maxRecDepth 100000 in
def utG : List SDef := [.conv .u8 (.symi .i64 0),
  .conv .i64 (.symi .u8 23),
  .bin .rem (.symi .i64 24) (.int .i64 10),
  .conv .u8 (.symi .i64 9),
  .conv .i64 (.symi .u8 26),
  .bin .rem (.symi .i64 27) (.int .i64 10),
  .bin .rem (.symi .u8 20) (.int .u8 6),
  .fn 0 .i64 [.symi .i64 25, .symi .u8 1, .symi .u8 2, .symi .u8 3, .symi .u8 4, .symi .u8 5, .symi .u8 6, .symi .u8 7, .symi .u8 8],
  .fn 1 .u8 [.symi .i64 25, .symi .u8 1, .symi .u8 2, .symi .u8 3, .symi .u8 4, .symi .u8 5, .symi .u8 6, .symi .u8 7, .symi .u8 8],
  .fn 2 .u8 [.symi .i64 25, .symi .u8 1, .symi .u8 2, .symi .u8 3, .symi .u8 4, .symi .u8 5, .symi .u8 6, .symi .u8 7, .symi .u8 8],
  .fn 3 .u8 [.symi .i64 25, .symi .u8 1, .symi .u8 2, .symi .u8 3, .symi .u8 4, .symi .u8 5, .symi .u8 6, .symi .u8 7, .symi .u8 8],
  .fn 4 .u8 [.symi .i64 25, .symi .u8 1, .symi .u8 2, .symi .u8 3, .symi .u8 4, .symi .u8 5, .symi .u8 6, .symi .u8 7, .symi .u8 8],
  .fn 5 .u8 [.symi .i64 25, .symi .u8 1, .symi .u8 2, .symi .u8 3, .symi .u8 4, .symi .u8 5, .symi .u8 6, .symi .u8 7, .symi .u8 8],
  .fn 6 .u8 [.symi .i64 25, .symi .u8 1, .symi .u8 2, .symi .u8 3, .symi .u8 4, .symi .u8 5, .symi .u8 6, .symi .u8 7, .symi .u8 8],
  .fn 7 .u8 [.symi .i64 25, .symi .u8 1, .symi .u8 2, .symi .u8 3, .symi .u8 4, .symi .u8 5, .symi .u8 6, .symi .u8 7, .symi .u8 8],
  .fn 8 .u8 [.symi .i64 25, .symi .u8 1, .symi .u8 2, .symi .u8 3, .symi .u8 4, .symi .u8 5, .symi .u8 6, .symi .u8 7, .symi .u8 8],
  .fn 0 .i64 [.symi .i64 28, .symi .u8 10, .symi .u8 11, .symi .u8 12, .symi .u8 13, .symi .u8 14, .symi .u8 15, .symi .u8 16, .symi .u8 17],
  .fn 1 .u8 [.symi .i64 28, .symi .u8 10, .symi .u8 11, .symi .u8 12, .symi .u8 13, .symi .u8 14, .symi .u8 15, .symi .u8 16, .symi .u8 17],
  .fn 2 .u8 [.symi .i64 28, .symi .u8 10, .symi .u8 11, .symi .u8 12, .symi .u8 13, .symi .u8 14, .symi .u8 15, .symi .u8 16, .symi .u8 17],
  .fn 3 .u8 [.symi .i64 28, .symi .u8 10, .symi .u8 11, .symi .u8 12, .symi .u8 13, .symi .u8 14, .symi .u8 15, .symi .u8 16, .symi .u8 17],
  .fn 4 .u8 [.symi .i64 28, .symi .u8 10, .symi .u8 11, .symi .u8 12, .symi .u8 13, .symi .u8 14, .symi .u8 15, .symi .u8 16, .symi .u8 17],
  .fn 5 .u8 [.symi .i64 28, .symi .u8 10, .symi .u8 11, .symi .u8 12, .symi .u8 13, .symi .u8 14, .symi .u8 15, .symi .u8 16, .symi .u8 17],
  .fn 6 .u8 [.symi .i64 28, .symi .u8 10, .symi .u8 11, .symi .u8 12, .symi .u8 13, .symi .u8 14, .symi .u8 15, .symi .u8 16, .symi .u8 17],
  .fn 7 .u8 [.symi .i64 28, .symi .u8 10, .symi .u8 11, .symi .u8 12, .symi .u8 13, .symi .u8 14, .symi .u8 15, .symi .u8 16, .symi .u8 17],
  .fn 8 .u8 [.symi .i64 28, .symi .u8 10, .symi .u8 11, .symi .u8 12, .symi .u8 13, .symi .u8 14, .symi .u8 15, .symi .u8 16, .symi .u8 17],
  .bin .eql (.symi .i64 39) (.int .i64 0),
  .bin .geq (.symi .u8 29) (.int .u8 4),
  .ite (.symb 49) (.int .u8 0) (.symi .u8 29),
  .ite (.symb 48) (.int .u8 0) (.symi .u8 50),
  .fn 0 .i64 [.symi .i64 30, .symi .u8 31, .symi .u8 32, .symi .u8 33, .symi .u8 34, .symi .u8 35, .symi .u8 36, .symi .u8 37, .symi .u8 38],
  .fn 1 .u8 [.symi .i64 30, .symi .u8 31, .symi .u8 32, .symi .u8 33, .symi .u8 34, .symi .u8 35, .symi .u8 36, .symi .u8 37, .symi .u8 38],
  .fn 2 .u8 [.symi .i64 30, .symi .u8 31, .symi .u8 32, .symi .u8 33, .symi .u8 34, .symi .u8 35, .symi .u8 36, .symi .u8 37, .symi .u8 38],
  .fn 3 .u8 [.symi .i64 30, .symi .u8 31, .symi .u8 32, .symi .u8 33, .symi .u8 34, .symi .u8 35, .symi .u8 36, .symi .u8 37, .symi .u8 38],
  .fn 4 .u8 [.symi .i64 30, .symi .u8 31, .symi .u8 32, .symi .u8 33, .symi .u8 34, .symi .u8 35, .symi .u8 36, .symi .u8 37, .symi .u8 38],
  .fn 5 .u8 [.symi .i64 30, .symi .u8 31, .symi .u8 32, .symi .u8 33, .symi .u8 34, .symi .u8 35, .symi .u8 36, .symi .u8 37, .symi .u8 38],
  .fn 6 .u8 [.symi .i64 30, .symi .u8 31, .symi .u8 32, .symi .u8 33, .symi .u8 34, .symi .u8 35, .symi .u8 36, .symi .u8 37, .symi .u8 38],
  .fn 7 .u8 [.symi .i64 30, .symi .u8 31, .symi .u8 32, .symi .u8 33, .symi .u8 34, .symi .u8 35, .symi .u8 36, .symi .u8 37, .symi .u8 38],
  .fn 8 .u8 [.symi .i64 30, .symi .u8 31, .symi .u8 32, .symi .u8 33, .symi .u8 34, .symi .u8 35, .symi .u8 36, .symi .u8 37, .symi .u8 38],
  .fn 0 .i64 [.symi .i64 39, .symi .u8 40, .symi .u8 41, .symi .u8 42, .symi .u8 43, .symi .u8 44, .symi .u8 45, .symi .u8 46, .symi .u8 47],
  .fn 1 .u8 [.symi .i64 39, .symi .u8 40, .symi .u8 41, .symi .u8 42, .symi .u8 43, .symi .u8 44, .symi .u8 45, .symi .u8 46, .symi .u8 47],
  .fn 2 .u8 [.symi .i64 39, .symi .u8 40, .symi .u8 41, .symi .u8 42, .symi .u8 43, .symi .u8 44, .symi .u8 45, .symi .u8 46, .symi .u8 47],
  .fn 3 .u8 [.symi .i64 39, .symi .u8 40, .symi .u8 41, .symi .u8 42, .symi .u8 43, .symi .u8 44, .symi .u8 45, .symi .u8 46, .symi .u8 47],
  .fn 4 .u8 [.symi .i64 39, .symi .u8 40, .symi .u8 41, .symi .u8 42, .symi .u8 43, .symi .u8 44, .symi .u8 45, .symi .u8 46, .symi .u8 47],
  .fn 5 .u8 [.symi .i64 39, .symi .u8 40, .symi .u8 41, .symi .u8 42, .symi .u8 43, .symi .u8 44, .symi .u8 45, .symi .u8 46, .symi .u8 47],
  .fn 6 .u8 [.symi .i64 39, .symi .u8 40, .symi .u8 41, .symi .u8 42, .symi .u8 43, .symi .u8 44, .symi .u8 45, .symi .u8 46, .symi .u8 47],
  .fn 7 .u8 [.symi .i64 39, .symi .u8 40, .symi .u8 41, .symi .u8 42, .symi .u8 43, .symi .u8 44, .symi .u8 45, .symi .u8 46, .symi .u8 47],
  .fn 8 .u8 [.symi .i64 39, .symi .u8 40, .symi .u8 41, .symi .u8 42, .symi .u8 43, .symi .u8 44, .symi .u8 45, .symi .u8 46, .symi .u8 47],
  .bin .eql (.symi .i64 61) (.int .i64 0),
  .bin .geq (.symi .u8 51) (.int .u8 4),
  .ite (.symb 71) (.int .u8 0) (.symi .u8 51),
  .ite (.symb 70) (.int .u8 0) (.symi .u8 72),
  .all [(.symi .i64 30, .symi .i64 52), (.symi .u8 31, .symi .u8 53), (.symi .u8 32, .symi .u8 54), (.symi .u8 33, .symi .u8 55), (.symi .u8 34, .symi .u8 56), (.symi .u8 35, .symi .u8 57), (.symi .u8 36, .symi .u8 58), (.symi .u8 37, .symi .u8 59), (.symi .u8 38, .symi .u8 60), (.symi .i64 39, .symi .i64 61), (.symi .u8 40, .symi .u8 62), (.symi .u8 41, .symi .u8 63), (.symi .u8 42, .symi .u8 64), (.symi .u8 43, .symi .u8 65), (.symi .u8 44, .symi .u8 66), (.symi .u8 45, .symi .u8 67), (.symi .u8 46, .symi .u8 68), (.symi .u8 47, .symi .u8 69), (.symi .u8 51, .symi .u8 73)],
  .all [(.symi .i64 52, .symi .i64 30), (.symi .u8 53, .symi .u8 31), (.symi .u8 54, .symi .u8 32), (.symi .u8 55, .symi .u8 33), (.symi .u8 56, .symi .u8 34), (.symi .u8 57, .symi .u8 35), (.symi .u8 58, .symi .u8 36), (.symi .u8 59, .symi .u8 37), (.symi .u8 60, .symi .u8 38)],
  .all [(.symi .i64 61, .symi .i64 39), (.symi .u8 62, .symi .u8 40), (.symi .u8 63, .symi .u8 41), (.symi .u8 64, .symi .u8 42), (.symi .u8 65, .symi .u8 43), (.symi .u8 66, .symi .u8 44), (.symi .u8 67, .symi .u8 45), (.symi .u8 68, .symi .u8 46), (.symi .u8 69, .symi .u8 47)],
  .ite (.symb 75) (.symb 76) (.bool false),
  .ite (.symb 74) (.symb 77) (.bool false)]

set_option maxRecDepth 100000 in
def utT : LT := .n (.n (.n (.n (.n (.n (.e) 332 23 (.conv .u8 (.symi .i64 0)) (.e)) 9615273 61 (.fn 0 .i64 [.symi .i64 39, .symi .u8 40, .symi .u8 41, .symi .u8 42, .symi .u8 43, .symi .u8 44, .symi .u8 45, .symi .u8 46, .symi .u8 47]) (.n (.e) 9615316 62 (.fn 1 .u8 [.symi .i64 39, .symi .u8 40, .symi .u8 41, .symi .u8 42, .symi .u8 43, .symi .u8 44, .symi .u8 45, .symi .u8 46, .symi .u8 47]) (.e))) 9615359 63 (.fn 2 .u8 [.symi .i64 39, .symi .u8 40, .symi .u8 41, .symi .u8 42, .symi .u8 43, .symi .u8 44, .symi .u8 45, .symi .u8 46, .symi .u8 47]) (.n (.n (.e) 9615402 64 (.fn 3 .u8 [.symi .i64 39, .symi .u8 40, .symi .u8 41, .symi .u8 42, .symi .u8 43, .symi .u8 44, .symi .u8 45, .symi .u8 46, .symi .u8 47]) (.e)) 9615445 65 (.fn 4 .u8 [.symi .i64 39, .symi .u8 40, .symi .u8 41, .symi .u8 42, .symi .u8 43, .symi .u8 44, .symi .u8 45, .symi .u8 46, .symi .u8 47]) (.n (.e) 9615488 66 (.fn 5 .u8 [.symi .i64 39, .symi .u8 40, .symi .u8 41, .symi .u8 42, .symi .u8 43, .symi .u8 44, .symi .u8 45, .symi .u8 46, .symi .u8 47]) (.e)))) 9615531 67 (.fn 6 .u8 [.symi .i64 39, .symi .u8 40, .symi .u8 41, .symi .u8 42, .symi .u8 43, .symi .u8 44, .symi .u8 45, .symi .u8 46, .symi .u8 47]) (.n (.n (.n (.e) 9615574 68 (.fn 7 .u8 [.symi .i64 39, .symi .u8 40, .symi .u8 41, .symi .u8 42, .symi .u8 43, .symi .u8 44, .symi .u8 45, .symi .u8 46, .symi .u8 47]) (.e)) 9615617 69 (.fn 8 .u8 [.symi .i64 39, .symi .u8 40, .symi .u8 41, .symi .u8 42, .symi .u8 43, .symi .u8 44, .symi .u8 45, .symi .u8 46, .symi .u8 47]) (.n (.e) 25071352 74 (.all [(.symi .i64 30, .symi .i64 52), (.symi .u8 31, .symi .u8 53), (.symi .u8 32, .symi .u8 54), (.symi .u8 33, .symi .u8 55), (.symi .u8 34, .symi .u8 56), (.symi .u8 35, .symi .u8 57), (.symi .u8 36, .symi .u8 58), (.symi .u8 37, .symi .u8 59), (.symi .u8 38, .symi .u8 60), (.symi .i64 39, .symi .i64 61), (.symi .u8 40, .symi .u8 62), (.symi .u8 41, .symi .u8 63), (.symi .u8 42, .symi .u8 64), (.symi .u8 43, .symi .u8 65), (.symi .u8 44, .symi .u8 66), (.symi .u8 45, .symi .u8 67), (.symi .u8 46, .symi .u8 68), (.symi .u8 47, .symi .u8 69), (.symi .u8 51, .symi .u8 73)]) (.e))) 119448846 52 (.fn 0 .i64 [.symi .i64 30, .symi .u8 31, .symi .u8 32, .symi .u8 33, .symi .u8 34, .symi .u8 35, .symi .u8 36, .symi .u8 37, .symi .u8 38]) (.n (.n (.e) 119448889 53 (.fn 1 .u8 [.symi .i64 30, .symi .u8 31, .symi .u8 32, .symi .u8 33, .symi .u8 34, .symi .u8 35, .symi .u8 36, .symi .u8 37, .symi .u8 38]) (.e)) 119448932 54 (.fn 2 .u8 [.symi .i64 30, .symi .u8 31, .symi .u8 32, .symi .u8 33, .symi .u8 34, .symi .u8 35, .symi .u8 36, .symi .u8 37, .symi .u8 38]) (.e)))) 119448975 55 (.fn 3 .u8 [.symi .i64 30, .symi .u8 31, .symi .u8 32, .symi .u8 33, .symi .u8 34, .symi .u8 35, .symi .u8 36, .symi .u8 37, .symi .u8 38]) (.n (.n (.n (.n (.e) 119449018 56 (.fn 4 .u8 [.symi .i64 30, .symi .u8 31, .symi .u8 32, .symi .u8 33, .symi .u8 34, .symi .u8 35, .symi .u8 36, .symi .u8 37, .symi .u8 38]) (.e)) 119449061 57 (.fn 5 .u8 [.symi .i64 30, .symi .u8 31, .symi .u8 32, .symi .u8 33, .symi .u8 34, .symi .u8 35, .symi .u8 36, .symi .u8 37, .symi .u8 38]) (.n (.e) 119449104 58 (.fn 6 .u8 [.symi .i64 30, .symi .u8 31, .symi .u8 32, .symi .u8 33, .symi .u8 34, .symi .u8 35, .symi .u8 36, .symi .u8 37, .symi .u8 38]) (.e))) 119449147 59 (.fn 7 .u8 [.symi .i64 30, .symi .u8 31, .symi .u8 32, .symi .u8 33, .symi .u8 34, .symi .u8 35, .symi .u8 36, .symi .u8 37, .symi .u8 38]) (.n (.n (.e) 119449190 60 (.fn 8 .u8 [.symi .i64 30, .symi .u8 31, .symi .u8 32, .symi .u8 33, .symi .u8 34, .symi .u8 35, .symi .u8 36, .symi .u8 37, .symi .u8 38]) (.e)) 201260629 73 (.ite (.symb 70) (.int .u8 0) (.symi .u8 72)) (.e))) 221523785 24 (.conv .i64 (.symi .u8 23)) (.n (.n (.n (.e) 263600711 51 (.ite (.symb 48) (.int .u8 0) (.symi .u8 50)) (.e)) 274885821 77 (.ite (.symb 75) (.symb 76) (.bool false)) (.n (.e) 277034313 25 (.bin .rem (.symi .i64 24) (.int .i64 10)) (.e))) 284886151 78 (.ite (.symb 74) (.symb 77) (.bool false)) (.n (.n (.e) 390481184 72 (.ite (.symb 71) (.int .u8 0) (.symi .u8 51)) (.e)) 444442399 76 (.all [(.symi .i64 61, .symi .i64 39), (.symi .u8 62, .symi .u8 40), (.symi .u8 63, .symi .u8 41), (.symi .u8 64, .symi .u8 42), (.symi .u8 65, .symi .u8 43), (.symi .u8 66, .symi .u8 44), (.symi .u8 67, .symi .u8 45), (.symi .u8 68, .symi .u8 46), (.symi .u8 69, .symi .u8 47)]) (.e))))) 452821266 50 (.ite (.symb 49) (.int .u8 0) (.symi .u8 29)) (.n (.n (.n (.n (.n (.e) 530524712 27 (.conv .i64 (.symi .u8 26)) (.e)) 539345100 30 (.fn 0 .i64 [.symi .i64 25, .symi .u8 1, .symi .u8 2, .symi .u8 3, .symi .u8 4, .symi .u8 5, .symi .u8 6, .symi .u8 7, .symi .u8 8]) (.n (.e) 539345143 31 (.fn 1 .u8 [.symi .i64 25, .symi .u8 1, .symi .u8 2, .symi .u8 3, .symi .u8 4, .symi .u8 5, .symi .u8 6, .symi .u8 7, .symi .u8 8]) (.e))) 539345186 32 (.fn 2 .u8 [.symi .i64 25, .symi .u8 1, .symi .u8 2, .symi .u8 3, .symi .u8 4, .symi .u8 5, .symi .u8 6, .symi .u8 7, .symi .u8 8]) (.n (.n (.e) 539345229 33 (.fn 3 .u8 [.symi .i64 25, .symi .u8 1, .symi .u8 2, .symi .u8 3, .symi .u8 4, .symi .u8 5, .symi .u8 6, .symi .u8 7, .symi .u8 8]) (.e)) 539345272 34 (.fn 4 .u8 [.symi .i64 25, .symi .u8 1, .symi .u8 2, .symi .u8 3, .symi .u8 4, .symi .u8 5, .symi .u8 6, .symi .u8 7, .symi .u8 8]) (.e))) 539345315 35 (.fn 5 .u8 [.symi .i64 25, .symi .u8 1, .symi .u8 2, .symi .u8 3, .symi .u8 4, .symi .u8 5, .symi .u8 6, .symi .u8 7, .symi .u8 8]) (.n (.n (.n (.e) 539345358 36 (.fn 6 .u8 [.symi .i64 25, .symi .u8 1, .symi .u8 2, .symi .u8 3, .symi .u8 4, .symi .u8 5, .symi .u8 6, .symi .u8 7, .symi .u8 8]) (.e)) 539345401 37 (.fn 7 .u8 [.symi .i64 25, .symi .u8 1, .symi .u8 2, .symi .u8 3, .symi .u8 4, .symi .u8 5, .symi .u8 6, .symi .u8 7, .symi .u8 8]) (.n (.e) 539345444 38 (.fn 8 .u8 [.symi .i64 25, .symi .u8 1, .symi .u8 2, .symi .u8 3, .symi .u8 4, .symi .u8 5, .symi .u8 6, .symi .u8 7, .symi .u8 8]) (.e))) 580035222 28 (.bin .rem (.symi .i64 27) (.int .i64 10)) (.n (.n (.e) 717250996 39 (.fn 0 .i64 [.symi .i64 28, .symi .u8 10, .symi .u8 11, .symi .u8 12, .symi .u8 13, .symi .u8 14, .symi .u8 15, .symi .u8 16, .symi .u8 17]) (.e)) 717251039 40 (.fn 1 .u8 [.symi .i64 28, .symi .u8 10, .symi .u8 11, .symi .u8 12, .symi .u8 13, .symi .u8 14, .symi .u8 15, .symi .u8 16, .symi .u8 17]) (.e)))) 717251082 41 (.fn 2 .u8 [.symi .i64 28, .symi .u8 10, .symi .u8 11, .symi .u8 12, .symi .u8 13, .symi .u8 14, .symi .u8 15, .symi .u8 16, .symi .u8 17]) (.n (.n (.n (.n (.e) 717251125 42 (.fn 3 .u8 [.symi .i64 28, .symi .u8 10, .symi .u8 11, .symi .u8 12, .symi .u8 13, .symi .u8 14, .symi .u8 15, .symi .u8 16, .symi .u8 17]) (.e)) 717251168 43 (.fn 4 .u8 [.symi .i64 28, .symi .u8 10, .symi .u8 11, .symi .u8 12, .symi .u8 13, .symi .u8 14, .symi .u8 15, .symi .u8 16, .symi .u8 17]) (.n (.e) 717251211 44 (.fn 5 .u8 [.symi .i64 28, .symi .u8 10, .symi .u8 11, .symi .u8 12, .symi .u8 13, .symi .u8 14, .symi .u8 15, .symi .u8 16, .symi .u8 17]) (.e))) 717251254 45 (.fn 6 .u8 [.symi .i64 28, .symi .u8 10, .symi .u8 11, .symi .u8 12, .symi .u8 13, .symi .u8 14, .symi .u8 15, .symi .u8 16, .symi .u8 17]) (.n (.n (.e) 717251297 46 (.fn 7 .u8 [.symi .i64 28, .symi .u8 10, .symi .u8 11, .symi .u8 12, .symi .u8 13, .symi .u8 14, .symi .u8 15, .symi .u8 16, .symi .u8 17]) (.e)) 717251340 47 (.fn 8 .u8 [.symi .i64 28, .symi .u8 10, .symi .u8 11, .symi .u8 12, .symi .u8 13, .symi .u8 14, .symi .u8 15, .symi .u8 16, .symi .u8 17]) (.e))) 717796730 48 (.bin .eql (.symi .i64 39) (.int .i64 0)) (.n (.n (.n (.e) 781735702 49 (.bin .geq (.symi .u8 29) (.int .u8 4)) (.e)) 792319742 70 (.bin .eql (.symi .i64 61) (.int .i64 0)) (.n (.e) 856258714 71 (.bin .geq (.symi .u8 51) (.int .u8 4)) (.e))) 927003113 26 (.conv .u8 (.symi .i64 9)) (.n (.n (.e) 946574788 29 (.bin .rem (.symi .u8 20) (.int .u8 6)) (.e)) 995537077 75 (.all [(.symi .i64 52, .symi .i64 30), (.symi .u8 53, .symi .u8 31), (.symi .u8 54, .symi .u8 32), (.symi .u8 55, .symi .u8 33), (.symi .u8 56, .symi .u8 34), (.symi .u8 57, .symi .u8 35), (.symi .u8 58, .symi .u8 36), (.symi .u8 59, .symi .u8 37), (.symi .u8 60, .symi .u8 38)]) (.e)))))

def utW : Wr' := .run (.leaf (.symb 78))

def utX : Ing := { m := 23, ins := (cellsOf ualI).map kindC, G := utG, T := utT, hook := orHook (trueHook utTru) (tblHook (tabOf utFs) utTbl), tab := tabOf utFs }
theorem ut_ok : okG utG 23 = true := by kernel_rfl
theorem ut_lt : okLT 23 utG utT = true := by kernel_rfl
theorem ut_run : okW (fun F => (evD Try.prog (cxOf utX) true 1000 40).1 F 7 (symSh ualI 0) ⟨[], []⟩) utW [] = true := by kernel_rfl

/-- what is mended is mended again just so -/
theorem mend_mend {l L : List Int} (h0 : L.getD 0 0 = qk l) (hi : ∀ i, i < 8 → L.getD (i + 1) 0 = qb l i) : mendF L = mendF l := by
  unfold mendF
  rw [qk_of h0, qb_of 0 h0 (hi 0 (by decide)), qb_of 1 h0 (hi 1 (by decide)), qb_of 2 h0 (hi 2 (by decide)), qb_of 3 h0 (hi 3 (by decide)), qb_of 4 h0 (hi 4 (by decide)), qb_of 5 h0 (hi 5 (by decide)), qb_of 6 h0 (hi 6 (by decide)), qb_of 7 h0 (hi 7 (by decide))]

set_option maxRecDepth 100000 in
theorem holds : FnOk Try.prog 7 ualI [.one .b] (fun _ => [1]) :=
  fn_of_run (X := utX) (W := utW) mixed ⟨rfl, rfl, rfl, rfl, rfl⟩ ut_ok ut_lt (fun F => or_hooks ut_lt rfl rfl ut_tru ut_all F) ut_run (fun l σ hl e ht hi hb => by
    have w1 : IntKind.u8.wrap (σ.ival 1) = σ.ival 1 := by rw [hi 1 (by decide)]; exact inR_get hl 1 .u8 rfl
    have w2 : IntKind.u8.wrap (σ.ival 2) = σ.ival 2 := by rw [hi 2 (by decide)]; exact inR_get hl 2 .u8 rfl
    have w3 : IntKind.u8.wrap (σ.ival 3) = σ.ival 3 := by rw [hi 3 (by decide)]; exact inR_get hl 3 .u8 rfl
    have w4 : IntKind.u8.wrap (σ.ival 4) = σ.ival 4 := by rw [hi 4 (by decide)]; exact inR_get hl 4 .u8 rfl
    have w5 : IntKind.u8.wrap (σ.ival 5) = σ.ival 5 := by rw [hi 5 (by decide)]; exact inR_get hl 5 .u8 rfl
    have w6 : IntKind.u8.wrap (σ.ival 6) = σ.ival 6 := by rw [hi 6 (by decide)]; exact inR_get hl 6 .u8 rfl
    have w7 : IntKind.u8.wrap (σ.ival 7) = σ.ival 7 := by rw [hi 7 (by decide)]; exact inR_get hl 7 .u8 rfl
    have w8 : IntKind.u8.wrap (σ.ival 8) = σ.ival 8 := by rw [hi 8 (by decide)]; exact inR_get hl 8 .u8 rfl
    have w10 : IntKind.u8.wrap (σ.ival 10) = σ.ival 10 := by rw [hi 10 (by decide)]; exact inR_get hl 10 .u8 rfl
    have w11 : IntKind.u8.wrap (σ.ival 11) = σ.ival 11 := by rw [hi 11 (by decide)]; exact inR_get hl 11 .u8 rfl
    have w12 : IntKind.u8.wrap (σ.ival 12) = σ.ival 12 := by rw [hi 12 (by decide)]; exact inR_get hl 12 .u8 rfl
    have w13 : IntKind.u8.wrap (σ.ival 13) = σ.ival 13 := by rw [hi 13 (by decide)]; exact inR_get hl 13 .u8 rfl
    have w14 : IntKind.u8.wrap (σ.ival 14) = σ.ival 14 := by rw [hi 14 (by decide)]; exact inR_get hl 14 .u8 rfl
    have w15 : IntKind.u8.wrap (σ.ival 15) = σ.ival 15 := by rw [hi 15 (by decide)]; exact inR_get hl 15 .u8 rfl
    have w16 : IntKind.u8.wrap (σ.ival 16) = σ.ival 16 := by rw [hi 16 (by decide)]; exact inR_get hl 16 .u8 rfl
    have w17 : IntKind.u8.wrap (σ.ival 17) = σ.ival 17 := by rw [hi 17 (by decide)]; exact inR_get hl 17 .u8 rfl
    have e23 : σ.ival 23 = IntKind.u8.wrap (σ.ival 0) := eqI (e.at 0 _ rfl rfl) rfl
    have e24 : σ.ival 24 = IntKind.i64.wrap (σ.ival 23) := eqI (e.at 1 _ rfl rfl) rfl
    have e25 : σ.ival 25 = ((σ.ival 24 : Int).tmod 10) := eqI (e.at 2 _ rfl rfl) rfl
    have e26 : σ.ival 26 = IntKind.u8.wrap (σ.ival 9) := eqI (e.at 3 _ rfl rfl) rfl
    have e27 : σ.ival 27 = IntKind.i64.wrap (σ.ival 26) := eqI (e.at 4 _ rfl rfl) rfl
    have e28 : σ.ival 28 = ((σ.ival 27 : Int).tmod 10) := eqI (e.at 5 _ rfl rfl) rfl
    have e29 : σ.ival 29 = ((σ.ival 20 : Int).tmod 6) := eqI (e.at 6 _ rfl rfl) rfl
    have e30 : σ.ival 30 = IntKind.i64.wrap (σ.tab 0 [σ.ival 25, σ.ival 1, σ.ival 2, σ.ival 3, σ.ival 4, σ.ival 5, σ.ival 6, σ.ival 7, σ.ival 8]) := eqI (e.at 7 _ rfl rfl) rfl
    have e31 : σ.ival 31 = IntKind.u8.wrap (σ.tab 1 [σ.ival 25, σ.ival 1, σ.ival 2, σ.ival 3, σ.ival 4, σ.ival 5, σ.ival 6, σ.ival 7, σ.ival 8]) := eqI (e.at 8 _ rfl rfl) rfl
    have e32 : σ.ival 32 = IntKind.u8.wrap (σ.tab 2 [σ.ival 25, σ.ival 1, σ.ival 2, σ.ival 3, σ.ival 4, σ.ival 5, σ.ival 6, σ.ival 7, σ.ival 8]) := eqI (e.at 9 _ rfl rfl) rfl
    have e33 : σ.ival 33 = IntKind.u8.wrap (σ.tab 3 [σ.ival 25, σ.ival 1, σ.ival 2, σ.ival 3, σ.ival 4, σ.ival 5, σ.ival 6, σ.ival 7, σ.ival 8]) := eqI (e.at 10 _ rfl rfl) rfl
    have e34 : σ.ival 34 = IntKind.u8.wrap (σ.tab 4 [σ.ival 25, σ.ival 1, σ.ival 2, σ.ival 3, σ.ival 4, σ.ival 5, σ.ival 6, σ.ival 7, σ.ival 8]) := eqI (e.at 11 _ rfl rfl) rfl
    have e35 : σ.ival 35 = IntKind.u8.wrap (σ.tab 5 [σ.ival 25, σ.ival 1, σ.ival 2, σ.ival 3, σ.ival 4, σ.ival 5, σ.ival 6, σ.ival 7, σ.ival 8]) := eqI (e.at 12 _ rfl rfl) rfl
    have e36 : σ.ival 36 = IntKind.u8.wrap (σ.tab 6 [σ.ival 25, σ.ival 1, σ.ival 2, σ.ival 3, σ.ival 4, σ.ival 5, σ.ival 6, σ.ival 7, σ.ival 8]) := eqI (e.at 13 _ rfl rfl) rfl
    have e37 : σ.ival 37 = IntKind.u8.wrap (σ.tab 7 [σ.ival 25, σ.ival 1, σ.ival 2, σ.ival 3, σ.ival 4, σ.ival 5, σ.ival 6, σ.ival 7, σ.ival 8]) := eqI (e.at 14 _ rfl rfl) rfl
    have e38 : σ.ival 38 = IntKind.u8.wrap (σ.tab 8 [σ.ival 25, σ.ival 1, σ.ival 2, σ.ival 3, σ.ival 4, σ.ival 5, σ.ival 6, σ.ival 7, σ.ival 8]) := eqI (e.at 15 _ rfl rfl) rfl
    have e39 : σ.ival 39 = IntKind.i64.wrap (σ.tab 0 [σ.ival 28, σ.ival 10, σ.ival 11, σ.ival 12, σ.ival 13, σ.ival 14, σ.ival 15, σ.ival 16, σ.ival 17]) := eqI (e.at 16 _ rfl rfl) rfl
    have e40 : σ.ival 40 = IntKind.u8.wrap (σ.tab 1 [σ.ival 28, σ.ival 10, σ.ival 11, σ.ival 12, σ.ival 13, σ.ival 14, σ.ival 15, σ.ival 16, σ.ival 17]) := eqI (e.at 17 _ rfl rfl) rfl
    have e41 : σ.ival 41 = IntKind.u8.wrap (σ.tab 2 [σ.ival 28, σ.ival 10, σ.ival 11, σ.ival 12, σ.ival 13, σ.ival 14, σ.ival 15, σ.ival 16, σ.ival 17]) := eqI (e.at 18 _ rfl rfl) rfl
    have e42 : σ.ival 42 = IntKind.u8.wrap (σ.tab 3 [σ.ival 28, σ.ival 10, σ.ival 11, σ.ival 12, σ.ival 13, σ.ival 14, σ.ival 15, σ.ival 16, σ.ival 17]) := eqI (e.at 19 _ rfl rfl) rfl
    have e43 : σ.ival 43 = IntKind.u8.wrap (σ.tab 4 [σ.ival 28, σ.ival 10, σ.ival 11, σ.ival 12, σ.ival 13, σ.ival 14, σ.ival 15, σ.ival 16, σ.ival 17]) := eqI (e.at 20 _ rfl rfl) rfl
    have e44 : σ.ival 44 = IntKind.u8.wrap (σ.tab 5 [σ.ival 28, σ.ival 10, σ.ival 11, σ.ival 12, σ.ival 13, σ.ival 14, σ.ival 15, σ.ival 16, σ.ival 17]) := eqI (e.at 21 _ rfl rfl) rfl
    have e45 : σ.ival 45 = IntKind.u8.wrap (σ.tab 6 [σ.ival 28, σ.ival 10, σ.ival 11, σ.ival 12, σ.ival 13, σ.ival 14, σ.ival 15, σ.ival 16, σ.ival 17]) := eqI (e.at 22 _ rfl rfl) rfl
    have e46 : σ.ival 46 = IntKind.u8.wrap (σ.tab 7 [σ.ival 28, σ.ival 10, σ.ival 11, σ.ival 12, σ.ival 13, σ.ival 14, σ.ival 15, σ.ival 16, σ.ival 17]) := eqI (e.at 23 _ rfl rfl) rfl
    have e47 : σ.ival 47 = IntKind.u8.wrap (σ.tab 8 [σ.ival 28, σ.ival 10, σ.ival 11, σ.ival 12, σ.ival 13, σ.ival 14, σ.ival 15, σ.ival 16, σ.ival 17]) := eqI (e.at 24 _ rfl rfl) rfl
    have e48 : σ.bval 48 = (σ.ival 39 == 0) := eqB (e.at 25 _ rfl rfl) rfl
    have e49 : σ.bval 49 = decide (σ.ival 29 ≥ 4) := eqB (e.at 26 _ rfl rfl) rfl
    have e50 : σ.ival 50 = (bif σ.bval 49 then 0 else σ.ival 29) := eqIteI (e.at 27 _ rfl rfl) rfl rfl rfl
    have e51 : σ.ival 51 = (bif σ.bval 48 then 0 else σ.ival 50) := eqIteI (e.at 28 _ rfl rfl) rfl rfl rfl
    have e52 : σ.ival 52 = IntKind.i64.wrap (σ.tab 0 [σ.ival 30, σ.ival 31, σ.ival 32, σ.ival 33, σ.ival 34, σ.ival 35, σ.ival 36, σ.ival 37, σ.ival 38]) := eqI (e.at 29 _ rfl rfl) rfl
    have e53 : σ.ival 53 = IntKind.u8.wrap (σ.tab 1 [σ.ival 30, σ.ival 31, σ.ival 32, σ.ival 33, σ.ival 34, σ.ival 35, σ.ival 36, σ.ival 37, σ.ival 38]) := eqI (e.at 30 _ rfl rfl) rfl
    have e54 : σ.ival 54 = IntKind.u8.wrap (σ.tab 2 [σ.ival 30, σ.ival 31, σ.ival 32, σ.ival 33, σ.ival 34, σ.ival 35, σ.ival 36, σ.ival 37, σ.ival 38]) := eqI (e.at 31 _ rfl rfl) rfl
    have e55 : σ.ival 55 = IntKind.u8.wrap (σ.tab 3 [σ.ival 30, σ.ival 31, σ.ival 32, σ.ival 33, σ.ival 34, σ.ival 35, σ.ival 36, σ.ival 37, σ.ival 38]) := eqI (e.at 32 _ rfl rfl) rfl
    have e56 : σ.ival 56 = IntKind.u8.wrap (σ.tab 4 [σ.ival 30, σ.ival 31, σ.ival 32, σ.ival 33, σ.ival 34, σ.ival 35, σ.ival 36, σ.ival 37, σ.ival 38]) := eqI (e.at 33 _ rfl rfl) rfl
    have e57 : σ.ival 57 = IntKind.u8.wrap (σ.tab 5 [σ.ival 30, σ.ival 31, σ.ival 32, σ.ival 33, σ.ival 34, σ.ival 35, σ.ival 36, σ.ival 37, σ.ival 38]) := eqI (e.at 34 _ rfl rfl) rfl
    have e58 : σ.ival 58 = IntKind.u8.wrap (σ.tab 6 [σ.ival 30, σ.ival 31, σ.ival 32, σ.ival 33, σ.ival 34, σ.ival 35, σ.ival 36, σ.ival 37, σ.ival 38]) := eqI (e.at 35 _ rfl rfl) rfl
    have e59 : σ.ival 59 = IntKind.u8.wrap (σ.tab 7 [σ.ival 30, σ.ival 31, σ.ival 32, σ.ival 33, σ.ival 34, σ.ival 35, σ.ival 36, σ.ival 37, σ.ival 38]) := eqI (e.at 36 _ rfl rfl) rfl
    have e60 : σ.ival 60 = IntKind.u8.wrap (σ.tab 8 [σ.ival 30, σ.ival 31, σ.ival 32, σ.ival 33, σ.ival 34, σ.ival 35, σ.ival 36, σ.ival 37, σ.ival 38]) := eqI (e.at 37 _ rfl rfl) rfl
    have e61 : σ.ival 61 = IntKind.i64.wrap (σ.tab 0 [σ.ival 39, σ.ival 40, σ.ival 41, σ.ival 42, σ.ival 43, σ.ival 44, σ.ival 45, σ.ival 46, σ.ival 47]) := eqI (e.at 38 _ rfl rfl) rfl
    have e62 : σ.ival 62 = IntKind.u8.wrap (σ.tab 1 [σ.ival 39, σ.ival 40, σ.ival 41, σ.ival 42, σ.ival 43, σ.ival 44, σ.ival 45, σ.ival 46, σ.ival 47]) := eqI (e.at 39 _ rfl rfl) rfl
    have e63 : σ.ival 63 = IntKind.u8.wrap (σ.tab 2 [σ.ival 39, σ.ival 40, σ.ival 41, σ.ival 42, σ.ival 43, σ.ival 44, σ.ival 45, σ.ival 46, σ.ival 47]) := eqI (e.at 40 _ rfl rfl) rfl
    have e64 : σ.ival 64 = IntKind.u8.wrap (σ.tab 3 [σ.ival 39, σ.ival 40, σ.ival 41, σ.ival 42, σ.ival 43, σ.ival 44, σ.ival 45, σ.ival 46, σ.ival 47]) := eqI (e.at 41 _ rfl rfl) rfl
    have e65 : σ.ival 65 = IntKind.u8.wrap (σ.tab 4 [σ.ival 39, σ.ival 40, σ.ival 41, σ.ival 42, σ.ival 43, σ.ival 44, σ.ival 45, σ.ival 46, σ.ival 47]) := eqI (e.at 42 _ rfl rfl) rfl
    have e66 : σ.ival 66 = IntKind.u8.wrap (σ.tab 5 [σ.ival 39, σ.ival 40, σ.ival 41, σ.ival 42, σ.ival 43, σ.ival 44, σ.ival 45, σ.ival 46, σ.ival 47]) := eqI (e.at 43 _ rfl rfl) rfl
    have e67 : σ.ival 67 = IntKind.u8.wrap (σ.tab 6 [σ.ival 39, σ.ival 40, σ.ival 41, σ.ival 42, σ.ival 43, σ.ival 44, σ.ival 45, σ.ival 46, σ.ival 47]) := eqI (e.at 44 _ rfl rfl) rfl
    have e68 : σ.ival 68 = IntKind.u8.wrap (σ.tab 7 [σ.ival 39, σ.ival 40, σ.ival 41, σ.ival 42, σ.ival 43, σ.ival 44, σ.ival 45, σ.ival 46, σ.ival 47]) := eqI (e.at 45 _ rfl rfl) rfl
    have e69 : σ.ival 69 = IntKind.u8.wrap (σ.tab 8 [σ.ival 39, σ.ival 40, σ.ival 41, σ.ival 42, σ.ival 43, σ.ival 44, σ.ival 45, σ.ival 46, σ.ival 47]) := eqI (e.at 46 _ rfl rfl) rfl
    have e70 : σ.bval 70 = (σ.ival 61 == 0) := eqB (e.at 47 _ rfl rfl) rfl
    have e71 : σ.bval 71 = decide (σ.ival 51 ≥ 4) := eqB (e.at 48 _ rfl rfl) rfl
    have e72 : σ.ival 72 = (bif σ.bval 71 then 0 else σ.ival 51) := eqIteI (e.at 49 _ rfl rfl) rfl rfl rfl
    have e73 : σ.ival 73 = (bif σ.bval 70 then 0 else σ.ival 72) := eqIteI (e.at 50 _ rfl rfl) rfl rfl rfl
    have e74 : σ.bval 74 = ((σ.ival 30 == σ.ival 52) && ((σ.ival 31 == σ.ival 53) && ((σ.ival 32 == σ.ival 54) && ((σ.ival 33 == σ.ival 55) && ((σ.ival 34 == σ.ival 56) && ((σ.ival 35 == σ.ival 57) && ((σ.ival 36 == σ.ival 58) && ((σ.ival 37 == σ.ival 59) && ((σ.ival 38 == σ.ival 60) && ((σ.ival 39 == σ.ival 61) && ((σ.ival 40 == σ.ival 62) && ((σ.ival 41 == σ.ival 63) && ((σ.ival 42 == σ.ival 64) && ((σ.ival 43 == σ.ival 65) && ((σ.ival 44 == σ.ival 66) && ((σ.ival 45 == σ.ival 67) && ((σ.ival 46 == σ.ival 68) && ((σ.ival 47 == σ.ival 69) && ((σ.ival 51 == σ.ival 73) && true))))))))))))))))))) := eqB (e.at 51 _ rfl rfl) rfl
    have e75 : σ.bval 75 = ((σ.ival 52 == σ.ival 30) && ((σ.ival 53 == σ.ival 31) && ((σ.ival 54 == σ.ival 32) && ((σ.ival 55 == σ.ival 33) && ((σ.ival 56 == σ.ival 34) && ((σ.ival 57 == σ.ival 35) && ((σ.ival 58 == σ.ival 36) && ((σ.ival 59 == σ.ival 37) && ((σ.ival 60 == σ.ival 38) && true))))))))) := eqB (e.at 52 _ rfl rfl) rfl
    have e76 : σ.bval 76 = ((σ.ival 61 == σ.ival 39) && ((σ.ival 62 == σ.ival 40) && ((σ.ival 63 == σ.ival 41) && ((σ.ival 64 == σ.ival 42) && ((σ.ival 65 == σ.ival 43) && ((σ.ival 66 == σ.ival 44) && ((σ.ival 67 == σ.ival 45) && ((σ.ival 68 == σ.ival 46) && ((σ.ival 69 == σ.ival 47) && true))))))))) := eqB (e.at 53 _ rfl rfl) rfl
    have e77 : σ.bval 77 = (bif σ.bval 75 then σ.bval 76 else false) := eqIteB (e.at 54 _ rfl rfl) rfl rfl rfl
    have e78 : σ.bval 78 = (bif σ.bval 74 then σ.bval 77 else false) := eqIteB (e.at 55 _ rfl rfl) rfl rfl rfl
    have m30 : σ.ival 30 = qk [σ.ival 25, σ.ival 1, σ.ival 2, σ.ival 3, σ.ival 4, σ.ival 5, σ.ival 6, σ.ival 7, σ.ival 8] := by rw [e30, ht]; exact qk_w [σ.ival 25, σ.ival 1, σ.ival 2, σ.ival 3, σ.ival 4, σ.ival 5, σ.ival 6, σ.ival 7, σ.ival 8]
    have m31 : σ.ival 31 = qb [σ.ival 25, σ.ival 1, σ.ival 2, σ.ival 3, σ.ival 4, σ.ival 5, σ.ival 6, σ.ival 7, σ.ival 8] 0 := by rw [e31, ht]; exact qb_w (l := [σ.ival 25, σ.ival 1, σ.ival 2, σ.ival 3, σ.ival 4, σ.ival 5, σ.ival 6, σ.ival 7, σ.ival 8]) 0 w1
    have m32 : σ.ival 32 = qb [σ.ival 25, σ.ival 1, σ.ival 2, σ.ival 3, σ.ival 4, σ.ival 5, σ.ival 6, σ.ival 7, σ.ival 8] 1 := by rw [e32, ht]; exact qb_w (l := [σ.ival 25, σ.ival 1, σ.ival 2, σ.ival 3, σ.ival 4, σ.ival 5, σ.ival 6, σ.ival 7, σ.ival 8]) 1 w2
    have m33 : σ.ival 33 = qb [σ.ival 25, σ.ival 1, σ.ival 2, σ.ival 3, σ.ival 4, σ.ival 5, σ.ival 6, σ.ival 7, σ.ival 8] 2 := by rw [e33, ht]; exact qb_w (l := [σ.ival 25, σ.ival 1, σ.ival 2, σ.ival 3, σ.ival 4, σ.ival 5, σ.ival 6, σ.ival 7, σ.ival 8]) 2 w3
    have m34 : σ.ival 34 = qb [σ.ival 25, σ.ival 1, σ.ival 2, σ.ival 3, σ.ival 4, σ.ival 5, σ.ival 6, σ.ival 7, σ.ival 8] 3 := by rw [e34, ht]; exact qb_w (l := [σ.ival 25, σ.ival 1, σ.ival 2, σ.ival 3, σ.ival 4, σ.ival 5, σ.ival 6, σ.ival 7, σ.ival 8]) 3 w4
    have m35 : σ.ival 35 = qb [σ.ival 25, σ.ival 1, σ.ival 2, σ.ival 3, σ.ival 4, σ.ival 5, σ.ival 6, σ.ival 7, σ.ival 8] 4 := by rw [e35, ht]; exact qb_w (l := [σ.ival 25, σ.ival 1, σ.ival 2, σ.ival 3, σ.ival 4, σ.ival 5, σ.ival 6, σ.ival 7, σ.ival 8]) 4 w5
    have m36 : σ.ival 36 = qb [σ.ival 25, σ.ival 1, σ.ival 2, σ.ival 3, σ.ival 4, σ.ival 5, σ.ival 6, σ.ival 7, σ.ival 8] 5 := by rw [e36, ht]; exact qb_w (l := [σ.ival 25, σ.ival 1, σ.ival 2, σ.ival 3, σ.ival 4, σ.ival 5, σ.ival 6, σ.ival 7, σ.ival 8]) 5 w6
    have m37 : σ.ival 37 = qb [σ.ival 25, σ.ival 1, σ.ival 2, σ.ival 3, σ.ival 4, σ.ival 5, σ.ival 6, σ.ival 7, σ.ival 8] 6 := by rw [e37, ht]; exact qb_w (l := [σ.ival 25, σ.ival 1, σ.ival 2, σ.ival 3, σ.ival 4, σ.ival 5, σ.ival 6, σ.ival 7, σ.ival 8]) 6 w7
    have m38 : σ.ival 38 = qb [σ.ival 25, σ.ival 1, σ.ival 2, σ.ival 3, σ.ival 4, σ.ival 5, σ.ival 6, σ.ival 7, σ.ival 8] 7 := by rw [e38, ht]; exact qb_w (l := [σ.ival 25, σ.ival 1, σ.ival 2, σ.ival 3, σ.ival 4, σ.ival 5, σ.ival 6, σ.ival 7, σ.ival 8]) 7 w8
    have q52 : σ.ival 52 = σ.ival 30 := by
      rw [e52, ht]
      show IntKind.i64.wrap (qk [σ.ival 30, σ.ival 31, σ.ival 32, σ.ival 33, σ.ival 34, σ.ival 35, σ.ival 36, σ.ival 37, σ.ival 38]) = _
      rw [qk_of (l := [σ.ival 25, σ.ival 1, σ.ival 2, σ.ival 3, σ.ival 4, σ.ival 5, σ.ival 6, σ.ival 7, σ.ival 8]) (L := [σ.ival 30, σ.ival 31, σ.ival 32, σ.ival 33, σ.ival 34, σ.ival 35, σ.ival 36, σ.ival 37, σ.ival 38]) m30, m30]; exact qk_w [σ.ival 25, σ.ival 1, σ.ival 2, σ.ival 3, σ.ival 4, σ.ival 5, σ.ival 6, σ.ival 7, σ.ival 8]
    have q53 : σ.ival 53 = σ.ival 31 := by
      rw [e53, ht]
      show IntKind.u8.wrap (qb [σ.ival 30, σ.ival 31, σ.ival 32, σ.ival 33, σ.ival 34, σ.ival 35, σ.ival 36, σ.ival 37, σ.ival 38] 0) = _
      rw [qb_of (l := [σ.ival 25, σ.ival 1, σ.ival 2, σ.ival 3, σ.ival 4, σ.ival 5, σ.ival 6, σ.ival 7, σ.ival 8]) (L := [σ.ival 30, σ.ival 31, σ.ival 32, σ.ival 33, σ.ival 34, σ.ival 35, σ.ival 36, σ.ival 37, σ.ival 38]) 0 m30 m31, m31]; exact qb_w (l := [σ.ival 25, σ.ival 1, σ.ival 2, σ.ival 3, σ.ival 4, σ.ival 5, σ.ival 6, σ.ival 7, σ.ival 8]) 0 w1
    have q54 : σ.ival 54 = σ.ival 32 := by
      rw [e54, ht]
      show IntKind.u8.wrap (qb [σ.ival 30, σ.ival 31, σ.ival 32, σ.ival 33, σ.ival 34, σ.ival 35, σ.ival 36, σ.ival 37, σ.ival 38] 1) = _
      rw [qb_of (l := [σ.ival 25, σ.ival 1, σ.ival 2, σ.ival 3, σ.ival 4, σ.ival 5, σ.ival 6, σ.ival 7, σ.ival 8]) (L := [σ.ival 30, σ.ival 31, σ.ival 32, σ.ival 33, σ.ival 34, σ.ival 35, σ.ival 36, σ.ival 37, σ.ival 38]) 1 m30 m32, m32]; exact qb_w (l := [σ.ival 25, σ.ival 1, σ.ival 2, σ.ival 3, σ.ival 4, σ.ival 5, σ.ival 6, σ.ival 7, σ.ival 8]) 1 w2
    have q55 : σ.ival 55 = σ.ival 33 := by
      rw [e55, ht]
      show IntKind.u8.wrap (qb [σ.ival 30, σ.ival 31, σ.ival 32, σ.ival 33, σ.ival 34, σ.ival 35, σ.ival 36, σ.ival 37, σ.ival 38] 2) = _
      rw [qb_of (l := [σ.ival 25, σ.ival 1, σ.ival 2, σ.ival 3, σ.ival 4, σ.ival 5, σ.ival 6, σ.ival 7, σ.ival 8]) (L := [σ.ival 30, σ.ival 31, σ.ival 32, σ.ival 33, σ.ival 34, σ.ival 35, σ.ival 36, σ.ival 37, σ.ival 38]) 2 m30 m33, m33]; exact qb_w (l := [σ.ival 25, σ.ival 1, σ.ival 2, σ.ival 3, σ.ival 4, σ.ival 5, σ.ival 6, σ.ival 7, σ.ival 8]) 2 w3
    have q56 : σ.ival 56 = σ.ival 34 := by
      rw [e56, ht]
      show IntKind.u8.wrap (qb [σ.ival 30, σ.ival 31, σ.ival 32, σ.ival 33, σ.ival 34, σ.ival 35, σ.ival 36, σ.ival 37, σ.ival 38] 3) = _
      rw [qb_of (l := [σ.ival 25, σ.ival 1, σ.ival 2, σ.ival 3, σ.ival 4, σ.ival 5, σ.ival 6, σ.ival 7, σ.ival 8]) (L := [σ.ival 30, σ.ival 31, σ.ival 32, σ.ival 33, σ.ival 34, σ.ival 35, σ.ival 36, σ.ival 37, σ.ival 38]) 3 m30 m34, m34]; exact qb_w (l := [σ.ival 25, σ.ival 1, σ.ival 2, σ.ival 3, σ.ival 4, σ.ival 5, σ.ival 6, σ.ival 7, σ.ival 8]) 3 w4
    have q57 : σ.ival 57 = σ.ival 35 := by
      rw [e57, ht]
      show IntKind.u8.wrap (qb [σ.ival 30, σ.ival 31, σ.ival 32, σ.ival 33, σ.ival 34, σ.ival 35, σ.ival 36, σ.ival 37, σ.ival 38] 4) = _
      rw [qb_of (l := [σ.ival 25, σ.ival 1, σ.ival 2, σ.ival 3, σ.ival 4, σ.ival 5, σ.ival 6, σ.ival 7, σ.ival 8]) (L := [σ.ival 30, σ.ival 31, σ.ival 32, σ.ival 33, σ.ival 34, σ.ival 35, σ.ival 36, σ.ival 37, σ.ival 38]) 4 m30 m35, m35]; exact qb_w (l := [σ.ival 25, σ.ival 1, σ.ival 2, σ.ival 3, σ.ival 4, σ.ival 5, σ.ival 6, σ.ival 7, σ.ival 8]) 4 w5
    have q58 : σ.ival 58 = σ.ival 36 := by
      rw [e58, ht]
      show IntKind.u8.wrap (qb [σ.ival 30, σ.ival 31, σ.ival 32, σ.ival 33, σ.ival 34, σ.ival 35, σ.ival 36, σ.ival 37, σ.ival 38] 5) = _
      rw [qb_of (l := [σ.ival 25, σ.ival 1, σ.ival 2, σ.ival 3, σ.ival 4, σ.ival 5, σ.ival 6, σ.ival 7, σ.ival 8]) (L := [σ.ival 30, σ.ival 31, σ.ival 32, σ.ival 33, σ.ival 34, σ.ival 35, σ.ival 36, σ.ival 37, σ.ival 38]) 5 m30 m36, m36]; exact qb_w (l := [σ.ival 25, σ.ival 1, σ.ival 2, σ.ival 3, σ.ival 4, σ.ival 5, σ.ival 6, σ.ival 7, σ.ival 8]) 5 w6
    have q59 : σ.ival 59 = σ.ival 37 := by
      rw [e59, ht]
      show IntKind.u8.wrap (qb [σ.ival 30, σ.ival 31, σ.ival 32, σ.ival 33, σ.ival 34, σ.ival 35, σ.ival 36, σ.ival 37, σ.ival 38] 6) = _
      rw [qb_of (l := [σ.ival 25, σ.ival 1, σ.ival 2, σ.ival 3, σ.ival 4, σ.ival 5, σ.ival 6, σ.ival 7, σ.ival 8]) (L := [σ.ival 30, σ.ival 31, σ.ival 32, σ.ival 33, σ.ival 34, σ.ival 35, σ.ival 36, σ.ival 37, σ.ival 38]) 6 m30 m37, m37]; exact qb_w (l := [σ.ival 25, σ.ival 1, σ.ival 2, σ.ival 3, σ.ival 4, σ.ival 5, σ.ival 6, σ.ival 7, σ.ival 8]) 6 w7
    have q60 : σ.ival 60 = σ.ival 38 := by
      rw [e60, ht]
      show IntKind.u8.wrap (qb [σ.ival 30, σ.ival 31, σ.ival 32, σ.ival 33, σ.ival 34, σ.ival 35, σ.ival 36, σ.ival 37, σ.ival 38] 7) = _
      rw [qb_of (l := [σ.ival 25, σ.ival 1, σ.ival 2, σ.ival 3, σ.ival 4, σ.ival 5, σ.ival 6, σ.ival 7, σ.ival 8]) (L := [σ.ival 30, σ.ival 31, σ.ival 32, σ.ival 33, σ.ival 34, σ.ival 35, σ.ival 36, σ.ival 37, σ.ival 38]) 7 m30 m38, m38]; exact qb_w (l := [σ.ival 25, σ.ival 1, σ.ival 2, σ.ival 3, σ.ival 4, σ.ival 5, σ.ival 6, σ.ival 7, σ.ival 8]) 7 w8
    have m39 : σ.ival 39 = qk [σ.ival 28, σ.ival 10, σ.ival 11, σ.ival 12, σ.ival 13, σ.ival 14, σ.ival 15, σ.ival 16, σ.ival 17] := by rw [e39, ht]; exact qk_w [σ.ival 28, σ.ival 10, σ.ival 11, σ.ival 12, σ.ival 13, σ.ival 14, σ.ival 15, σ.ival 16, σ.ival 17]
    have m40 : σ.ival 40 = qb [σ.ival 28, σ.ival 10, σ.ival 11, σ.ival 12, σ.ival 13, σ.ival 14, σ.ival 15, σ.ival 16, σ.ival 17] 0 := by rw [e40, ht]; exact qb_w (l := [σ.ival 28, σ.ival 10, σ.ival 11, σ.ival 12, σ.ival 13, σ.ival 14, σ.ival 15, σ.ival 16, σ.ival 17]) 0 w10
    have m41 : σ.ival 41 = qb [σ.ival 28, σ.ival 10, σ.ival 11, σ.ival 12, σ.ival 13, σ.ival 14, σ.ival 15, σ.ival 16, σ.ival 17] 1 := by rw [e41, ht]; exact qb_w (l := [σ.ival 28, σ.ival 10, σ.ival 11, σ.ival 12, σ.ival 13, σ.ival 14, σ.ival 15, σ.ival 16, σ.ival 17]) 1 w11
    have m42 : σ.ival 42 = qb [σ.ival 28, σ.ival 10, σ.ival 11, σ.ival 12, σ.ival 13, σ.ival 14, σ.ival 15, σ.ival 16, σ.ival 17] 2 := by rw [e42, ht]; exact qb_w (l := [σ.ival 28, σ.ival 10, σ.ival 11, σ.ival 12, σ.ival 13, σ.ival 14, σ.ival 15, σ.ival 16, σ.ival 17]) 2 w12
    have m43 : σ.ival 43 = qb [σ.ival 28, σ.ival 10, σ.ival 11, σ.ival 12, σ.ival 13, σ.ival 14, σ.ival 15, σ.ival 16, σ.ival 17] 3 := by rw [e43, ht]; exact qb_w (l := [σ.ival 28, σ.ival 10, σ.ival 11, σ.ival 12, σ.ival 13, σ.ival 14, σ.ival 15, σ.ival 16, σ.ival 17]) 3 w13
    have m44 : σ.ival 44 = qb [σ.ival 28, σ.ival 10, σ.ival 11, σ.ival 12, σ.ival 13, σ.ival 14, σ.ival 15, σ.ival 16, σ.ival 17] 4 := by rw [e44, ht]; exact qb_w (l := [σ.ival 28, σ.ival 10, σ.ival 11, σ.ival 12, σ.ival 13, σ.ival 14, σ.ival 15, σ.ival 16, σ.ival 17]) 4 w14
    have m45 : σ.ival 45 = qb [σ.ival 28, σ.ival 10, σ.ival 11, σ.ival 12, σ.ival 13, σ.ival 14, σ.ival 15, σ.ival 16, σ.ival 17] 5 := by rw [e45, ht]; exact qb_w (l := [σ.ival 28, σ.ival 10, σ.ival 11, σ.ival 12, σ.ival 13, σ.ival 14, σ.ival 15, σ.ival 16, σ.ival 17]) 5 w15
    have m46 : σ.ival 46 = qb [σ.ival 28, σ.ival 10, σ.ival 11, σ.ival 12, σ.ival 13, σ.ival 14, σ.ival 15, σ.ival 16, σ.ival 17] 6 := by rw [e46, ht]; exact qb_w (l := [σ.ival 28, σ.ival 10, σ.ival 11, σ.ival 12, σ.ival 13, σ.ival 14, σ.ival 15, σ.ival 16, σ.ival 17]) 6 w16
    have m47 : σ.ival 47 = qb [σ.ival 28, σ.ival 10, σ.ival 11, σ.ival 12, σ.ival 13, σ.ival 14, σ.ival 15, σ.ival 16, σ.ival 17] 7 := by rw [e47, ht]; exact qb_w (l := [σ.ival 28, σ.ival 10, σ.ival 11, σ.ival 12, σ.ival 13, σ.ival 14, σ.ival 15, σ.ival 16, σ.ival 17]) 7 w17
    have q61 : σ.ival 61 = σ.ival 39 := by
      rw [e61, ht]
      show IntKind.i64.wrap (qk [σ.ival 39, σ.ival 40, σ.ival 41, σ.ival 42, σ.ival 43, σ.ival 44, σ.ival 45, σ.ival 46, σ.ival 47]) = _
      rw [qk_of (l := [σ.ival 28, σ.ival 10, σ.ival 11, σ.ival 12, σ.ival 13, σ.ival 14, σ.ival 15, σ.ival 16, σ.ival 17]) (L := [σ.ival 39, σ.ival 40, σ.ival 41, σ.ival 42, σ.ival 43, σ.ival 44, σ.ival 45, σ.ival 46, σ.ival 47]) m39, m39]; exact qk_w [σ.ival 28, σ.ival 10, σ.ival 11, σ.ival 12, σ.ival 13, σ.ival 14, σ.ival 15, σ.ival 16, σ.ival 17]
    have q62 : σ.ival 62 = σ.ival 40 := by
      rw [e62, ht]
      show IntKind.u8.wrap (qb [σ.ival 39, σ.ival 40, σ.ival 41, σ.ival 42, σ.ival 43, σ.ival 44, σ.ival 45, σ.ival 46, σ.ival 47] 0) = _
      rw [qb_of (l := [σ.ival 28, σ.ival 10, σ.ival 11, σ.ival 12, σ.ival 13, σ.ival 14, σ.ival 15, σ.ival 16, σ.ival 17]) (L := [σ.ival 39, σ.ival 40, σ.ival 41, σ.ival 42, σ.ival 43, σ.ival 44, σ.ival 45, σ.ival 46, σ.ival 47]) 0 m39 m40, m40]; exact qb_w (l := [σ.ival 28, σ.ival 10, σ.ival 11, σ.ival 12, σ.ival 13, σ.ival 14, σ.ival 15, σ.ival 16, σ.ival 17]) 0 w10
    have q63 : σ.ival 63 = σ.ival 41 := by
      rw [e63, ht]
      show IntKind.u8.wrap (qb [σ.ival 39, σ.ival 40, σ.ival 41, σ.ival 42, σ.ival 43, σ.ival 44, σ.ival 45, σ.ival 46, σ.ival 47] 1) = _
      rw [qb_of (l := [σ.ival 28, σ.ival 10, σ.ival 11, σ.ival 12, σ.ival 13, σ.ival 14, σ.ival 15, σ.ival 16, σ.ival 17]) (L := [σ.ival 39, σ.ival 40, σ.ival 41, σ.ival 42, σ.ival 43, σ.ival 44, σ.ival 45, σ.ival 46, σ.ival 47]) 1 m39 m41, m41]; exact qb_w (l := [σ.ival 28, σ.ival 10, σ.ival 11, σ.ival 12, σ.ival 13, σ.ival 14, σ.ival 15, σ.ival 16, σ.ival 17]) 1 w11
    have q64 : σ.ival 64 = σ.ival 42 := by
      rw [e64, ht]
      show IntKind.u8.wrap (qb [σ.ival 39, σ.ival 40, σ.ival 41, σ.ival 42, σ.ival 43, σ.ival 44, σ.ival 45, σ.ival 46, σ.ival 47] 2) = _
      rw [qb_of (l := [σ.ival 28, σ.ival 10, σ.ival 11, σ.ival 12, σ.ival 13, σ.ival 14, σ.ival 15, σ.ival 16, σ.ival 17]) (L := [σ.ival 39, σ.ival 40, σ.ival 41, σ.ival 42, σ.ival 43, σ.ival 44, σ.ival 45, σ.ival 46, σ.ival 47]) 2 m39 m42, m42]; exact qb_w (l := [σ.ival 28, σ.ival 10, σ.ival 11, σ.ival 12, σ.ival 13, σ.ival 14, σ.ival 15, σ.ival 16, σ.ival 17]) 2 w12
    have q65 : σ.ival 65 = σ.ival 43 := by
      rw [e65, ht]
      show IntKind.u8.wrap (qb [σ.ival 39, σ.ival 40, σ.ival 41, σ.ival 42, σ.ival 43, σ.ival 44, σ.ival 45, σ.ival 46, σ.ival 47] 3) = _
      rw [qb_of (l := [σ.ival 28, σ.ival 10, σ.ival 11, σ.ival 12, σ.ival 13, σ.ival 14, σ.ival 15, σ.ival 16, σ.ival 17]) (L := [σ.ival 39, σ.ival 40, σ.ival 41, σ.ival 42, σ.ival 43, σ.ival 44, σ.ival 45, σ.ival 46, σ.ival 47]) 3 m39 m43, m43]; exact qb_w (l := [σ.ival 28, σ.ival 10, σ.ival 11, σ.ival 12, σ.ival 13, σ.ival 14, σ.ival 15, σ.ival 16, σ.ival 17]) 3 w13
    have q66 : σ.ival 66 = σ.ival 44 := by
      rw [e66, ht]
      show IntKind.u8.wrap (qb [σ.ival 39, σ.ival 40, σ.ival 41, σ.ival 42, σ.ival 43, σ.ival 44, σ.ival 45, σ.ival 46, σ.ival 47] 4) = _
      rw [qb_of (l := [σ.ival 28, σ.ival 10, σ.ival 11, σ.ival 12, σ.ival 13, σ.ival 14, σ.ival 15, σ.ival 16, σ.ival 17]) (L := [σ.ival 39, σ.ival 40, σ.ival 41, σ.ival 42, σ.ival 43, σ.ival 44, σ.ival 45, σ.ival 46, σ.ival 47]) 4 m39 m44, m44]; exact qb_w (l := [σ.ival 28, σ.ival 10, σ.ival 11, σ.ival 12, σ.ival 13, σ.ival 14, σ.ival 15, σ.ival 16, σ.ival 17]) 4 w14
    have q67 : σ.ival 67 = σ.ival 45 := by
      rw [e67, ht]
      show IntKind.u8.wrap (qb [σ.ival 39, σ.ival 40, σ.ival 41, σ.ival 42, σ.ival 43, σ.ival 44, σ.ival 45, σ.ival 46, σ.ival 47] 5) = _
      rw [qb_of (l := [σ.ival 28, σ.ival 10, σ.ival 11, σ.ival 12, σ.ival 13, σ.ival 14, σ.ival 15, σ.ival 16, σ.ival 17]) (L := [σ.ival 39, σ.ival 40, σ.ival 41, σ.ival 42, σ.ival 43, σ.ival 44, σ.ival 45, σ.ival 46, σ.ival 47]) 5 m39 m45, m45]; exact qb_w (l := [σ.ival 28, σ.ival 10, σ.ival 11, σ.ival 12, σ.ival 13, σ.ival 14, σ.ival 15, σ.ival 16, σ.ival 17]) 5 w15
    have q68 : σ.ival 68 = σ.ival 46 := by
      rw [e68, ht]
      show IntKind.u8.wrap (qb [σ.ival 39, σ.ival 40, σ.ival 41, σ.ival 42, σ.ival 43, σ.ival 44, σ.ival 45, σ.ival 46, σ.ival 47] 6) = _
      rw [qb_of (l := [σ.ival 28, σ.ival 10, σ.ival 11, σ.ival 12, σ.ival 13, σ.ival 14, σ.ival 15, σ.ival 16, σ.ival 17]) (L := [σ.ival 39, σ.ival 40, σ.ival 41, σ.ival 42, σ.ival 43, σ.ival 44, σ.ival 45, σ.ival 46, σ.ival 47]) 6 m39 m46, m46]; exact qb_w (l := [σ.ival 28, σ.ival 10, σ.ival 11, σ.ival 12, σ.ival 13, σ.ival 14, σ.ival 15, σ.ival 16, σ.ival 17]) 6 w16
    have q69 : σ.ival 69 = σ.ival 47 := by
      rw [e69, ht]
      show IntKind.u8.wrap (qb [σ.ival 39, σ.ival 40, σ.ival 41, σ.ival 42, σ.ival 43, σ.ival 44, σ.ival 45, σ.ival 46, σ.ival 47] 7) = _
      rw [qb_of (l := [σ.ival 28, σ.ival 10, σ.ival 11, σ.ival 12, σ.ival 13, σ.ival 14, σ.ival 15, σ.ival 16, σ.ival 17]) (L := [σ.ival 39, σ.ival 40, σ.ival 41, σ.ival 42, σ.ival 43, σ.ival 44, σ.ival 45, σ.ival 46, σ.ival 47]) 7 m39 m47, m47]; exact qb_w (l := [σ.ival 28, σ.ival 10, σ.ival 11, σ.ival 12, σ.ival 13, σ.ival 14, σ.ival 15, σ.ival 16, σ.ival 17]) 7 w17
    have c73 : σ.ival 51 = σ.ival 73 := by
      rw [e73, e72, e70, q61, e71, e51, e50, e48, e49]
      by_cases h0 : σ.ival 39 = 0
      · rw [show (σ.ival 39 == 0) = true by simpa using h0]; rfl
      · rw [show (σ.ival 39 == 0) = false by simpa using h0]
        by_cases h4 : σ.ival 29 ≥ 4
        · rw [show decide (σ.ival 29 ≥ 4) = true by simpa using h4]; rfl
        · rw [show decide (σ.ival 29 ≥ 4) = false by simpa using h4]
          simp only [cond_false]
          rw [show decide (σ.ival 29 ≥ 4) = false by simpa using h4]; rfl
    have c74 : σ.bval 74 = true := by rw [e74, q52, q53, q54, q55, q56, q57, q58, q59, q60, q61, q62, q63, q64, q65, q66, q67, q68, q69, ← c73]; simp
    have c75 : σ.bval 75 = true := by rw [e75, q52, q53, q54, q55, q56, q57, q58, q59, q60]; simp
    have c76 : σ.bval 76 = true := by rw [e76, q61, q62, q63, q64, q65, q66, q67, q68, q69]; simp
    have c78 : σ.bval 78 = true := by rw [e78, e77, c74, c75, c76]; rfl
    intro _
    exact ⟨by show AVal.bool (σ.bval 78) = _; rw [c78]; rfl, trivial⟩)

section
variable {H : Type} {enc : TypeId × Value → H} {P : Program}
theorem post_of_below {f : Func} {s : ChangeSpec} {apart fresh handsOn again : Bool} {W W' : World} {args : Array Value} {v : Value} {ds gs : List (DataW H)} {before pa pv : List MemPlace}
    (hW : DataW.Whole enc P f.params.toList s.vars apart W args.toList ds gs before)
    (hres : ∀ (b : Nat) (sp : Nat → Bool) (hd : Bool), DataW.TrodAll enc P W' b sp hd f.resultTypes.toList (v.resultList f.resultTypes.size) (s.fn H (ds ++ gs)).results [])
    (hargs : ∀ sp : Nat → Bool, (∀ p ∈ before, sp p.block = true) → DataW.TrodAll enc P W' 0 sp true f.params.toList args.toList (s.fn H (ds ++ gs)).args pa)
    (hvars : ∀ sp : Nat → Bool, (∀ p ∈ before, sp p.block = true) → DataW.TrodVars enc P W' sp s.vars (s.fn H (ds ++ gs)).vars pv)
    (hps : before = pa ++ pv) (hb : Below W.heap.size W W')
    (hok : ∀ (j : Nat) (t : TypeId) (r : Value), f.resultTypes[j]? = some t → (v.resultList f.resultTypes.size)[j]? = some r → Value.okWide P W' .any 0 t r) :
    s.post enc P f apart fresh handsOn again W args v W' := by
  have hlt : ∀ p ∈ before, p.block < W.heap.size := fun p hp => hW.lt p hp
  have hold : ∀ p ∈ before, (fun b => decide (b < W.heap.size)) p.block = true := fun p hp => by simpa using hlt p hp
  refine ⟨ds, gs, before, [], pa, pv, hW, hres _ _ _, hargs _ hold, hvars _ hold, World.keptBut_mono (fun p hp => ⟨hp, ?_⟩) (hb.frame (· ∈ before)), fun _ => ?_⟩
  · rw [hps, List.mem_append] at hp
    exact Or.inr hp
  · obtain ⟨_, _, _, _, _, hz, hn⟩ := hW
    refine ⟨hok, _, _, ([] ++ pa) ++ pv, ⟨[] ++ pa, pv, trodAll_append (hargs _ (fun _ _ => rfl)) (hres _ _ _), hvars _ (fun _ _ => rfl), rfl, ?_, ?_⟩, ?_⟩
    · intro b off hp
      have hin : MemPlace.cell b off ∈ before := by rw [hps]; simpa using hp
      rw [hb.frozen (hlt _ hin)]
      exact hz b off hin
    · intro ha
      have := hn ha
      rw [hps] at this
      simpa using this
    · intro p hp _
      rw [hps]
      simpa using hp
end

theorem flat41 : flat Try.prog 6 41 = some [.i .i64, .i .u8, .i .u8, .i .u8, .i .u8, .i .u8, .i .u8, .i .u8, .i .u8, .i .i64, .i .u8, .i .u8, .i .u8, .i .u8, .i .u8, .i .u8, .i .u8, .i .u8, .b, .i .u8, .i .u8] := by kernel_rfl
theorem agg41 : Ev.isAgg Try.prog 41 = true := by kernel_rfl
theorem flat3 : flat Try.prog 6 3 = some [.i .i64] := by kernel_rfl
theorem agg3 : Ev.isAgg Try.prog 3 = false := by kernel_rfl
theorem flat21 : flat Try.prog 6 21 = some [.i .i32] := by kernel_rfl
theorem agg21 : Ev.isAgg Try.prog 21 = false := by kernel_rfl

set_option maxRecDepth 100000 in
theorem lifted (os : Os) (started : os.Started) (H : Type) (enc : TypeId × Value → H) :
    ReturnsInHanded {} Try.checked os 7 .any (Rows.uartTellsSpec.pre6 enc Try.prog Try.f7 Rows.uartTellsRow.domain false) (Rows.uartTellsSpec.post enc Try.prog Try.f7 false true false false) := by
  refine returnsInHanded_of_change (C := Try.checked) own started (by kernel_rfl) Try.func7
    (ChangeSpec.witness6 (enc := enc) (C := Try.checked) false ⟨#[], #[.agg #[.int .i64 0, .int .u8 0, .int .u8 0, .int .u8 0, .int .u8 0, .int .u8 0, .int .u8 0, .int .u8 0, .int .u8 0, .int .i64 0, .int .u8 0, .int .u8 0, .int .u8 0, .int .u8 0, .int .u8 0, .int .u8 0, .int .u8 0, .int .u8 0, .bool false, .int .u8 0, .int .u8 0], .int .i64 0, .int .i32 0], []⟩ 8 (by kernel_rfl) (by kernel_rfl) (by kernel_rfl) (by kernel_rfl)) ?_
  intro W base args ds gs before hval0 hW hcnd _
  have hval : ∀ (j : Nat) t v, Try.f7.params[j]? = some t → args[j]? = some v → Value.okWide Try.prog W .any base t v := hval0
  have hW' := hW
  obtain ⟨p, q, hA0, hV, rfl, hfz, hnd⟩ := hW
  have hA : DataW.TrodAll enc Try.prog W 0 (fun _ => true) true Try.f7.params.toList args.toList ds p := hA0
  rw [Try.params7] at hA hval
  obtain ⟨v0, vs0, d0, ds0, p0, q0, hargs, rfl, rfl, h0, r0⟩ := trodAll_cons hA
  obtain ⟨v1, vs1, d1, ds1, p1, q1, rfl, rfl, rfl, h1, r1⟩ := trodAll_cons r0
  obtain ⟨v2, vs2, d2, ds2, p2, q2, rfl, rfl, rfl, h2, r2⟩ := trodAll_cons r1
  obtain ⟨rfl, rfl, rfl⟩ := trodAll_nil r2
  obtain rfl : args = #[v0, v1, v2] := by cases args; simp_all
  obtain ⟨rfl, rfl⟩ := trodVars_none hV
  obtain ⟨l0, i0, rfl, rfl⟩ := open_agg flat41 agg41 (hval 0 41 v0 rfl rfl) h0
  obtain ⟨x1, i1, rfl, rfl⟩ := open_one flat3 agg3 (hval 1 3 v1 rfl rfl) h1
  obtain ⟨x2, i2, rfl, rfl⟩ := open_one flat21 agg21 (hval 2 21 v2 rfl rfl) h2
  clear hA0 hval0
  simp only [List.append_nil] at hW'
  have hc := holds (l0 ++ ([x1] ++ ([x2] ++ []))) (inR_append i0 (inR_append i1 (inR_append i2 rfl))) W
  rw [show encS ualI (l0 ++ ([x1] ++ ([x2] ++ []))) = [.agg (encCs [.i .i64, .i .u8, .i .u8, .i .u8, .i .u8, .i .u8, .i .u8, .i .u8, .i .u8, .i .i64, .i .u8, .i .u8, .i .u8, .i .u8, .i .u8, .i .u8, .i .u8, .i .u8, .b, .i .u8, .i .u8] l0).toArray, encC (.i .i64) x1, encC (.i .i32) x2] from by
    simp only [ualI, u21]
    rw [encS_agg i0]
    rfl] at hc
  refine hc.mono fun e W' ⟨he, hg⟩ => ?_
  subst he
  exact ⟨_, rfl, post_of_below (pa := []) (pv := []) hW' (fun _ _ _ => (trodAll_cons_mk (shut_bool Try.underlying4 _) trodAll_mk0)) (fun sp _ => (trodAll_cons_mk (shut_flat flat41 h0) (trodAll_cons_mk (shut_flat flat3 h1) (trodAll_cons_mk (shut_flat flat21 h2) trodAll_mk0)))) (fun _ _ => rfl) rfl
    hg (ok_one (by kernel_rfl) rfl (okWide_bool_mk Try.underlying4 _))⟩

theorem over : Rows.uartTellsRow.holds Try.pinned (OpenSpec.ofChange Rows.uartTellsSpec) :=
  OpenClaim.holds_of_wide 7 Try.f7 rfl rfl rfl rfl rfl rfl rfl ⟨rfl, rfl, rfl, rfl, rfl⟩ rfl rfl rfl rfl rfl (by kernel_rfl) Try.func7 (by kernel_rfl)
    (of_decide_eq_true (by kernel_rfl)) (by unfold Func.isWrapper; first | (rw [if_pos (by decide +kernel)]; kernel_rfl) | (rw [if_neg (by decide +kernel)]; exact ⟨rfl, rfl⟩))
    (fun os started H enc _ => lifted os started H enc)

/-- THE STATEMENT -/
theorem proved : Rows.UartTellsSaid :=
  over
#print axioms proved
end Go.Proofs.Ytgifnmiggloclab.uartTells
