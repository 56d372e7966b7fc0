/-
  UartApart is true: a walk over the row of acts; what is received is one in u and in, what is sent in u and out (shared unknowns); u's queues stay right.
  No conditions.
-/
import Derived.Test.YtgifnmiggloclabRows
import Derived.WalkKit
import Derived.ProofKit
import Derived.OpenShut
import Derived.Below
import Derived.ChangeSame
import Derived.Test.YtgifnmiggloclabUc
import Derived.Test.YtgifnmiggloclabEwZd
namespace Go.Proofs.Ytgifnmiggloclab.uartApart
open Go.ChangeShapes Go.WideShapes Go.ChangeAt Go.RowKit
open Go.Ev Go.Proofs.Ytgifnmiggloclab.fc Go.Proofs.Ytgifnmiggloclab.uc
set_option linter.unusedVariables false
set_option linter.unusedSimpArgs false

theorem own : ownKnob Try.prog.godebug = none := by kernel_rfl

theorem works_run : isTrue ((evD Try.prog (cxOf noIng) true 1000 40).1 [] 19 [] ⟨[], []⟩) = true := by kernel_rfl
theorem works_contract : FnOk Try.prog 19 [] [.one .b] (fun _ => [1]) := fun l hl w => closed_hook ⟨rfl, rfl, rfl, rfl, rfl, rfl⟩ mixed (fun F => no_hooks rfl F) works_run w

def uaFs : Nat → List Int → List Int
  | 0 => mendF
  | 1 => pushF
  | 2 => popF
  | _ => peekF
def uaTbl : List Ent := [⟨54, q9, q9, 0⟩, ⟨46, q9b, pushO, 1⟩, ⟨50, q9, popO, 2⟩, ⟨24, peekI, peekO, 3⟩]
def uaTru : List Ent := [⟨19, [], [.one .b], 0⟩]
theorem ua_tru : ∀ e, e ∈ uaTru → FnOk Try.prog e.f e.ins [.one .b] (fun _ => [1]) := by
  intro e he
  simp only [uaTru, List.mem_cons, List.not_mem_nil, or_false] at he
  subst he
  exact works_contract
theorem ua_all : ∀ e, e ∈ uaTbl → (cellsOf e.outs).length ≤ 64 ∧ FnOk Try.prog e.f e.ins e.outs (uaFs e.id) := by
  intro e he
  simp only [uaTbl, List.mem_cons, List.not_mem_nil, or_false] at he
  rcases he with rfl | rfl | rfl | rfl
  · exact ⟨by decide, fmend_contract⟩
  · exact ⟨by decide, fpush_contract⟩
  · exact ⟨by decide, fpop_contract⟩
  · exact ⟨by decide, upeek_contract⟩

def queue (i : Nat) : List AVal := [.symi .i64 i, .symi .u8 (i + 1), .symi .u8 (i + 2), .symi .u8 (i + 3), .symi .u8 (i + 4), .symi .u8 (i + 5), .symi .u8 (i + 6), .symi .u8 (i + 7), .symi .u8 (i + 8)]
def queueK : List (Option IntKind) := [some .i64, some .u8, some .u8, some .u8, some .u8, some .u8, some .u8, some .u8, some .u8]
def uaS0 : Shape := ⟨argT 0 [.row 0], []⟩
/-- all three at the loop's head: what is received is the same in u and in, what is sent in u and out -/
def uaS1 : Shape := ⟨[(0, .row 0), (6, .symi .i64 0), (3, .ptr 0 0), (4, .ptr 1 0), (5, .ptr 2 0)],
  [.cells (queue 2 ++ queue 11 ++ [.symb 20, .symi .u8 21, .symi .u8 22]) 41, .cells (queue 2 ++ queue 23 ++ [.symb 20, .symi .u8 21, .symi .u8 32]) 41, .cells (queue 33 ++ queue 11 ++ [.symb 42, .symi .u8 21, .symi .u8 22]) 41]⟩
def uaS2 : Shape := ⟨[], []⟩
def uaSE : Shape := ⟨[(2, .bool true)], []⟩
def uaQK : List (Option IntKind) := [some .i64, some .i64] ++ queueK ++ queueK ++ [none, some .u8, some .u8] ++ queueK ++ [some .u8] ++ queueK ++ [none]
set_option maxRecDepth 100000 in
def uaAG : List SDef := []

set_option maxRecDepth 100000 in
def uaAT : LT := .e

set_option maxRecDepth 100000 in
def uaAW : Sw := .run (.leaf .normal uaS1 [(0, 0), (1, 0), (2, 0)] [(0, .int .i64 0), (2, .int .i64 0), (3, .int .u8 0), (4, .int .u8 0), (5, .int .u8 0), (6, .int .u8 0), (7, .int .u8 0), (8, .int .u8 0), (9, .int .u8 0), (10, .int .u8 0), (11, .int .i64 0), (12, .int .u8 0), (13, .int .u8 0), (14, .int .u8 0), (15, .int .u8 0), (16, .int .u8 0), (17, .int .u8 0), (18, .int .u8 0), (19, .int .u8 0), (20, .bool false), (21, .int .u8 0), (22, .int .u8 0), (2, .int .i64 0), (3, .int .u8 0), (4, .int .u8 0), (5, .int .u8 0), (6, .int .u8 0), (7, .int .u8 0), (8, .int .u8 0), (9, .int .u8 0), (10, .int .u8 0), (23, .int .i64 0), (24, .int .u8 0), (25, .int .u8 0), (26, .int .u8 0), (27, .int .u8 0), (28, .int .u8 0), (29, .int .u8 0), (30, .int .u8 0), (31, .int .u8 0), (20, .bool false), (21, .int .u8 0), (32, .int .u8 0), (33, .int .i64 0), (34, .int .u8 0), (35, .int .u8 0), (36, .int .u8 0), (37, .int .u8 0), (38, .int .u8 0), (39, .int .u8 0), (40, .int .u8 0), (41, .int .u8 0), (11, .int .i64 0), (12, .int .u8 0), (13, .int .u8 0), (14, .int .u8 0), (15, .int .u8 0), (16, .int .u8 0), (17, .int .u8 0), (18, .int .u8 0), (19, .int .u8 0), (42, .bool false), (21, .int .u8 0), (22, .int .u8 0)] [(1, .symi .i64 1)])
set_option maxRecDepth 100000 in
def uaBG : List SDef := [.bin .lss (.symi .i64 0) (.symi .i64 1),
  .bin .lss (.symi .i64 0) (.int .i64 200),
  .bin .leq (.int .i64 0) (.symi .i64 0),
  .bin .rem (.symi .u8 43) (.int .u8 13),
  .bin .eql (.symi .u8 48) (.int .u8 0),
  .bin .eql (.symi .u8 48) (.int .u8 1),
  .fn 0 .i64 [.symi .i64 2, .symi .u8 3, .symi .u8 4, .symi .u8 5, .symi .u8 6, .symi .u8 7, .symi .u8 8, .symi .u8 9, .symi .u8 10],
  .fn 1 .u8 [.symi .i64 2, .symi .u8 3, .symi .u8 4, .symi .u8 5, .symi .u8 6, .symi .u8 7, .symi .u8 8, .symi .u8 9, .symi .u8 10],
  .fn 2 .u8 [.symi .i64 2, .symi .u8 3, .symi .u8 4, .symi .u8 5, .symi .u8 6, .symi .u8 7, .symi .u8 8, .symi .u8 9, .symi .u8 10],
  .fn 3 .u8 [.symi .i64 2, .symi .u8 3, .symi .u8 4, .symi .u8 5, .symi .u8 6, .symi .u8 7, .symi .u8 8, .symi .u8 9, .symi .u8 10],
  .fn 4 .u8 [.symi .i64 2, .symi .u8 3, .symi .u8 4, .symi .u8 5, .symi .u8 6, .symi .u8 7, .symi .u8 8, .symi .u8 9, .symi .u8 10],
  .fn 5 .u8 [.symi .i64 2, .symi .u8 3, .symi .u8 4, .symi .u8 5, .symi .u8 6, .symi .u8 7, .symi .u8 8, .symi .u8 9, .symi .u8 10],
  .fn 6 .u8 [.symi .i64 2, .symi .u8 3, .symi .u8 4, .symi .u8 5, .symi .u8 6, .symi .u8 7, .symi .u8 8, .symi .u8 9, .symi .u8 10],
  .fn 7 .u8 [.symi .i64 2, .symi .u8 3, .symi .u8 4, .symi .u8 5, .symi .u8 6, .symi .u8 7, .symi .u8 8, .symi .u8 9, .symi .u8 10],
  .fn 8 .u8 [.symi .i64 2, .symi .u8 3, .symi .u8 4, .symi .u8 5, .symi .u8 6, .symi .u8 7, .symi .u8 8, .symi .u8 9, .symi .u8 10],
  .fn 0 .i64 [.symi .i64 11, .symi .u8 12, .symi .u8 13, .symi .u8 14, .symi .u8 15, .symi .u8 16, .symi .u8 17, .symi .u8 18, .symi .u8 19],
  .fn 1 .u8 [.symi .i64 11, .symi .u8 12, .symi .u8 13, .symi .u8 14, .symi .u8 15, .symi .u8 16, .symi .u8 17, .symi .u8 18, .symi .u8 19],
  .fn 2 .u8 [.symi .i64 11, .symi .u8 12, .symi .u8 13, .symi .u8 14, .symi .u8 15, .symi .u8 16, .symi .u8 17, .symi .u8 18, .symi .u8 19],
  .fn 3 .u8 [.symi .i64 11, .symi .u8 12, .symi .u8 13, .symi .u8 14, .symi .u8 15, .symi .u8 16, .symi .u8 17, .symi .u8 18, .symi .u8 19],
  .fn 4 .u8 [.symi .i64 11, .symi .u8 12, .symi .u8 13, .symi .u8 14, .symi .u8 15, .symi .u8 16, .symi .u8 17, .symi .u8 18, .symi .u8 19],
  .fn 5 .u8 [.symi .i64 11, .symi .u8 12, .symi .u8 13, .symi .u8 14, .symi .u8 15, .symi .u8 16, .symi .u8 17, .symi .u8 18, .symi .u8 19],
  .fn 6 .u8 [.symi .i64 11, .symi .u8 12, .symi .u8 13, .symi .u8 14, .symi .u8 15, .symi .u8 16, .symi .u8 17, .symi .u8 18, .symi .u8 19],
  .fn 7 .u8 [.symi .i64 11, .symi .u8 12, .symi .u8 13, .symi .u8 14, .symi .u8 15, .symi .u8 16, .symi .u8 17, .symi .u8 18, .symi .u8 19],
  .fn 8 .u8 [.symi .i64 11, .symi .u8 12, .symi .u8 13, .symi .u8 14, .symi .u8 15, .symi .u8 16, .symi .u8 17, .symi .u8 18, .symi .u8 19],
  .bin .eql (.symi .i64 60) (.int .i64 0),
  .bin .geq (.symi .u8 22) (.int .u8 4),
  .ite (.symb 70) (.int .u8 0) (.symi .u8 22),
  .ite (.symb 69) (.int .u8 0) (.symi .u8 71),
  .fn 64 .i64 [.symi .i64 51, .symi .u8 52, .symi .u8 53, .symi .u8 54, .symi .u8 55, .symi .u8 56, .symi .u8 57, .symi .u8 58, .symi .u8 59, .symi .u8 44],
  .fn 65 .u8 [.symi .i64 51, .symi .u8 52, .symi .u8 53, .symi .u8 54, .symi .u8 55, .symi .u8 56, .symi .u8 57, .symi .u8 58, .symi .u8 59, .symi .u8 44],
  .fn 66 .u8 [.symi .i64 51, .symi .u8 52, .symi .u8 53, .symi .u8 54, .symi .u8 55, .symi .u8 56, .symi .u8 57, .symi .u8 58, .symi .u8 59, .symi .u8 44],
  .fn 67 .u8 [.symi .i64 51, .symi .u8 52, .symi .u8 53, .symi .u8 54, .symi .u8 55, .symi .u8 56, .symi .u8 57, .symi .u8 58, .symi .u8 59, .symi .u8 44],
  .fn 68 .u8 [.symi .i64 51, .symi .u8 52, .symi .u8 53, .symi .u8 54, .symi .u8 55, .symi .u8 56, .symi .u8 57, .symi .u8 58, .symi .u8 59, .symi .u8 44],
  .fn 69 .u8 [.symi .i64 51, .symi .u8 52, .symi .u8 53, .symi .u8 54, .symi .u8 55, .symi .u8 56, .symi .u8 57, .symi .u8 58, .symi .u8 59, .symi .u8 44],
  .fn 70 .u8 [.symi .i64 51, .symi .u8 52, .symi .u8 53, .symi .u8 54, .symi .u8 55, .symi .u8 56, .symi .u8 57, .symi .u8 58, .symi .u8 59, .symi .u8 44],
  .fn 71 .u8 [.symi .i64 51, .symi .u8 52, .symi .u8 53, .symi .u8 54, .symi .u8 55, .symi .u8 56, .symi .u8 57, .symi .u8 58, .symi .u8 59, .symi .u8 44],
  .fn 72 .u8 [.symi .i64 51, .symi .u8 52, .symi .u8 53, .symi .u8 54, .symi .u8 55, .symi .u8 56, .symi .u8 57, .symi .u8 58, .symi .u8 59, .symi .u8 44],
  .fnb 73 [.symi .i64 51, .symi .u8 52, .symi .u8 53, .symi .u8 54, .symi .u8 55, .symi .u8 56, .symi .u8 57, .symi .u8 58, .symi .u8 59, .symi .u8 44],
  .un .not (.symb 82),
  .bin .and (.symi .u8 21) (.int .u8 1),
  .bin .neq (.symi .u8 84) (.int .u8 0),
  .ite (.symb 82) (.symb 85) (.bool false),
  .ite (.symb 20) (.bool true) (.symb 83),
  .fn 0 .i64 [.symi .i64 23, .symi .u8 24, .symi .u8 25, .symi .u8 26, .symi .u8 27, .symi .u8 28, .symi .u8 29, .symi .u8 30, .symi .u8 31],
  .fn 1 .u8 [.symi .i64 23, .symi .u8 24, .symi .u8 25, .symi .u8 26, .symi .u8 27, .symi .u8 28, .symi .u8 29, .symi .u8 30, .symi .u8 31],
  .fn 2 .u8 [.symi .i64 23, .symi .u8 24, .symi .u8 25, .symi .u8 26, .symi .u8 27, .symi .u8 28, .symi .u8 29, .symi .u8 30, .symi .u8 31],
  .fn 3 .u8 [.symi .i64 23, .symi .u8 24, .symi .u8 25, .symi .u8 26, .symi .u8 27, .symi .u8 28, .symi .u8 29, .symi .u8 30, .symi .u8 31],
  .fn 4 .u8 [.symi .i64 23, .symi .u8 24, .symi .u8 25, .symi .u8 26, .symi .u8 27, .symi .u8 28, .symi .u8 29, .symi .u8 30, .symi .u8 31],
  .fn 5 .u8 [.symi .i64 23, .symi .u8 24, .symi .u8 25, .symi .u8 26, .symi .u8 27, .symi .u8 28, .symi .u8 29, .symi .u8 30, .symi .u8 31],
  .fn 6 .u8 [.symi .i64 23, .symi .u8 24, .symi .u8 25, .symi .u8 26, .symi .u8 27, .symi .u8 28, .symi .u8 29, .symi .u8 30, .symi .u8 31],
  .fn 7 .u8 [.symi .i64 23, .symi .u8 24, .symi .u8 25, .symi .u8 26, .symi .u8 27, .symi .u8 28, .symi .u8 29, .symi .u8 30, .symi .u8 31],
  .fn 8 .u8 [.symi .i64 23, .symi .u8 24, .symi .u8 25, .symi .u8 26, .symi .u8 27, .symi .u8 28, .symi .u8 29, .symi .u8 30, .symi .u8 31],
  .bin .eql (.symi .i64 88) (.int .i64 0),
  .bin .geq (.symi .u8 32) (.int .u8 4),
  .ite (.symb 98) (.int .u8 0) (.symi .u8 32),
  .ite (.symb 97) (.int .u8 0) (.symi .u8 99),
  .bin .eql (.symi .u8 48) (.int .u8 2),
  .bin .eql (.symi .u8 48) (.int .u8 3),
  .bin .eql (.symi .u8 48) (.int .u8 12),
  .fn 192 .i32 [.symi .i64 2, .symi .u8 3, .symi .u8 4, .symi .u8 5, .symi .u8 6, .symi .u8 7, .symi .u8 8, .symi .u8 9, .symi .u8 10, .symi .i64 11, .symi .u8 12, .symi .u8 13, .symi .u8 14, .symi .u8 15, .symi .u8 16, .symi .u8 17, .symi .u8 18, .symi .u8 19, .symb 20, .symi .u8 21, .symi .u8 22, .int .i64 4],
  .fn 192 .i32 [.symi .i64 2, .symi .u8 3, .symi .u8 4, .symi .u8 5, .symi .u8 6, .symi .u8 7, .symi .u8 8, .symi .u8 9, .symi .u8 10, .symi .i64 23, .symi .u8 24, .symi .u8 25, .symi .u8 26, .symi .u8 27, .symi .u8 28, .symi .u8 29, .symi .u8 30, .symi .u8 31, .symb 20, .symi .u8 21, .symi .u8 32, .int .i64 4],
  .bin .and (.symi .i32 104) (.int .i32 5),
  .bin .and (.symi .i32 105) (.int .i32 5),
  .bin .neq (.symi .i32 106) (.symi .i32 107),
  .fn 192 .i32 [.symi .i64 2, .symi .u8 3, .symi .u8 4, .symi .u8 5, .symi .u8 6, .symi .u8 7, .symi .u8 8, .symi .u8 9, .symi .u8 10, .symi .i64 11, .symi .u8 12, .symi .u8 13, .symi .u8 14, .symi .u8 15, .symi .u8 16, .symi .u8 17, .symi .u8 18, .symi .u8 19, .symb 20, .symi .u8 21, .symi .u8 22, .int .i64 3],
  .fn 128 .u8 [.symi .i64 51, .symi .u8 52, .symi .u8 53, .symi .u8 54, .symi .u8 55, .symi .u8 56, .symi .u8 57, .symi .u8 58, .symi .u8 59],
  .fn 129 .i64 [.symi .i64 51, .symi .u8 52, .symi .u8 53, .symi .u8 54, .symi .u8 55, .symi .u8 56, .symi .u8 57, .symi .u8 58, .symi .u8 59],
  .fn 130 .u8 [.symi .i64 51, .symi .u8 52, .symi .u8 53, .symi .u8 54, .symi .u8 55, .symi .u8 56, .symi .u8 57, .symi .u8 58, .symi .u8 59],
  .fn 131 .u8 [.symi .i64 51, .symi .u8 52, .symi .u8 53, .symi .u8 54, .symi .u8 55, .symi .u8 56, .symi .u8 57, .symi .u8 58, .symi .u8 59],
  .fn 132 .u8 [.symi .i64 51, .symi .u8 52, .symi .u8 53, .symi .u8 54, .symi .u8 55, .symi .u8 56, .symi .u8 57, .symi .u8 58, .symi .u8 59],
  .fn 133 .u8 [.symi .i64 51, .symi .u8 52, .symi .u8 53, .symi .u8 54, .symi .u8 55, .symi .u8 56, .symi .u8 57, .symi .u8 58, .symi .u8 59],
  .fn 134 .u8 [.symi .i64 51, .symi .u8 52, .symi .u8 53, .symi .u8 54, .symi .u8 55, .symi .u8 56, .symi .u8 57, .symi .u8 58, .symi .u8 59],
  .fn 135 .u8 [.symi .i64 51, .symi .u8 52, .symi .u8 53, .symi .u8 54, .symi .u8 55, .symi .u8 56, .symi .u8 57, .symi .u8 58, .symi .u8 59],
  .fn 136 .u8 [.symi .i64 51, .symi .u8 52, .symi .u8 53, .symi .u8 54, .symi .u8 55, .symi .u8 56, .symi .u8 57, .symi .u8 58, .symi .u8 59],
  .fn 137 .u8 [.symi .i64 51, .symi .u8 52, .symi .u8 53, .symi .u8 54, .symi .u8 55, .symi .u8 56, .symi .u8 57, .symi .u8 58, .symi .u8 59],
  .fnb 138 [.symi .i64 51, .symi .u8 52, .symi .u8 53, .symi .u8 54, .symi .u8 55, .symi .u8 56, .symi .u8 57, .symi .u8 58, .symi .u8 59],
  .fn 192 .i32 [.symi .i64 2, .symi .u8 3, .symi .u8 4, .symi .u8 5, .symi .u8 6, .symi .u8 7, .symi .u8 8, .symi .u8 9, .symi .u8 10, .symi .i64 23, .symi .u8 24, .symi .u8 25, .symi .u8 26, .symi .u8 27, .symi .u8 28, .symi .u8 29, .symi .u8 30, .symi .u8 31, .symb 20, .symi .u8 21, .symi .u8 32, .int .i64 3],
  .bin .neq (.symi .i32 109) (.symi .i32 121),
  .bin .and (.symi .i32 109) (.int .i32 5),
  .bin .and (.symi .i32 121) (.int .i32 5),
  .bin .neq (.symi .i32 123) (.symi .i32 124),
  .bin .eql (.symi .u8 48) (.int .u8 4),
  .bin .eql (.symi .u8 48) (.int .u8 5),
  .conv .i32 (.symi .u8 44),
  .conv .u8 (.symi .i32 128),
  .fn 64 .i64 [.symi .i64 60, .symi .u8 61, .symi .u8 62, .symi .u8 63, .symi .u8 64, .symi .u8 65, .symi .u8 66, .symi .u8 67, .symi .u8 68, .symi .u8 129],
  .fn 65 .u8 [.symi .i64 60, .symi .u8 61, .symi .u8 62, .symi .u8 63, .symi .u8 64, .symi .u8 65, .symi .u8 66, .symi .u8 67, .symi .u8 68, .symi .u8 129],
  .fn 66 .u8 [.symi .i64 60, .symi .u8 61, .symi .u8 62, .symi .u8 63, .symi .u8 64, .symi .u8 65, .symi .u8 66, .symi .u8 67, .symi .u8 68, .symi .u8 129],
  .fn 67 .u8 [.symi .i64 60, .symi .u8 61, .symi .u8 62, .symi .u8 63, .symi .u8 64, .symi .u8 65, .symi .u8 66, .symi .u8 67, .symi .u8 68, .symi .u8 129],
  .fn 68 .u8 [.symi .i64 60, .symi .u8 61, .symi .u8 62, .symi .u8 63, .symi .u8 64, .symi .u8 65, .symi .u8 66, .symi .u8 67, .symi .u8 68, .symi .u8 129],
  .fn 69 .u8 [.symi .i64 60, .symi .u8 61, .symi .u8 62, .symi .u8 63, .symi .u8 64, .symi .u8 65, .symi .u8 66, .symi .u8 67, .symi .u8 68, .symi .u8 129],
  .fn 70 .u8 [.symi .i64 60, .symi .u8 61, .symi .u8 62, .symi .u8 63, .symi .u8 64, .symi .u8 65, .symi .u8 66, .symi .u8 67, .symi .u8 68, .symi .u8 129],
  .fn 71 .u8 [.symi .i64 60, .symi .u8 61, .symi .u8 62, .symi .u8 63, .symi .u8 64, .symi .u8 65, .symi .u8 66, .symi .u8 67, .symi .u8 68, .symi .u8 129],
  .fn 72 .u8 [.symi .i64 60, .symi .u8 61, .symi .u8 62, .symi .u8 63, .symi .u8 64, .symi .u8 65, .symi .u8 66, .symi .u8 67, .symi .u8 68, .symi .u8 129],
  .fnb 73 [.symi .i64 60, .symi .u8 61, .symi .u8 62, .symi .u8 63, .symi .u8 64, .symi .u8 65, .symi .u8 66, .symi .u8 67, .symi .u8 68, .symi .u8 129],
  .fn 0 .i64 [.symi .i64 33, .symi .u8 34, .symi .u8 35, .symi .u8 36, .symi .u8 37, .symi .u8 38, .symi .u8 39, .symi .u8 40, .symi .u8 41],
  .fn 1 .u8 [.symi .i64 33, .symi .u8 34, .symi .u8 35, .symi .u8 36, .symi .u8 37, .symi .u8 38, .symi .u8 39, .symi .u8 40, .symi .u8 41],
  .fn 2 .u8 [.symi .i64 33, .symi .u8 34, .symi .u8 35, .symi .u8 36, .symi .u8 37, .symi .u8 38, .symi .u8 39, .symi .u8 40, .symi .u8 41],
  .fn 3 .u8 [.symi .i64 33, .symi .u8 34, .symi .u8 35, .symi .u8 36, .symi .u8 37, .symi .u8 38, .symi .u8 39, .symi .u8 40, .symi .u8 41],
  .fn 4 .u8 [.symi .i64 33, .symi .u8 34, .symi .u8 35, .symi .u8 36, .symi .u8 37, .symi .u8 38, .symi .u8 39, .symi .u8 40, .symi .u8 41],
  .fn 5 .u8 [.symi .i64 33, .symi .u8 34, .symi .u8 35, .symi .u8 36, .symi .u8 37, .symi .u8 38, .symi .u8 39, .symi .u8 40, .symi .u8 41],
  .fn 6 .u8 [.symi .i64 33, .symi .u8 34, .symi .u8 35, .symi .u8 36, .symi .u8 37, .symi .u8 38, .symi .u8 39, .symi .u8 40, .symi .u8 41],
  .fn 7 .u8 [.symi .i64 33, .symi .u8 34, .symi .u8 35, .symi .u8 36, .symi .u8 37, .symi .u8 38, .symi .u8 39, .symi .u8 40, .symi .u8 41],
  .fn 8 .u8 [.symi .i64 33, .symi .u8 34, .symi .u8 35, .symi .u8 36, .symi .u8 37, .symi .u8 38, .symi .u8 39, .symi .u8 40, .symi .u8 41],
  .bin .eql (.symi .u8 48) (.int .u8 11),
  .bin .gtr (.symi .i64 60) (.int .i64 0),
  .bin .add (.symi .u8 72) (.int .u8 1),
  .bin .eql (.symi .u8 151) (.int .u8 4),
  .fn 128 .u8 [.symi .i64 60, .symi .u8 61, .symi .u8 62, .symi .u8 63, .symi .u8 64, .symi .u8 65, .symi .u8 66, .symi .u8 67, .symi .u8 68],
  .fn 129 .i64 [.symi .i64 60, .symi .u8 61, .symi .u8 62, .symi .u8 63, .symi .u8 64, .symi .u8 65, .symi .u8 66, .symi .u8 67, .symi .u8 68],
  .fn 130 .u8 [.symi .i64 60, .symi .u8 61, .symi .u8 62, .symi .u8 63, .symi .u8 64, .symi .u8 65, .symi .u8 66, .symi .u8 67, .symi .u8 68],
  .fn 131 .u8 [.symi .i64 60, .symi .u8 61, .symi .u8 62, .symi .u8 63, .symi .u8 64, .symi .u8 65, .symi .u8 66, .symi .u8 67, .symi .u8 68],
  .fn 132 .u8 [.symi .i64 60, .symi .u8 61, .symi .u8 62, .symi .u8 63, .symi .u8 64, .symi .u8 65, .symi .u8 66, .symi .u8 67, .symi .u8 68],
  .fn 133 .u8 [.symi .i64 60, .symi .u8 61, .symi .u8 62, .symi .u8 63, .symi .u8 64, .symi .u8 65, .symi .u8 66, .symi .u8 67, .symi .u8 68],
  .fn 134 .u8 [.symi .i64 60, .symi .u8 61, .symi .u8 62, .symi .u8 63, .symi .u8 64, .symi .u8 65, .symi .u8 66, .symi .u8 67, .symi .u8 68],
  .fn 135 .u8 [.symi .i64 60, .symi .u8 61, .symi .u8 62, .symi .u8 63, .symi .u8 64, .symi .u8 65, .symi .u8 66, .symi .u8 67, .symi .u8 68],
  .fn 136 .u8 [.symi .i64 60, .symi .u8 61, .symi .u8 62, .symi .u8 63, .symi .u8 64, .symi .u8 65, .symi .u8 66, .symi .u8 67, .symi .u8 68],
  .fn 137 .u8 [.symi .i64 60, .symi .u8 61, .symi .u8 62, .symi .u8 63, .symi .u8 64, .symi .u8 65, .symi .u8 66, .symi .u8 67, .symi .u8 68],
  .fnb 138 [.symi .i64 60, .symi .u8 61, .symi .u8 62, .symi .u8 63, .symi .u8 64, .symi .u8 65, .symi .u8 66, .symi .u8 67, .symi .u8 68],
  .bin .eql (.symi .i64 154) (.int .i64 0),
  .bin .and (.symi .u8 21) (.int .u8 2),
  .bin .neq (.symi .u8 165) (.int .u8 0),
  .ite (.symb 164) (.symb 166) (.bool false),
  .ite (.symb 152) (.symi .i64 154) (.symi .i64 60),
  .ite (.symb 152) (.symi .u8 155) (.symi .u8 61),
  .ite (.symb 152) (.symi .u8 156) (.symi .u8 62),
  .ite (.symb 152) (.symi .u8 157) (.symi .u8 63),
  .ite (.symb 152) (.symi .u8 158) (.symi .u8 64),
  .ite (.symb 152) (.symi .u8 159) (.symi .u8 65),
  .ite (.symb 152) (.symi .u8 160) (.symi .u8 66),
  .ite (.symb 152) (.symi .u8 161) (.symi .u8 67),
  .ite (.symb 152) (.symi .u8 162) (.symi .u8 68),
  .ite (.symb 152) (.int .u8 0) (.symi .u8 151),
  .ite (.symb 152) (.symi .u8 153) (.int .u8 0),
  .ite (.symb 152) (.symb 163) (.bool false),
  .ite (.symb 152) (.symb 167) (.bool false),
  .ite (.symb 150) (.symi .i64 168) (.symi .i64 60),
  .ite (.symb 150) (.symi .u8 169) (.symi .u8 61),
  .ite (.symb 150) (.symi .u8 170) (.symi .u8 62),
  .ite (.symb 150) (.symi .u8 171) (.symi .u8 63),
  .ite (.symb 150) (.symi .u8 172) (.symi .u8 64),
  .ite (.symb 150) (.symi .u8 173) (.symi .u8 65),
  .ite (.symb 150) (.symi .u8 174) (.symi .u8 66),
  .ite (.symb 150) (.symi .u8 175) (.symi .u8 67),
  .ite (.symb 150) (.symi .u8 176) (.symi .u8 68),
  .ite (.symb 150) (.symi .u8 177) (.symi .u8 72),
  .ite (.symb 150) (.symi .u8 178) (.int .u8 0),
  .ite (.symb 150) (.symb 179) (.bool false),
  .ite (.symb 150) (.symb 180) (.bool false),
  .ite (.symb 149) (.symi .i64 60) (.symi .i64 181),
  .ite (.symb 149) (.symi .u8 61) (.symi .u8 182),
  .ite (.symb 149) (.symi .u8 62) (.symi .u8 183),
  .ite (.symb 149) (.symi .u8 63) (.symi .u8 184),
  .ite (.symb 149) (.symi .u8 64) (.symi .u8 185),
  .ite (.symb 149) (.symi .u8 65) (.symi .u8 186),
  .ite (.symb 149) (.symi .u8 66) (.symi .u8 187),
  .ite (.symb 149) (.symi .u8 67) (.symi .u8 188),
  .ite (.symb 149) (.symi .u8 68) (.symi .u8 189),
  .ite (.symb 149) (.symi .u8 129) (.symi .u8 21),
  .ite (.symb 149) (.symi .u8 72) (.symi .u8 190),
  .ite (.symb 149) (.symi .i64 51) (.symi .i64 2),
  .ite (.symb 149) (.symi .u8 52) (.symi .u8 3),
  .ite (.symb 149) (.symi .u8 53) (.symi .u8 4),
  .ite (.symb 149) (.symi .u8 54) (.symi .u8 5),
  .ite (.symb 149) (.symi .u8 55) (.symi .u8 6),
  .ite (.symb 149) (.symi .u8 56) (.symi .u8 7),
  .ite (.symb 149) (.symi .u8 57) (.symi .u8 8),
  .ite (.symb 149) (.symi .u8 58) (.symi .u8 9),
  .ite (.symb 149) (.symi .u8 59) (.symi .u8 10),
  .ite (.symb 149) (.symi .i64 88) (.symi .i64 23),
  .ite (.symb 149) (.symi .u8 89) (.symi .u8 24),
  .ite (.symb 149) (.symi .u8 90) (.symi .u8 25),
  .ite (.symb 149) (.symi .u8 91) (.symi .u8 26),
  .ite (.symb 149) (.symi .u8 92) (.symi .u8 27),
  .ite (.symb 149) (.symi .u8 93) (.symi .u8 28),
  .ite (.symb 149) (.symi .u8 94) (.symi .u8 29),
  .ite (.symb 149) (.symi .u8 95) (.symi .u8 30),
  .ite (.symb 149) (.symi .u8 96) (.symi .u8 31),
  .ite (.symb 149) (.symi .u8 100) (.symi .u8 32),
  .ite (.symb 127) (.symi .i64 130) (.symi .i64 194),
  .ite (.symb 127) (.symi .u8 131) (.symi .u8 195),
  .ite (.symb 127) (.symi .u8 132) (.symi .u8 196),
  .ite (.symb 127) (.symi .u8 133) (.symi .u8 197),
  .ite (.symb 127) (.symi .u8 134) (.symi .u8 198),
  .ite (.symb 127) (.symi .u8 135) (.symi .u8 199),
  .ite (.symb 127) (.symi .u8 136) (.symi .u8 200),
  .ite (.symb 127) (.symi .u8 137) (.symi .u8 201),
  .ite (.symb 127) (.symi .u8 138) (.symi .u8 202),
  .ite (.symb 127) (.symi .u8 21) (.symi .u8 203),
  .ite (.symb 127) (.symi .u8 72) (.symi .u8 204),
  .ite (.symb 127) (.symi .i64 2) (.symi .i64 205),
  .ite (.symb 127) (.symi .u8 3) (.symi .u8 206),
  .ite (.symb 127) (.symi .u8 4) (.symi .u8 207),
  .ite (.symb 127) (.symi .u8 5) (.symi .u8 208),
  .ite (.symb 127) (.symi .u8 6) (.symi .u8 209),
  .ite (.symb 127) (.symi .u8 7) (.symi .u8 210),
  .ite (.symb 127) (.symi .u8 8) (.symi .u8 211),
  .ite (.symb 127) (.symi .u8 9) (.symi .u8 212),
  .ite (.symb 127) (.symi .u8 10) (.symi .u8 213),
  .ite (.symb 127) (.symi .i64 23) (.symi .i64 214),
  .ite (.symb 127) (.symi .u8 24) (.symi .u8 215),
  .ite (.symb 127) (.symi .u8 25) (.symi .u8 216),
  .ite (.symb 127) (.symi .u8 26) (.symi .u8 217),
  .ite (.symb 127) (.symi .u8 27) (.symi .u8 218),
  .ite (.symb 127) (.symi .u8 28) (.symi .u8 219),
  .ite (.symb 127) (.symi .u8 29) (.symi .u8 220),
  .ite (.symb 127) (.symi .u8 30) (.symi .u8 221),
  .ite (.symb 127) (.symi .u8 31) (.symi .u8 222),
  .ite (.symb 127) (.symi .u8 32) (.symi .u8 223),
  .ite (.symb 126) (.symb 126) (.symb 127),
  .ite (.symb 126) (.symi .i64 130) (.symi .i64 224),
  .ite (.symb 126) (.symi .u8 131) (.symi .u8 225),
  .ite (.symb 126) (.symi .u8 132) (.symi .u8 226),
  .ite (.symb 126) (.symi .u8 133) (.symi .u8 227),
  .ite (.symb 126) (.symi .u8 134) (.symi .u8 228),
  .ite (.symb 126) (.symi .u8 135) (.symi .u8 229),
  .ite (.symb 126) (.symi .u8 136) (.symi .u8 230),
  .ite (.symb 126) (.symi .u8 137) (.symi .u8 231),
  .ite (.symb 126) (.symi .u8 138) (.symi .u8 232),
  .ite (.symb 126) (.symi .u8 21) (.symi .u8 233),
  .ite (.symb 126) (.symi .u8 72) (.symi .u8 234),
  .ite (.symb 126) (.symi .i64 2) (.symi .i64 235),
  .ite (.symb 126) (.symi .u8 3) (.symi .u8 236),
  .ite (.symb 126) (.symi .u8 4) (.symi .u8 237),
  .ite (.symb 126) (.symi .u8 5) (.symi .u8 238),
  .ite (.symb 126) (.symi .u8 6) (.symi .u8 239),
  .ite (.symb 126) (.symi .u8 7) (.symi .u8 240),
  .ite (.symb 126) (.symi .u8 8) (.symi .u8 241),
  .ite (.symb 126) (.symi .u8 9) (.symi .u8 242),
  .ite (.symb 126) (.symi .u8 10) (.symi .u8 243),
  .ite (.symb 126) (.symi .i64 23) (.symi .i64 244),
  .ite (.symb 126) (.symi .u8 24) (.symi .u8 245),
  .ite (.symb 126) (.symi .u8 25) (.symi .u8 246),
  .ite (.symb 126) (.symi .u8 26) (.symi .u8 247),
  .ite (.symb 126) (.symi .u8 27) (.symi .u8 248),
  .ite (.symb 126) (.symi .u8 28) (.symi .u8 249),
  .ite (.symb 126) (.symi .u8 29) (.symi .u8 250),
  .ite (.symb 126) (.symi .u8 30) (.symi .u8 251),
  .ite (.symb 126) (.symi .u8 31) (.symi .u8 252),
  .ite (.symb 126) (.symi .u8 32) (.symi .u8 253),
  .all [(.symi .i64 60, .symi .i64 11), (.symi .u8 61, .symi .u8 12), (.symi .u8 62, .symi .u8 13), (.symi .u8 63, .symi .u8 14), (.symi .u8 64, .symi .u8 15), (.symi .u8 65, .symi .u8 16), (.symi .u8 66, .symi .u8 17), (.symi .u8 67, .symi .u8 18), (.symi .u8 68, .symi .u8 19)],
  .un .not (.symb 285),
  .bin .neq (.symi .u8 72) (.symi .u8 22),
  .all [(.symi .i64 51, .symi .i64 266), (.symi .u8 52, .symi .u8 267), (.symi .u8 53, .symi .u8 268), (.symi .u8 54, .symi .u8 269), (.symi .u8 55, .symi .u8 270), (.symi .u8 56, .symi .u8 271), (.symi .u8 57, .symi .u8 272), (.symi .u8 58, .symi .u8 273), (.symi .u8 59, .symi .u8 274)],
  .un .not (.symb 288),
  .bin .add (.symi .i64 0) (.int .i64 1)]

set_option maxRecDepth 100000 in
def uaBT : LT := .n (.n (.n (.n (.n (.n (.n (.n (.e) 30227 47 (.bin .leq (.int .i64 0) (.symi .i64 0)) (.e)) 60352 290 (.bin .add (.symi .i64 0) (.int .i64 1)) (.n (.e) 261339 204 (.ite (.symb 149) (.symi .u8 72) (.symi .u8 190)) (.e))) 7601256 245 (.ite (.symb 127) (.symi .u8 24) (.symi .u8 215)) (.n (.n (.e) 8219956 184 (.ite (.symb 150) (.symi .u8 171) (.symi .u8 63)) (.e)) 10017408 46 (.bin .lss (.symi .i64 0) (.int .i64 200)) (.n (.e) 10994784 98 (.bin .geq (.symi .u8 32) (.int .u8 4)) (.e)))) 15772107 215 (.ite (.symb 149) (.symi .u8 89) (.symi .u8 24)) (.n (.n (.n (.e) 27000025 201 (.ite (.symb 149) (.symi .u8 67) (.symi .u8 188)) (.e)) 36858568 271 (.ite (.symb 126) (.symi .u8 7) (.symi .u8 240)) (.n (.e) 45021364 130 (.fn 64 .i64 [.symi .i64 60, .symi .u8 61, .symi .u8 62, .symi .u8 63, .symi .u8 64, .symi .u8 65, .symi .u8 66, .symi .u8 67, .symi .u8 68, .symi .u8 129]) (.e))) 45021407 131 (.fn 65 .u8 [.symi .i64 60, .symi .u8 61, .symi .u8 62, .symi .u8 63, .symi .u8 64, .symi .u8 65, .symi .u8 66, .symi .u8 67, .symi .u8 68, .symi .u8 129]) (.n (.n (.e) 45021450 132 (.fn 66 .u8 [.symi .i64 60, .symi .u8 61, .symi .u8 62, .symi .u8 63, .symi .u8 64, .symi .u8 65, .symi .u8 66, .symi .u8 67, .symi .u8 68, .symi .u8 129]) (.e)) 45021493 133 (.fn 67 .u8 [.symi .i64 60, .symi .u8 61, .symi .u8 62, .symi .u8 63, .symi .u8 64, .symi .u8 65, .symi .u8 66, .symi .u8 67, .symi .u8 68, .symi .u8 129]) (.n (.e) 45021536 134 (.fn 68 .u8 [.symi .i64 60, .symi .u8 61, .symi .u8 62, .symi .u8 63, .symi .u8 64, .symi .u8 65, .symi .u8 66, .symi .u8 67, .symi .u8 68, .symi .u8 129]) (.e))))) 45021579 135 (.fn 69 .u8 [.symi .i64 60, .symi .u8 61, .symi .u8 62, .symi .u8 63, .symi .u8 64, .symi .u8 65, .symi .u8 66, .symi .u8 67, .symi .u8 68, .symi .u8 129]) (.n (.n (.n (.n (.e) 45021622 136 (.fn 70 .u8 [.symi .i64 60, .symi .u8 61, .symi .u8 62, .symi .u8 63, .symi .u8 64, .symi .u8 65, .symi .u8 66, .symi .u8 67, .symi .u8 68, .symi .u8 129]) (.e)) 45021665 137 (.fn 71 .u8 [.symi .i64 60, .symi .u8 61, .symi .u8 62, .symi .u8 63, .symi .u8 64, .symi .u8 65, .symi .u8 66, .symi .u8 67, .symi .u8 68, .symi .u8 129]) (.n (.e) 45021708 138 (.fn 72 .u8 [.symi .i64 60, .symi .u8 61, .symi .u8 62, .symi .u8 63, .symi .u8 64, .symi .u8 65, .symi .u8 66, .symi .u8 67, .symi .u8 68, .symi .u8 129]) (.e))) 45738101 225 (.ite (.symb 127) (.symi .u8 131) (.symi .u8 195)) (.n (.n (.e) 47705626 170 (.ite (.symb 152) (.symi .u8 156) (.symi .u8 62)) (.e)) 47942444 210 (.ite (.symb 149) (.symi .u8 56) (.symi .u8 7)) (.n (.e) 48706521 48 (.bin .rem (.symi .u8 43) (.int .u8 13)) (.e)))) 56165597 283 (.ite (.symb 126) (.symi .u8 31) (.symi .u8 252)) (.n (.n (.n (.e) 63477417 139 (.fnb 73 [.symi .i64 60, .symi .u8 61, .symi .u8 62, .symi .u8 63, .symi .u8 64, .symi .u8 65, .symi .u8 66, .symi .u8 67, .symi .u8 68, .symi .u8 129]) (.e)) 74477379 194 (.ite (.symb 149) (.symi .i64 60) (.symi .i64 181)) (.n (.e) 74733581 70 (.bin .geq (.symi .u8 22) (.int .u8 4)) (.e))) 82837655 140 (.fn 0 .i64 [.symi .i64 33, .symi .u8 34, .symi .u8 35, .symi .u8 36, .symi .u8 37, .symi .u8 38, .symi .u8 39, .symi .u8 40, .symi .u8 41]) (.n (.n (.e) 82837698 141 (.fn 1 .u8 [.symi .i64 33, .symi .u8 34, .symi .u8 35, .symi .u8 36, .symi .u8 37, .symi .u8 38, .symi .u8 39, .symi .u8 40, .symi .u8 41]) (.e)) 82837741 142 (.fn 2 .u8 [.symi .i64 33, .symi .u8 34, .symi .u8 35, .symi .u8 36, .symi .u8 37, .symi .u8 38, .symi .u8 39, .symi .u8 40, .symi .u8 41]) (.e))))) 82837784 143 (.fn 3 .u8 [.symi .i64 33, .symi .u8 34, .symi .u8 35, .symi .u8 36, .symi .u8 37, .symi .u8 38, .symi .u8 39, .symi .u8 40, .symi .u8 41]) (.n (.n (.n (.n (.n (.e) 82837827 144 (.fn 4 .u8 [.symi .i64 33, .symi .u8 34, .symi .u8 35, .symi .u8 36, .symi .u8 37, .symi .u8 38, .symi .u8 39, .symi .u8 40, .symi .u8 41]) (.e)) 82837870 145 (.fn 5 .u8 [.symi .i64 33, .symi .u8 34, .symi .u8 35, .symi .u8 36, .symi .u8 37, .symi .u8 38, .symi .u8 39, .symi .u8 40, .symi .u8 41]) (.n (.e) 82837913 146 (.fn 6 .u8 [.symi .i64 33, .symi .u8 34, .symi .u8 35, .symi .u8 36, .symi .u8 37, .symi .u8 38, .symi .u8 39, .symi .u8 40, .symi .u8 41]) (.e))) 82837956 147 (.fn 7 .u8 [.symi .i64 33, .symi .u8 34, .symi .u8 35, .symi .u8 36, .symi .u8 37, .symi .u8 38, .symi .u8 39, .symi .u8 40, .symi .u8 41]) (.n (.n (.e) 82837999 148 (.fn 8 .u8 [.symi .i64 33, .symi .u8 34, .symi .u8 35, .symi .u8 36, .symi .u8 37, .symi .u8 38, .symi .u8 39, .symi .u8 40, .symi .u8 41]) (.e)) 94302442 263 (.ite (.symb 126) (.symi .u8 138) (.symi .u8 232)) (.n (.e) 97931301 289 (.un .not (.symb 288)) (.e)))) 103239353 51 (.fn 0 .i64 [.symi .i64 2, .symi .u8 3, .symi .u8 4, .symi .u8 5, .symi .u8 6, .symi .u8 7, .symi .u8 8, .symi .u8 9, .symi .u8 10]) (.n (.n (.n (.e) 103239396 52 (.fn 1 .u8 [.symi .i64 2, .symi .u8 3, .symi .u8 4, .symi .u8 5, .symi .u8 6, .symi .u8 7, .symi .u8 8, .symi .u8 9, .symi .u8 10]) (.e)) 103239439 53 (.fn 2 .u8 [.symi .i64 2, .symi .u8 3, .symi .u8 4, .symi .u8 5, .symi .u8 6, .symi .u8 7, .symi .u8 8, .symi .u8 9, .symi .u8 10]) (.n (.e) 103239482 54 (.fn 3 .u8 [.symi .i64 2, .symi .u8 3, .symi .u8 4, .symi .u8 5, .symi .u8 6, .symi .u8 7, .symi .u8 8, .symi .u8 9, .symi .u8 10]) (.e))) 103239525 55 (.fn 4 .u8 [.symi .i64 2, .symi .u8 3, .symi .u8 4, .symi .u8 5, .symi .u8 6, .symi .u8 7, .symi .u8 8, .symi .u8 9, .symi .u8 10]) (.n (.n (.e) 103239568 56 (.fn 5 .u8 [.symi .i64 2, .symi .u8 3, .symi .u8 4, .symi .u8 5, .symi .u8 6, .symi .u8 7, .symi .u8 8, .symi .u8 9, .symi .u8 10]) (.e)) 103239611 57 (.fn 6 .u8 [.symi .i64 2, .symi .u8 3, .symi .u8 4, .symi .u8 5, .symi .u8 6, .symi .u8 7, .symi .u8 8, .symi .u8 9, .symi .u8 10]) (.n (.e) 103239654 58 (.fn 7 .u8 [.symi .i64 2, .symi .u8 3, .symi .u8 4, .symi .u8 5, .symi .u8 6, .symi .u8 7, .symi .u8 8, .symi .u8 9, .symi .u8 10]) (.e))))) 103239697 59 (.fn 8 .u8 [.symi .i64 2, .symi .u8 3, .symi .u8 4, .symi .u8 5, .symi .u8 6, .symi .u8 7, .symi .u8 8, .symi .u8 9, .symi .u8 10]) (.n (.n (.n (.n (.e) 103642951 276 (.ite (.symb 126) (.symi .u8 24) (.symi .u8 245)) (.e)) 113743061 190 (.ite (.symb 150) (.symi .u8 177) (.symi .u8 72)) (.n (.e) 114556000 237 (.ite (.symb 127) (.symi .u8 4) (.symi .u8 207)) (.e))) 128128860 191 (.ite (.symb 150) (.symi .u8 178) (.int .u8 0)) (.n (.n (.e) 129908594 234 (.ite (.symb 127) (.symi .u8 72) (.symi .u8 204)) (.e)) 133863029 249 (.ite (.symb 127) (.symi .u8 28) (.symi .u8 219)) (.n (.e) 134481729 188 (.ite (.symb 150) (.symi .u8 175) (.symi .u8 67)) (.e)))) 141779796 256 (.ite (.symb 126) (.symi .u8 131) (.symi .u8 225)) (.n (.n (.n (.e) 142033880 219 (.ite (.symb 149) (.symi .u8 93) (.symi .u8 28)) (.e)) 154079493 203 (.ite (.symb 149) (.symi .u8 129) (.symi .u8 21)) (.n (.e) 167430768 71 (.ite (.symb 70) (.int .u8 0) (.symi .u8 22)) (.e))) 171999874 229 (.ite (.symb 127) (.symi .u8 135) (.symi .u8 199)) (.n (.n (.e) 173967399 174 (.ite (.symb 152) (.symi .u8 160) (.symi .u8 66)) (.e)) 181959083 181 (.ite (.symb 150) (.symi .i64 168) (.symi .i64 60)) (.e)))))) 200254991 108 (.bin .neq (.symi .i32 106) (.symi .i32 107)) (.n (.n (.n (.n (.n (.n (.e) 200739152 198 (.ite (.symb 149) (.symi .u8 64) (.symi .u8 185)) (.e)) 200854599 99 (.ite (.symb 98) (.int .u8 0) (.symi .u8 32)) (.n (.e) 210597695 268 (.ite (.symb 126) (.symi .u8 4) (.symi .u8 237)) (.e))) 218870709 152 (.bin .eql (.symi .u8 151) (.int .u8 4)) (.n (.n (.e) 221681571 207 (.ite (.symb 149) (.symi .u8 53) (.symi .u8 4)) (.e)) 225950289 265 (.ite (.symb 126) (.symi .u8 72) (.symi .u8 234)) (.n (.e) 229904724 280 (.ite (.symb 126) (.symi .u8 28) (.symi .u8 249)) (.e)))) 237046620 128 (.conv .i32 (.symi .u8 44)) (.n (.n (.n (.e) 238078179 125 (.bin .neq (.symi .i32 123) (.symi .i32 124)) (.e)) 240817773 241 (.ite (.symb 127) (.symi .u8 8) (.symi .u8 211)) (.n (.e) 260124802 253 (.ite (.symb 127) (.symi .u8 32) (.symi .u8 223)) (.e))) 268041569 260 (.ite (.symb 126) (.symi .u8 135) (.symi .u8 229)) (.n (.n (.e) 271875284 123 (.bin .and (.symi .i32 109) (.int .i32 5)) (.e)) 277932449 192 (.ite (.symb 150) (.symb 179) (.bool false)) (.n (.e) 281123779 87 (.ite (.symb 20) (.bool true) (.symb 83)) (.e))))) 286932746 167 (.ite (.symb 164) (.symb 166) (.bool false)) (.n (.n (.n (.n (.e) 298102442 97 (.bin .eql (.symi .i64 88) (.int .i64 0)) (.e)) 299137960 129 (.conv .u8 (.symi .i32 128)) (.n (.e) 307602156 246 (.ite (.symb 127) (.symi .u8 25) (.symi .u8 216)) (.e))) 308220856 185 (.ite (.symb 150) (.symi .u8 172) (.symi .u8 64)) (.n (.n (.e) 315773007 216 (.ite (.symb 149) (.symi .u8 90) (.symi .u8 25)) (.e)) 319346605 179 (.ite (.symb 152) (.symb 163) (.bool false)) (.n (.e) 327000925 202 (.ite (.symb 149) (.symi .u8 68) (.symi .u8 189)) (.e)))) 336859468 272 (.ite (.symb 126) (.symi .u8 8) (.symi .u8 241)) (.n (.n (.n (.e) 343384000 45 (.bin .lss (.symi .i64 0) (.symi .i64 1)) (.e)) 345739001 226 (.ite (.symb 127) (.symi .u8 132) (.symi .u8 196)) (.n (.e) 347706526 171 (.ite (.symb 152) (.symi .u8 157) (.symi .u8 63)) (.e))) 347943344 211 (.ite (.symb 149) (.symi .u8 57) (.symi .u8 8)) (.n (.n (.e) 356166497 284 (.ite (.symb 126) (.symi .u8 32) (.symi .u8 253)) (.e)) 374478279 195 (.ite (.symb 149) (.symi .u8 61) (.symi .u8 182)) (.e))))) 403643851 277 (.ite (.symb 126) (.symi .u8 25) (.symi .u8 246)) (.n (.n (.n (.n (.n (.e) 410137093 124 (.bin .and (.symi .i32 121) (.int .i32 5)) (.e)) 414273003 120 (.fnb 138 [.symi .i64 51, .symi .u8 52, .symi .u8 53, .symi .u8 54, .symi .u8 55, .symi .u8 56, .symi .u8 57, .symi .u8 58, .symi .u8 59]) (.n (.e) 414556900 238 (.ite (.symb 127) (.symi .u8 5) (.symi .u8 208)) (.e))) 426937366 193 (.ite (.symb 150) (.symb 180) (.bool false)) (.n (.n (.e) 433863929 250 (.ite (.symb 127) (.symi .u8 29) (.symi .u8 220)) (.e)) 434482629 189 (.ite (.symb 150) (.symi .u8 176) (.symi .u8 68)) (.n (.e) 441478529 86 (.ite (.symb 82) (.symb 85) (.bool false)) (.e)))) 441780696 257 (.ite (.symb 126) (.symi .u8 132) (.symi .u8 226)) (.n (.n (.n (.e) 442034780 220 (.ite (.symb 149) (.symi .u8 94) (.symi .u8 29)) (.e)) 472000774 230 (.ite (.symb 127) (.symi .u8 136) (.symi .u8 200)) (.n (.e) 473968299 175 (.ite (.symb 152) (.symi .u8 161) (.symi .u8 67)) (.e))) 481959983 182 (.ite (.symb 150) (.symi .u8 169) (.symi .u8 61)) (.n (.n (.e) 500740052 199 (.ite (.symb 149) (.symi .u8 65) (.symi .u8 186)) (.e)) 510598595 269 (.ite (.symb 126) (.symi .u8 5) (.symi .u8 238)) (.n (.e) 515203920 100 (.ite (.symb 97) (.int .u8 0) (.symi .u8 99)) (.e))))) 521445653 168 (.ite (.symb 152) (.symi .i64 154) (.symi .i64 60)) (.n (.n (.n (.n (.e) 521671478 164 (.bin .eql (.symi .i64 154) (.int .i64 0)) (.e)) 521682471 208 (.ite (.symb 149) (.symi .u8 54) (.symi .u8 5)) (.n (.e) 529905624 281 (.ite (.symb 126) (.symi .u8 29) (.symi .u8 250)) (.e))) 540818673 242 (.ite (.symb 127) (.symi .u8 9) (.symi .u8 212)) (.n (.n (.e) 553057630 49 (.bin .eql (.symi .u8 48) (.int .u8 0)) (.e)) 553107665 50 (.bin .eql (.symi .u8 48) (.int .u8 1)) (.n (.e) 553157700 101 (.bin .eql (.symi .u8 48) (.int .u8 2)) (.e)))) 553207735 102 (.bin .eql (.symi .u8 48) (.int .u8 3)) (.n (.n (.n (.e) 553257770 126 (.bin .eql (.symi .u8 48) (.int .u8 4)) (.e)) 553307805 127 (.bin .eql (.symi .u8 48) (.int .u8 5)) (.n (.e) 553608015 149 (.bin .eql (.symi .u8 48) (.int .u8 11)) (.e))) 553658050 103 (.bin .eql (.symi .u8 48) (.int .u8 12)) (.n (.n (.e) 558932991 166 (.bin .neq (.symi .u8 165) (.int .u8 0)) (.e)) 568042469 261 (.ite (.symb 126) (.symi .u8 136) (.symi .u8 230)) (.e))))))) 588296027 235 (.ite (.symb 127) (.symi .i64 2) (.symi .i64 205)) (.n (.n (.n (.n (.n (.n (.n (.e) 607603056 247 (.ite (.symb 127) (.symi .u8 26) (.symi .u8 217)) (.e)) 608221756 186 (.ite (.symb 150) (.symi .u8 173) (.symi .u8 65)) (.n (.e) 615773907 217 (.ite (.symb 149) (.symi .u8 91) (.symi .u8 26)) (.e))) 636860368 273 (.ite (.symb 126) (.symi .u8 9) (.symi .u8 242)) (.n (.n (.e) 645739901 227 (.ite (.symb 127) (.symi .u8 133) (.symi .u8 197)) (.e)) 647707426 172 (.ite (.symb 152) (.symi .u8 158) (.symi .u8 64)) (.n (.e) 647944244 212 (.ite (.symb 149) (.symi .u8 58) (.symi .u8 9)) (.e)))) 660401480 104 (.fn 192 .i32 [.symi .i64 2, .symi .u8 3, .symi .u8 4, .symi .u8 5, .symi .u8 6, .symi .u8 7, .symi .u8 8, .symi .u8 9, .symi .u8 10, .symi .i64 11, .symi .u8 12, .symi .u8 13, .symi .u8 14, .symi .u8 15, .symi .u8 16, .symi .u8 17, .symi .u8 18, .symi .u8 19, .symb 20, .symi .u8 21, .symi .u8 22, .int .i64 4]) (.n (.n (.n (.e) 668251497 163 (.fnb 138 [.symi .i64 60, .symi .u8 61, .symi .u8 62, .symi .u8 63, .symi .u8 64, .symi .u8 65, .symi .u8 66, .symi .u8 67, .symi .u8 68]) (.e)) 674479179 196 (.ite (.symb 149) (.symi .u8 62) (.symi .u8 183)) (.n (.e) 684337722 266 (.ite (.symb 126) (.symi .i64 2) (.symi .i64 235)) (.e))) 691319439 69 (.bin .eql (.symi .i64 60) (.int .i64 0)) (.n (.n (.e) 691319467 150 (.bin .gtr (.symi .i64 60) (.int .i64 0)) (.e)) 695421598 205 (.ite (.symb 149) (.symi .i64 51) (.symi .i64 2)) (.n (.e) 702633507 285 (.all [(.symi .i64 60, .symi .i64 11), (.symi .u8 61, .symi .u8 12), (.symi .u8 62, .symi .u8 13), (.symi .u8 63, .symi .u8 14), (.symi .u8 64, .symi .u8 15), (.symi .u8 65, .symi .u8 16), (.symi .u8 66, .symi .u8 17), (.symi .u8 67, .symi .u8 18), (.symi .u8 68, .symi .u8 19)]) (.e))))) 703644751 278 (.ite (.symb 126) (.symi .u8 26) (.symi .u8 247)) (.n (.n (.n (.n (.e) 706000302 254 (.ite (.symb 126) (.symb 126) (.symb 127)) (.e)) 714557800 239 (.ite (.symb 127) (.symi .u8 6) (.symi .u8 209)) (.n (.e) 715296994 223 (.ite (.symb 149) (.symi .u8 100) (.symi .u8 32)) (.e))) 733864829 251 (.ite (.symb 127) (.symi .u8 30) (.symi .u8 221)) (.n (.n (.e) 741781596 258 (.ite (.symb 126) (.symi .u8 133) (.symi .u8 227)) (.e)) 742035680 221 (.ite (.symb 149) (.symi .u8 95) (.symi .u8 30)) (.n (.e) 766081243 83 (.un .not (.symb 82)) (.e)))) 772001674 231 (.ite (.symb 127) (.symi .u8 137) (.symi .u8 201)) (.n (.n (.n (.e) 773969199 176 (.ite (.symb 152) (.symi .u8 162) (.symi .u8 68)) (.e)) 781342183 244 (.ite (.symb 127) (.symi .i64 23) (.symi .i64 214)) (.n (.e) 781960883 183 (.ite (.symb 150) (.symi .u8 170) (.symi .u8 62)) (.e))) 789513034 214 (.ite (.symb 149) (.symi .i64 88) (.symi .i64 23)) (.n (.n (.e) 800740952 200 (.ite (.symb 149) (.symi .u8 66) (.symi .u8 187)) (.e)) 809768080 105 (.fn 192 .i32 [.symi .i64 2, .symi .u8 3, .symi .u8 4, .symi .u8 5, .symi .u8 6, .symi .u8 7, .symi .u8 8, .symi .u8 9, .symi .u8 10, .symi .i64 23, .symi .u8 24, .symi .u8 25, .symi .u8 26, .symi .u8 27, .symi .u8 28, .symi .u8 29, .symi .u8 30, .symi .u8 31, .symb 20, .symi .u8 21, .symi .u8 32, .int .i64 4]) (.e))))) 810599495 270 (.ite (.symb 126) (.symi .u8 6) (.symi .u8 239)) (.n (.n (.n (.n (.n (.e) 811980996 73 (.fn 64 .i64 [.symi .i64 51, .symi .u8 52, .symi .u8 53, .symi .u8 54, .symi .u8 55, .symi .u8 56, .symi .u8 57, .symi .u8 58, .symi .u8 59, .symi .u8 44]) (.e)) 811981039 74 (.fn 65 .u8 [.symi .i64 51, .symi .u8 52, .symi .u8 53, .symi .u8 54, .symi .u8 55, .symi .u8 56, .symi .u8 57, .symi .u8 58, .symi .u8 59, .symi .u8 44]) (.n (.e) 811981082 75 (.fn 66 .u8 [.symi .i64 51, .symi .u8 52, .symi .u8 53, .symi .u8 54, .symi .u8 55, .symi .u8 56, .symi .u8 57, .symi .u8 58, .symi .u8 59, .symi .u8 44]) (.e))) 811981125 76 (.fn 67 .u8 [.symi .i64 51, .symi .u8 52, .symi .u8 53, .symi .u8 54, .symi .u8 55, .symi .u8 56, .symi .u8 57, .symi .u8 58, .symi .u8 59, .symi .u8 44]) (.n (.n (.e) 811981168 77 (.fn 68 .u8 [.symi .i64 51, .symi .u8 52, .symi .u8 53, .symi .u8 54, .symi .u8 55, .symi .u8 56, .symi .u8 57, .symi .u8 58, .symi .u8 59, .symi .u8 44]) (.e)) 811981211 78 (.fn 69 .u8 [.symi .i64 51, .symi .u8 52, .symi .u8 53, .symi .u8 54, .symi .u8 55, .symi .u8 56, .symi .u8 57, .symi .u8 58, .symi .u8 59, .symi .u8 44]) (.n (.e) 811981254 79 (.fn 70 .u8 [.symi .i64 51, .symi .u8 52, .symi .u8 53, .symi .u8 54, .symi .u8 55, .symi .u8 56, .symi .u8 57, .symi .u8 58, .symi .u8 59, .symi .u8 44]) (.e)))) 811981297 80 (.fn 71 .u8 [.symi .i64 51, .symi .u8 52, .symi .u8 53, .symi .u8 54, .symi .u8 55, .symi .u8 56, .symi .u8 57, .symi .u8 58, .symi .u8 59, .symi .u8 44]) (.n (.n (.n (.e) 811981340 81 (.fn 72 .u8 [.symi .i64 51, .symi .u8 52, .symi .u8 53, .symi .u8 54, .symi .u8 55, .symi .u8 56, .symi .u8 57, .symi .u8 58, .symi .u8 59, .symi .u8 44]) (.e)) 819479028 224 (.ite (.symb 127) (.symi .i64 130) (.symi .i64 194)) (.n (.e) 821446553 169 (.ite (.symb 152) (.symi .u8 155) (.symi .u8 61)) (.e))) 821683371 209 (.ite (.symb 149) (.symi .u8 55) (.symi .u8 6)) (.n (.n (.e) 827084267 153 (.fn 128 .u8 [.symi .i64 60, .symi .u8 61, .symi .u8 62, .symi .u8 63, .symi .u8 64, .symi .u8 65, .symi .u8 66, .symi .u8 67, .symi .u8 68]) (.e)) 827084310 154 (.fn 129 .i64 [.symi .i64 60, .symi .u8 61, .symi .u8 62, .symi .u8 63, .symi .u8 64, .symi .u8 65, .symi .u8 66, .symi .u8 67, .symi .u8 68]) (.n (.e) 827084353 155 (.fn 130 .u8 [.symi .i64 60, .symi .u8 61, .symi .u8 62, .symi .u8 63, .symi .u8 64, .symi .u8 65, .symi .u8 66, .symi .u8 67, .symi .u8 68]) (.e))))) 827084396 156 (.fn 131 .u8 [.symi .i64 60, .symi .u8 61, .symi .u8 62, .symi .u8 63, .symi .u8 64, .symi .u8 65, .symi .u8 66, .symi .u8 67, .symi .u8 68]) (.n (.n (.n (.n (.e) 827084439 157 (.fn 132 .u8 [.symi .i64 60, .symi .u8 61, .symi .u8 62, .symi .u8 63, .symi .u8 64, .symi .u8 65, .symi .u8 66, .symi .u8 67, .symi .u8 68]) (.e)) 827084482 158 (.fn 133 .u8 [.symi .i64 60, .symi .u8 61, .symi .u8 62, .symi .u8 63, .symi .u8 64, .symi .u8 65, .symi .u8 66, .symi .u8 67, .symi .u8 68]) (.n (.e) 827084525 159 (.fn 134 .u8 [.symi .i64 60, .symi .u8 61, .symi .u8 62, .symi .u8 63, .symi .u8 64, .symi .u8 65, .symi .u8 66, .symi .u8 67, .symi .u8 68]) (.e))) 827084568 160 (.fn 135 .u8 [.symi .i64 60, .symi .u8 61, .symi .u8 62, .symi .u8 63, .symi .u8 64, .symi .u8 65, .symi .u8 66, .symi .u8 67, .symi .u8 68]) (.n (.n (.e) 827084611 161 (.fn 136 .u8 [.symi .i64 60, .symi .u8 61, .symi .u8 62, .symi .u8 63, .symi .u8 64, .symi .u8 65, .symi .u8 66, .symi .u8 67, .symi .u8 68]) (.e)) 827084654 162 (.fn 137 .u8 [.symi .i64 60, .symi .u8 61, .symi .u8 62, .symi .u8 63, .symi .u8 64, .symi .u8 65, .symi .u8 66, .symi .u8 67, .symi .u8 68]) (.n (.e) 829631206 151 (.bin .add (.symi .u8 72) (.int .u8 1)) (.e)))) 829906524 282 (.ite (.symb 126) (.symi .u8 30) (.symi .u8 251)) (.n (.n (.n (.e) 840615596 106 (.bin .and (.symi .i32 104) (.int .i32 5)) (.e)) 840819573 243 (.ite (.symb 127) (.symi .u8 10) (.symi .u8 213)) (.n (.e) 849625944 109 (.fn 192 .i32 [.symi .i64 2, .symi .u8 3, .symi .u8 4, .symi .u8 5, .symi .u8 6, .symi .u8 7, .symi .u8 8, .symi .u8 9, .symi .u8 10, .symi .i64 11, .symi .u8 12, .symi .u8 13, .symi .u8 14, .symi .u8 15, .symi .u8 16, .symi .u8 17, .symi .u8 18, .symi .u8 19, .symb 20, .symi .u8 21, .symi .u8 22, .int .i64 3]) (.e))) 867187196 287 (.bin .neq (.symi .u8 72) (.symi .u8 22)) (.n (.n (.e) 868043369 262 (.ite (.symb 126) (.symi .u8 137) (.symi .u8 231)) (.e)) 868663129 286 (.un .not (.symb 285)) (.e)))))) 877383878 275 (.ite (.symb 126) (.symi .i64 23) (.symi .i64 244)) (.n (.n (.n (.n (.n (.n (.e) 888296927 236 (.ite (.symb 127) (.symi .u8 3) (.symi .u8 206)) (.e)) 907603956 248 (.ite (.symb 127) (.symi .u8 27) (.symi .u8 218)) (.n (.e) 908222656 187 (.ite (.symb 150) (.symi .u8 174) (.symi .u8 66)) (.e))) 915366273 180 (.ite (.symb 152) (.symb 167) (.bool false)) (.n (.n (.e) 915520723 255 (.ite (.symb 126) (.symi .i64 130) (.symi .i64 224)) (.e)) 915774807 218 (.ite (.symb 149) (.symi .u8 92) (.symi .u8 27)) (.n (.e) 920702843 88 (.fn 0 .i64 [.symi .i64 23, .symi .u8 24, .symi .u8 25, .symi .u8 26, .symi .u8 27, .symi .u8 28, .symi .u8 29, .symi .u8 30, .symi .u8 31]) (.e)))) 920702886 89 (.fn 1 .u8 [.symi .i64 23, .symi .u8 24, .symi .u8 25, .symi .u8 26, .symi .u8 27, .symi .u8 28, .symi .u8 29, .symi .u8 30, .symi .u8 31]) (.n (.n (.n (.e) 920702929 90 (.fn 2 .u8 [.symi .i64 23, .symi .u8 24, .symi .u8 25, .symi .u8 26, .symi .u8 27, .symi .u8 28, .symi .u8 29, .symi .u8 30, .symi .u8 31]) (.e)) 920702972 91 (.fn 3 .u8 [.symi .i64 23, .symi .u8 24, .symi .u8 25, .symi .u8 26, .symi .u8 27, .symi .u8 28, .symi .u8 29, .symi .u8 30, .symi .u8 31]) (.n (.e) 920703015 92 (.fn 4 .u8 [.symi .i64 23, .symi .u8 24, .symi .u8 25, .symi .u8 26, .symi .u8 27, .symi .u8 28, .symi .u8 29, .symi .u8 30, .symi .u8 31]) (.e))) 920703058 93 (.fn 5 .u8 [.symi .i64 23, .symi .u8 24, .symi .u8 25, .symi .u8 26, .symi .u8 27, .symi .u8 28, .symi .u8 29, .symi .u8 30, .symi .u8 31]) (.n (.n (.e) 920703101 94 (.fn 6 .u8 [.symi .i64 23, .symi .u8 24, .symi .u8 25, .symi .u8 26, .symi .u8 27, .symi .u8 28, .symi .u8 29, .symi .u8 30, .symi .u8 31]) (.e)) 920703144 95 (.fn 7 .u8 [.symi .i64 23, .symi .u8 24, .symi .u8 25, .symi .u8 26, .symi .u8 27, .symi .u8 28, .symi .u8 29, .symi .u8 30, .symi .u8 31]) (.n (.e) 920703187 96 (.fn 8 .u8 [.symi .i64 23, .symi .u8 24, .symi .u8 25, .symi .u8 26, .symi .u8 27, .symi .u8 28, .symi .u8 29, .symi .u8 30, .symi .u8 31]) (.e))))) 936861268 274 (.ite (.symb 126) (.symi .u8 10) (.symi .u8 243)) (.n (.n (.n (.n (.e) 936917840 110 (.fn 128 .u8 [.symi .i64 51, .symi .u8 52, .symi .u8 53, .symi .u8 54, .symi .u8 55, .symi .u8 56, .symi .u8 57, .symi .u8 58, .symi .u8 59]) (.e)) 936917883 111 (.fn 129 .i64 [.symi .i64 51, .symi .u8 52, .symi .u8 53, .symi .u8 54, .symi .u8 55, .symi .u8 56, .symi .u8 57, .symi .u8 58, .symi .u8 59]) (.n (.e) 936917926 112 (.fn 130 .u8 [.symi .i64 51, .symi .u8 52, .symi .u8 53, .symi .u8 54, .symi .u8 55, .symi .u8 56, .symi .u8 57, .symi .u8 58, .symi .u8 59]) (.e))) 936917969 113 (.fn 131 .u8 [.symi .i64 51, .symi .u8 52, .symi .u8 53, .symi .u8 54, .symi .u8 55, .symi .u8 56, .symi .u8 57, .symi .u8 58, .symi .u8 59]) (.n (.n (.e) 936918012 114 (.fn 132 .u8 [.symi .i64 51, .symi .u8 52, .symi .u8 53, .symi .u8 54, .symi .u8 55, .symi .u8 56, .symi .u8 57, .symi .u8 58, .symi .u8 59]) (.e)) 936918055 115 (.fn 133 .u8 [.symi .i64 51, .symi .u8 52, .symi .u8 53, .symi .u8 54, .symi .u8 55, .symi .u8 56, .symi .u8 57, .symi .u8 58, .symi .u8 59]) (.n (.e) 936918098 116 (.fn 134 .u8 [.symi .i64 51, .symi .u8 52, .symi .u8 53, .symi .u8 54, .symi .u8 55, .symi .u8 56, .symi .u8 57, .symi .u8 58, .symi .u8 59]) (.e)))) 936918141 117 (.fn 135 .u8 [.symi .i64 51, .symi .u8 52, .symi .u8 53, .symi .u8 54, .symi .u8 55, .symi .u8 56, .symi .u8 57, .symi .u8 58, .symi .u8 59]) (.n (.n (.n (.e) 936918184 118 (.fn 136 .u8 [.symi .i64 51, .symi .u8 52, .symi .u8 53, .symi .u8 54, .symi .u8 55, .symi .u8 56, .symi .u8 57, .symi .u8 58, .symi .u8 59]) (.e)) 936918227 119 (.fn 137 .u8 [.symi .i64 51, .symi .u8 52, .symi .u8 53, .symi .u8 54, .symi .u8 55, .symi .u8 56, .symi .u8 57, .symi .u8 58, .symi .u8 59]) (.n (.e) 941615899 107 (.bin .and (.symi .i32 105) (.int .i32 5)) (.e))) 945740801 228 (.ite (.symb 127) (.symi .u8 134) (.symi .u8 198)) (.n (.n (.e) 947708326 173 (.ite (.symb 152) (.symi .u8 159) (.symi .u8 65)) (.e)) 947945144 213 (.ite (.symb 149) (.symi .u8 59) (.symi .u8 10)) (.e))))) 967843064 85 (.bin .neq (.symi .u8 84) (.int .u8 0)) (.n (.n (.n (.n (.n (.e) 969819960 233 (.ite (.symb 127) (.symi .u8 21) (.symi .u8 203)) (.e)) 974480079 197 (.ite (.symb 149) (.symi .u8 63) (.symi .u8 184)) (.n (.e) 976094167 178 (.ite (.symb 152) (.symi .u8 153) (.int .u8 0)) (.e))) 980094183 177 (.ite (.symb 152) (.int .u8 0) (.symi .u8 151)) (.n (.n (.e) 984338622 267 (.ite (.symb 126) (.symi .u8 3) (.symi .u8 236)) (.e)) 984997416 72 (.ite (.symb 69) (.int .u8 0) (.symi .u8 71)) (.n (.e) 995422498 206 (.ite (.symb 149) (.symi .u8 52) (.symi .u8 3)) (.e)))) 998178115 288 (.all [(.symi .i64 51, .symi .i64 266), (.symi .u8 52, .symi .u8 267), (.symi .u8 53, .symi .u8 268), (.symi .u8 54, .symi .u8 269), (.symi .u8 55, .symi .u8 270), (.symi .u8 56, .symi .u8 271), (.symi .u8 57, .symi .u8 272), (.symi .u8 58, .symi .u8 273), (.symi .u8 59, .symi .u8 274)]) (.n (.n (.n (.e) 998992544 121 (.fn 192 .i32 [.symi .i64 2, .symi .u8 3, .symi .u8 4, .symi .u8 5, .symi .u8 6, .symi .u8 7, .symi .u8 8, .symi .u8 9, .symi .u8 10, .symi .i64 23, .symi .u8 24, .symi .u8 25, .symi .u8 26, .symi .u8 27, .symi .u8 28, .symi .u8 29, .symi .u8 30, .symi .u8 31, .symb 20, .symi .u8 21, .symi .u8 32, .int .i64 3]) (.e)) 1003645651 279 (.ite (.symb 126) (.symi .u8 27) (.symi .u8 248)) (.n (.e) 1014558700 240 (.ite (.symb 127) (.symi .u8 7) (.symi .u8 210)) (.e))) 1015238684 122 (.bin .neq (.symi .i32 109) (.symi .i32 121)) (.n (.n (.e) 1029495021 82 (.fnb 73 [.symi .i64 51, .symi .u8 52, .symi .u8 53, .symi .u8 54, .symi .u8 55, .symi .u8 56, .symi .u8 57, .symi .u8 58, .symi .u8 59, .symi .u8 44]) (.e)) 1033865729 252 (.ite (.symb 127) (.symi .u8 31) (.symi .u8 222)) (.e)))) 1041782496 259 (.ite (.symb 126) (.symi .u8 134) (.symi .u8 228)) (.n (.n (.n (.n (.e) 1042036580 222 (.ite (.symb 149) (.symi .u8 96) (.symi .u8 31)) (.e)) 1047324923 84 (.bin .and (.symi .u8 21) (.int .u8 1)) (.n (.e) 1047374958 165 (.bin .and (.symi .u8 21) (.int .u8 2)) (.e))) 1065861655 264 (.ite (.symb 126) (.symi .u8 21) (.symi .u8 233)) (.n (.n (.e) 1067147607 60 (.fn 0 .i64 [.symi .i64 11, .symi .u8 12, .symi .u8 13, .symi .u8 14, .symi .u8 15, .symi .u8 16, .symi .u8 17, .symi .u8 18, .symi .u8 19]) (.e)) 1067147650 61 (.fn 1 .u8 [.symi .i64 11, .symi .u8 12, .symi .u8 13, .symi .u8 14, .symi .u8 15, .symi .u8 16, .symi .u8 17, .symi .u8 18, .symi .u8 19]) (.n (.e) 1067147693 62 (.fn 2 .u8 [.symi .i64 11, .symi .u8 12, .symi .u8 13, .symi .u8 14, .symi .u8 15, .symi .u8 16, .symi .u8 17, .symi .u8 18, .symi .u8 19]) (.e)))) 1067147736 63 (.fn 3 .u8 [.symi .i64 11, .symi .u8 12, .symi .u8 13, .symi .u8 14, .symi .u8 15, .symi .u8 16, .symi .u8 17, .symi .u8 18, .symi .u8 19]) (.n (.n (.n (.e) 1067147779 64 (.fn 4 .u8 [.symi .i64 11, .symi .u8 12, .symi .u8 13, .symi .u8 14, .symi .u8 15, .symi .u8 16, .symi .u8 17, .symi .u8 18, .symi .u8 19]) (.e)) 1067147822 65 (.fn 5 .u8 [.symi .i64 11, .symi .u8 12, .symi .u8 13, .symi .u8 14, .symi .u8 15, .symi .u8 16, .symi .u8 17, .symi .u8 18, .symi .u8 19]) (.n (.e) 1067147865 66 (.fn 6 .u8 [.symi .i64 11, .symi .u8 12, .symi .u8 13, .symi .u8 14, .symi .u8 15, .symi .u8 16, .symi .u8 17, .symi .u8 18, .symi .u8 19]) (.e))) 1067147908 67 (.fn 7 .u8 [.symi .i64 11, .symi .u8 12, .symi .u8 13, .symi .u8 14, .symi .u8 15, .symi .u8 16, .symi .u8 17, .symi .u8 18, .symi .u8 19]) (.n (.n (.e) 1067147951 68 (.fn 8 .u8 [.symi .i64 11, .symi .u8 12, .symi .u8 13, .symi .u8 14, .symi .u8 15, .symi .u8 16, .symi .u8 17, .symi .u8 18, .symi .u8 19]) (.e)) 1072002574 232 (.ite (.symb 127) (.symi .u8 138) (.symi .u8 202)) (.e)))))))

set_option maxRecDepth 100000 in
def uaBW : Sw := .run (.node 45 (.node 46 (.node 47 (.node 49 (.node 286 (.dead) (.node 287 (.dead) (.leafE .normal uaS1 [(0, 0), (1, 0), (2, 0)] [(0, .symi .i64 290), (2, .symi .i64 73), (3, .symi .u8 74), (4, .symi .u8 75), (5, .symi .u8 76), (6, .symi .u8 77), (7, .symi .u8 78), (8, .symi .u8 79), (9, .symi .u8 80), (10, .symi .u8 81), (11, .symi .i64 60), (12, .symi .u8 61), (13, .symi .u8 62), (14, .symi .u8 63), (15, .symi .u8 64), (16, .symi .u8 65), (17, .symi .u8 66), (18, .symi .u8 67), (19, .symi .u8 68), (20, .symb 87), (21, .symi .u8 21), (22, .symi .u8 72), (2, .symi .i64 73), (3, .symi .u8 74), (4, .symi .u8 75), (5, .symi .u8 76), (6, .symi .u8 77), (7, .symi .u8 78), (8, .symi .u8 79), (9, .symi .u8 80), (10, .symi .u8 81), (23, .symi .i64 88), (24, .symi .u8 89), (25, .symi .u8 90), (26, .symi .u8 91), (27, .symi .u8 92), (28, .symi .u8 93), (29, .symi .u8 94), (30, .symi .u8 95), (31, .symi .u8 96), (20, .symb 87), (21, .symi .u8 21), (32, .symi .u8 100), (33, .symi .i64 33), (34, .symi .u8 34), (35, .symi .u8 35), (36, .symi .u8 36), (37, .symi .u8 37), (38, .symi .u8 38), (39, .symi .u8 39), (40, .symi .u8 40), (41, .symi .u8 41), (11, .symi .i64 11), (12, .symi .u8 12), (13, .symi .u8 13), (14, .symi .u8 14), (15, .symi .u8 15), (16, .symi .u8 16), (17, .symi .u8 17), (18, .symi .u8 18), (19, .symi .u8 19), (42, .symb 42), (21, .symi .u8 21), (22, .symi .u8 22)] [(1, .symi .i64 1)]))) (.node 50 (.node 286 (.dead) (.node 287 (.dead) (.leafE .normal uaS1 [(0, 0), (1, 0), (2, 0)] [(0, .symi .i64 290), (2, .symi .i64 73), (3, .symi .u8 74), (4, .symi .u8 75), (5, .symi .u8 76), (6, .symi .u8 77), (7, .symi .u8 78), (8, .symi .u8 79), (9, .symi .u8 80), (10, .symi .u8 81), (11, .symi .i64 60), (12, .symi .u8 61), (13, .symi .u8 62), (14, .symi .u8 63), (15, .symi .u8 64), (16, .symi .u8 65), (17, .symi .u8 66), (18, .symi .u8 67), (19, .symi .u8 68), (20, .symb 87), (21, .symi .u8 21), (22, .symi .u8 72), (2, .symi .i64 73), (3, .symi .u8 74), (4, .symi .u8 75), (5, .symi .u8 76), (6, .symi .u8 77), (7, .symi .u8 78), (8, .symi .u8 79), (9, .symi .u8 80), (10, .symi .u8 81), (23, .symi .i64 88), (24, .symi .u8 89), (25, .symi .u8 90), (26, .symi .u8 91), (27, .symi .u8 92), (28, .symi .u8 93), (29, .symi .u8 94), (30, .symi .u8 95), (31, .symi .u8 96), (20, .symb 87), (21, .symi .u8 21), (32, .symi .u8 100), (33, .symi .i64 33), (34, .symi .u8 34), (35, .symi .u8 35), (36, .symi .u8 36), (37, .symi .u8 37), (38, .symi .u8 38), (39, .symi .u8 39), (40, .symi .u8 40), (41, .symi .u8 41), (11, .symi .i64 11), (12, .symi .u8 12), (13, .symi .u8 13), (14, .symi .u8 14), (15, .symi .u8 15), (16, .symi .u8 16), (17, .symi .u8 17), (18, .symi .u8 18), (19, .symi .u8 19), (42, .symb 42), (21, .symi .u8 21), (22, .symi .u8 22)] [(1, .symi .i64 1)]))) (.node 101 (.node 103 (.dead) (.node 122 (.dead) (.node 125 (.dead) (.node 286 (.dead) (.node 287 (.dead) (.leafE .normal uaS1 [(0, 0), (1, 0), (2, 0)] [(0, .symi .i64 290), (2, .symi .i64 111), (3, .symi .u8 112), (4, .symi .u8 113), (5, .symi .u8 114), (6, .symi .u8 115), (7, .symi .u8 116), (8, .symi .u8 117), (9, .symi .u8 118), (10, .symi .u8 119), (11, .symi .i64 60), (12, .symi .u8 61), (13, .symi .u8 62), (14, .symi .u8 63), (15, .symi .u8 64), (16, .symi .u8 65), (17, .symi .u8 66), (18, .symi .u8 67), (19, .symi .u8 68), (20, .symb 20), (21, .symi .u8 21), (22, .symi .u8 72), (2, .symi .i64 111), (3, .symi .u8 112), (4, .symi .u8 113), (5, .symi .u8 114), (6, .symi .u8 115), (7, .symi .u8 116), (8, .symi .u8 117), (9, .symi .u8 118), (10, .symi .u8 119), (23, .symi .i64 88), (24, .symi .u8 89), (25, .symi .u8 90), (26, .symi .u8 91), (27, .symi .u8 92), (28, .symi .u8 93), (29, .symi .u8 94), (30, .symi .u8 95), (31, .symi .u8 96), (20, .symb 20), (21, .symi .u8 21), (32, .symi .u8 100), (33, .symi .i64 33), (34, .symi .u8 34), (35, .symi .u8 35), (36, .symi .u8 36), (37, .symi .u8 37), (38, .symi .u8 38), (39, .symi .u8 39), (40, .symi .u8 40), (41, .symi .u8 41), (11, .symi .i64 11), (12, .symi .u8 12), (13, .symi .u8 13), (14, .symi .u8 14), (15, .symi .u8 15), (16, .symi .u8 16), (17, .symi .u8 17), (18, .symi .u8 18), (19, .symi .u8 19), (42, .symb 42), (21, .symi .u8 21), (22, .symi .u8 22)] [(1, .symi .i64 1)])))))) (.node 102 (.node 103 (.dead) (.node 122 (.dead) (.node 125 (.dead) (.node 286 (.dead) (.node 287 (.dead) (.leafE .normal uaS1 [(0, 0), (1, 0), (2, 0)] [(0, .symi .i64 290), (2, .symi .i64 111), (3, .symi .u8 112), (4, .symi .u8 113), (5, .symi .u8 114), (6, .symi .u8 115), (7, .symi .u8 116), (8, .symi .u8 117), (9, .symi .u8 118), (10, .symi .u8 119), (11, .symi .i64 60), (12, .symi .u8 61), (13, .symi .u8 62), (14, .symi .u8 63), (15, .symi .u8 64), (16, .symi .u8 65), (17, .symi .u8 66), (18, .symi .u8 67), (19, .symi .u8 68), (20, .symb 20), (21, .symi .u8 21), (22, .symi .u8 72), (2, .symi .i64 111), (3, .symi .u8 112), (4, .symi .u8 113), (5, .symi .u8 114), (6, .symi .u8 115), (7, .symi .u8 116), (8, .symi .u8 117), (9, .symi .u8 118), (10, .symi .u8 119), (23, .symi .i64 88), (24, .symi .u8 89), (25, .symi .u8 90), (26, .symi .u8 91), (27, .symi .u8 92), (28, .symi .u8 93), (29, .symi .u8 94), (30, .symi .u8 95), (31, .symi .u8 96), (20, .symb 20), (21, .symi .u8 21), (32, .symi .u8 100), (33, .symi .i64 33), (34, .symi .u8 34), (35, .symi .u8 35), (36, .symi .u8 36), (37, .symi .u8 37), (38, .symi .u8 38), (39, .symi .u8 39), (40, .symi .u8 40), (41, .symi .u8 41), (11, .symi .i64 11), (12, .symi .u8 12), (13, .symi .u8 13), (14, .symi .u8 14), (15, .symi .u8 15), (16, .symi .u8 16), (17, .symi .u8 17), (18, .symi .u8 18), (19, .symi .u8 19), (42, .symb 42), (21, .symi .u8 21), (22, .symi .u8 22)] [(1, .symi .i64 1)])))))) (.node 103 (.node 108 (.dead) (.node 286 (.dead) (.node 287 (.dead) (.leafE .normal uaS1 [(0, 0), (1, 0), (2, 0)] [(0, .symi .i64 290), (2, .symi .i64 51), (3, .symi .u8 52), (4, .symi .u8 53), (5, .symi .u8 54), (6, .symi .u8 55), (7, .symi .u8 56), (8, .symi .u8 57), (9, .symi .u8 58), (10, .symi .u8 59), (11, .symi .i64 60), (12, .symi .u8 61), (13, .symi .u8 62), (14, .symi .u8 63), (15, .symi .u8 64), (16, .symi .u8 65), (17, .symi .u8 66), (18, .symi .u8 67), (19, .symi .u8 68), (20, .bool false), (21, .symi .u8 21), (22, .symi .u8 72), (2, .symi .i64 51), (3, .symi .u8 52), (4, .symi .u8 53), (5, .symi .u8 54), (6, .symi .u8 55), (7, .symi .u8 56), (8, .symi .u8 57), (9, .symi .u8 58), (10, .symi .u8 59), (23, .symi .i64 88), (24, .symi .u8 89), (25, .symi .u8 90), (26, .symi .u8 91), (27, .symi .u8 92), (28, .symi .u8 93), (29, .symi .u8 94), (30, .symi .u8 95), (31, .symi .u8 96), (20, .bool false), (21, .symi .u8 21), (32, .symi .u8 100), (33, .symi .i64 33), (34, .symi .u8 34), (35, .symi .u8 35), (36, .symi .u8 36), (37, .symi .u8 37), (38, .symi .u8 38), (39, .symi .u8 39), (40, .symi .u8 40), (41, .symi .u8 41), (11, .symi .i64 11), (12, .symi .u8 12), (13, .symi .u8 13), (14, .symi .u8 14), (15, .symi .u8 15), (16, .symi .u8 16), (17, .symi .u8 17), (18, .symi .u8 18), (19, .symi .u8 19), (42, .symb 42), (21, .symi .u8 21), (22, .symi .u8 22)] [(1, .symi .i64 1)])))) (.node 289 (.dead) (.leafE .normal uaS1 [(0, 0), (1, 0), (2, 0)] [(0, .symi .i64 290), (2, .symi .i64 51), (3, .symi .u8 52), (4, .symi .u8 53), (5, .symi .u8 54), (6, .symi .u8 55), (7, .symi .u8 56), (8, .symi .u8 57), (9, .symi .u8 58), (10, .symi .u8 59), (11, .symi .i64 255), (12, .symi .u8 256), (13, .symi .u8 257), (14, .symi .u8 258), (15, .symi .u8 259), (16, .symi .u8 260), (17, .symi .u8 261), (18, .symi .u8 262), (19, .symi .u8 263), (20, .symb 20), (21, .symi .u8 264), (22, .symi .u8 265), (2, .symi .i64 266), (3, .symi .u8 267), (4, .symi .u8 268), (5, .symi .u8 269), (6, .symi .u8 270), (7, .symi .u8 271), (8, .symi .u8 272), (9, .symi .u8 273), (10, .symi .u8 274), (23, .symi .i64 275), (24, .symi .u8 276), (25, .symi .u8 277), (26, .symi .u8 278), (27, .symi .u8 279), (28, .symi .u8 280), (29, .symi .u8 281), (30, .symi .u8 282), (31, .symi .u8 283), (20, .symb 20), (21, .symi .u8 264), (32, .symi .u8 284), (33, .symi .i64 140), (34, .symi .u8 141), (35, .symi .u8 142), (36, .symi .u8 143), (37, .symi .u8 144), (38, .symi .u8 145), (39, .symi .u8 146), (40, .symi .u8 147), (41, .symi .u8 148), (11, .symi .i64 255), (12, .symi .u8 256), (13, .symi .u8 257), (14, .symi .u8 258), (15, .symi .u8 259), (16, .symi .u8 260), (17, .symi .u8 261), (18, .symi .u8 262), (19, .symi .u8 263), (42, .symb 42), (21, .symi .u8 264), (22, .symi .u8 265)] [(1, .symi .i64 1)]))))))) (.dead)) (.leaf (.exit 0) uaS2 [] [] [])) (.leaf (.exit 0) uaS2 [] [] []))
set_option maxRecDepth 100000 in
def uaCG : List SDef := []

set_option maxRecDepth 100000 in
def uaCT : LT := .e

set_option maxRecDepth 100000 in
def uaCW : Sw := .run (.leaf .ret uaSE [] [] [])
def uaAX : Ing := { m := 2, ins := [some .i64, some .i64], G := uaAG, T := uaAT, hook := orHook (trueHook uaTru) (tblHook (tabOf uaFs) uaTbl), tab := tabOf uaFs, rows := [⟨.symi .i64 1, []⟩] }
def uaBX : Ing := { m := 45, ins := uaQK ++ ([.i .u8, .i .u8] : List Cl).map kindC, G := uaBG, T := uaBT, hook := orHook (trueHook uaTru) (tblHook (tabOf uaFs) uaTbl), tab := tabOf uaFs, rows := [⟨.symi .i64 1, [(.symi .i64 0, elCells 43 [.i .u8, .i .u8])]⟩] }
def uaCX : Ing := { m := 0, ins := [], G := uaCG, T := uaCT, hook := orHook (trueHook uaTru) (tblHook (tabOf uaFs) uaTbl), tab := tabOf uaFs, rows := [] }
theorem uaA_ok : okG uaAG 2 = true := by kernel_rfl
theorem uaA_lt : okLT 2 uaAG uaAT = true := by kernel_rfl
theorem uaA_seg : SegOk Try.prog (tabOf uaFs) 201 (preOf (bodyOf Try.f6)) uaS0 uaAX uaAW where
  lt := uaA_lt
  ok := uaA_ok
  hook := fun F => or_hooks uaA_lt rfl rfl ua_tru ua_all F
  n0 := rfl
  id := by kernel_rfl
  reck := by kernel_rfl
  tab := rfl
  cuts := rfl
theorem uaB_ok : okG uaBG 45 = true := by kernel_rfl
theorem uaB_lt : okLT 45 uaBG uaBT = true := by kernel_rfl
theorem uaB_seg : SegOk Try.prog (tabOf uaFs) 201 ([loopOf (bodyOf Try.f6)]) uaS1 uaBX uaBW where
  lt := uaB_lt
  ok := uaB_ok
  hook := fun F => or_hooks uaB_lt rfl rfl ua_tru ua_all F
  n0 := rfl
  id := by kernel_rfl
  reck := by kernel_rfl
  tab := rfl
  cuts := rfl
theorem uaC_ok : okG uaCG 0 = true := by kernel_rfl
theorem uaC_lt : okLT 0 uaCG uaCT = true := by kernel_rfl
theorem uaC_seg : SegOk Try.prog (tabOf uaFs) 201 (postOf (bodyOf Try.f6)) uaS2 uaCX uaCW where
  lt := uaC_lt
  ok := uaC_ok
  hook := fun F => or_hooks uaC_lt rfl rfl ua_tru ua_all F
  n0 := rfl
  id := by kernel_rfl
  reck := by kernel_rfl
  tab := rfl
  cuts := rfl

theorem hbody : Try.f6.body = some (bodyOf Try.f6) := by kernel_rfl
theorem hnt : Try.f6.ntmps = 201 := by kernel_rfl
theorem hres : Try.f6.results.toList = [.tmp 2] := by kernel_rfl
theorem hcut : (cutC (bodyOf Try.f6)).isSome = true := by kernel_rfl
theorem hidOf : idOf (bodyOf Try.f6) = 0 := by kernel_rfl

/-! ### The plain law -/

/-- a queue that is right -/
def Rt (a0 a1 a2 a3 a4 a5 a6 a7 a8 : Int) : Prop := 0 ≤ a0 ∧ a0 ≤ 8 ∧ (a0 ≤ 0 → a1 = 0) ∧ (a0 ≤ 1 → a2 = 0) ∧ (a0 ≤ 2 → a3 = 0) ∧ (a0 ≤ 3 → a4 = 0) ∧ (a0 ≤ 4 → a5 = 0) ∧ (a0 ≤ 5 → a6 = 0) ∧ (a0 ≤ 6 → a7 = 0) ∧ (a0 ≤ 7 → a8 = 0)
/-- .. with a count of ticks -/
def St (a0 a1 a2 a3 a4 a5 a6 a7 a8 c : Int) : Prop := Rt a0 a1 a2 a3 a4 a5 a6 a7 a8 ∧ 0 ≤ c ∧ c < 4 ∧ (a0 = 0 → c = 0)
theorem u8z {n : Int} (h : n = 0) : IntKind.u8.wrap n = 0 := by rw [h]; rfl
theorem rt_of {a0 a1 a2 a3 a4 a5 a6 a7 a8 : Int} (h : Rt a0 a1 a2 a3 a4 a5 a6 a7 a8) : Rt (IntKind.i64.wrap a0) (IntKind.u8.wrap a1) (IntKind.u8.wrap a2) (IntKind.u8.wrap a3) (IntKind.u8.wrap a4) (IntKind.u8.wrap a5) (IntKind.u8.wrap a6) (IntKind.u8.wrap a7) (IntKind.u8.wrap a8) := by
  obtain ⟨h0, h8, h⟩ := h
  unfold Rt
  rw [i64w h0 (by omega)]
  exact ⟨h0, h8, fun x => u8z (h.1 x), fun x => u8z (h.2.1 x), fun x => u8z (h.2.2.1 x), fun x => u8z (h.2.2.2.1 x), fun x => u8z (h.2.2.2.2.1 x), fun x => u8z (h.2.2.2.2.2.1 x), fun x => u8z (h.2.2.2.2.2.2.1 x), fun x => u8z (h.2.2.2.2.2.2.2 x)⟩
theorem qb0 {l : List Int} {i : Nat} (h : qk l ≤ i) : qb l i = 0 := by unfold qb; rw [if_neg (by omega)]
theorem qp0 {l : List Int} {b : Int} {i : Nat} (h : qk l + 1 ≤ i) : qp l b i = 0 := by unfold qp; rw [if_neg (by omega)]; exact qb0 (by omega)
theorem rt_mend (l : List Int) : Rt (IntKind.i64.wrap ((mendF l).getD 0 0)) (IntKind.u8.wrap ((mendF l).getD 1 0)) (IntKind.u8.wrap ((mendF l).getD 2 0)) (IntKind.u8.wrap ((mendF l).getD 3 0)) (IntKind.u8.wrap ((mendF l).getD 4 0)) (IntKind.u8.wrap ((mendF l).getD 5 0)) (IntKind.u8.wrap ((mendF l).getD 6 0)) (IntKind.u8.wrap ((mendF l).getD 7 0)) (IntKind.u8.wrap ((mendF l).getD 8 0)) :=
  rt_of ⟨(qk_in l).1, (qk_in l).2, fun h => qb0 (i := 0) h, fun h => qb0 (i := 1) h, fun h => qb0 (i := 2) h, fun h => qb0 (i := 3) h, fun h => qb0 (i := 4) h, fun h => qb0 (i := 5) h, fun h => qb0 (i := 6) h, fun h => qb0 (i := 7) h⟩
theorem st_push (l : List Int) {c : Int} (h0 : 0 ≤ c) (h4 : c < 4) : St (IntKind.i64.wrap ((pushF l).getD 0 0)) (IntKind.u8.wrap ((pushF l).getD 1 0)) (IntKind.u8.wrap ((pushF l).getD 2 0)) (IntKind.u8.wrap ((pushF l).getD 3 0)) (IntKind.u8.wrap ((pushF l).getD 4 0)) (IntKind.u8.wrap ((pushF l).getD 5 0)) (IntKind.u8.wrap ((pushF l).getD 6 0)) (IntKind.u8.wrap ((pushF l).getD 7 0)) (IntKind.u8.wrap ((pushF l).getD 8 0)) c := by
  have k := qk_in l
  unfold pushF
  split
  · rename_i h
    refine ⟨rt_of (a0 := 8) (a1 := qb l 0) (a2 := qb l 1) (a3 := qb l 2) (a4 := qb l 3) (a5 := qb l 4) (a6 := qb l 5) (a7 := qb l 6) (a8 := qb l 7) ⟨by omega, by omega, fun x => by omega, fun x => by omega, fun x => by omega, fun x => by omega, fun x => by omega, fun x => by omega, fun x => by omega, fun x => by omega⟩, h0, h4, fun x => ?_⟩
    exact absurd (show (8 : Int) = 0 from x) (by decide)
  · rename_i h
    refine ⟨rt_of (a0 := qk l + 1) (a1 := qp l (l.getD 9 0) 0) (a2 := qp l (l.getD 9 0) 1) (a3 := qp l (l.getD 9 0) 2) (a4 := qp l (l.getD 9 0) 3) (a5 := qp l (l.getD 9 0) 4) (a6 := qp l (l.getD 9 0) 5) (a7 := qp l (l.getD 9 0) 6) (a8 := qp l (l.getD 9 0) 7) ⟨by omega, by omega, fun x => qp0 (i := 0) x, fun x => qp0 (i := 1) x, fun x => qp0 (i := 2) x, fun x => qp0 (i := 3) x, fun x => qp0 (i := 4) x, fun x => qp0 (i := 5) x, fun x => qp0 (i := 6) x, fun x => qp0 (i := 7) x⟩, h0, h4, fun x => ?_⟩
    have x : IntKind.i64.wrap (qk l + 1) = 0 := x
    rw [i64w (by omega) (by omega)] at x
    omega
theorem rt_pop (l : List Int) : Rt (IntKind.i64.wrap ((popF l).getD 1 0)) (IntKind.u8.wrap ((popF l).getD 2 0)) (IntKind.u8.wrap ((popF l).getD 3 0)) (IntKind.u8.wrap ((popF l).getD 4 0)) (IntKind.u8.wrap ((popF l).getD 5 0)) (IntKind.u8.wrap ((popF l).getD 6 0)) (IntKind.u8.wrap ((popF l).getD 7 0)) (IntKind.u8.wrap ((popF l).getD 8 0)) (IntKind.u8.wrap ((popF l).getD 9 0)) := by
  have k := qk_in l
  unfold popF
  split
  · exact rt_of (a0 := 0) (a1 := 0) (a2 := 0) (a3 := 0) (a4 := 0) (a5 := 0) (a6 := 0) (a7 := 0) (a8 := 0) ⟨by omega, by omega, fun _ => rfl, fun _ => rfl, fun _ => rfl, fun _ => rfl, fun _ => rfl, fun _ => rfl, fun _ => rfl, fun _ => rfl⟩
  · rename_i h
    exact rt_of (a0 := qk l - 1) (a1 := qb l 1) (a2 := qb l 2) (a3 := qb l 3) (a4 := qb l 4) (a5 := qb l 5) (a6 := qb l 6) (a7 := qb l 7) (a8 := 0) ⟨by omega, by omega, fun x => qb0 (i := 1) (by have : (((1 : Nat)) : Int) = 1 := rfl; omega), fun x => qb0 (i := 2) (by have : (((2 : Nat)) : Int) = 2 := rfl; omega), fun x => qb0 (i := 3) (by have : (((3 : Nat)) : Int) = 3 := rfl; omega), fun x => qb0 (i := 4) (by have : (((4 : Nat)) : Int) = 4 := rfl; omega), fun x => qb0 (i := 5) (by have : (((5 : Nat)) : Int) = 5 := rfl; omega), fun x => qb0 (i := 6) (by have : (((6 : Nat)) : Int) = 6 := rfl; omega), fun x => qb0 (i := 7) (by have : (((7 : Nat)) : Int) = 7 := rfl; omega), fun _ => rfl⟩
theorem st_bif {c : Bool} {x0 y0 x1 y1 x2 y2 x3 y3 x4 y4 x5 y5 x6 y6 x7 y7 x8 y8 x9 y9 : Int} (hx : c = true → St x0 x1 x2 x3 x4 x5 x6 x7 x8 x9) (hy : c = false → St y0 y1 y2 y3 y4 y5 y6 y7 y8 y9) : St (bif c then x0 else y0) (bif c then x1 else y1) (bif c then x2 else y2) (bif c then x3 else y3) (bif c then x4 else y4) (bif c then x5 else y5) (bif c then x6 else y6) (bif c then x7 else y7) (bif c then x8 else y8) (bif c then x9 else y9) := by
  cases c
  · exact hy rfl
  · exact hx rfl
theorem rt_bif {c : Bool} {x0 y0 x1 y1 x2 y2 x3 y3 x4 y4 x5 y5 x6 y6 x7 y7 x8 y8 : Int} (hx : c = true → Rt x0 x1 x2 x3 x4 x5 x6 x7 x8) (hy : c = false → Rt y0 y1 y2 y3 y4 y5 y6 y7 y8) : Rt (bif c then x0 else y0) (bif c then x1 else y1) (bif c then x2 else y2) (bif c then x3 else y3) (bif c then x4 else y4) (bif c then x5 else y5) (bif c then x6 else y6) (bif c then x7 else y7) (bif c then x8 else y8) := by
  cases c
  · exact hy rfl
  · exact hx rfl
theorem right_mend {a0 a1 a2 a3 a4 a5 a6 a7 a8 : Int} (h : Rt a0 a1 a2 a3 a4 a5 a6 a7 a8) : mendF [a0, a1, a2, a3, a4, a5, a6, a7, a8] = [a0, a1, a2, a3, a4, a5, a6, a7, a8] := by
  obtain ⟨h0, h8, g0, g1, g2, g3, g4, g5, g6, g7⟩ := h
  have hk : qk [a0, a1, a2, a3, a4, a5, a6, a7, a8] = a0 := by
    show clamp a0 = a0
    unfold clamp; split <;> (try split) <;> omega
  have b0 : qb [a0, a1, a2, a3, a4, a5, a6, a7, a8] 0 = a1 := by
    unfold qb; rw [hk]
    split
    · rfl
    · exact (g0 (by rename_i x; have : (((0 : Nat)) : Int) = 0 := rfl; omega)).symm
  have b1 : qb [a0, a1, a2, a3, a4, a5, a6, a7, a8] 1 = a2 := by
    unfold qb; rw [hk]
    split
    · rfl
    · exact (g1 (by rename_i x; have : (((1 : Nat)) : Int) = 1 := rfl; omega)).symm
  have b2 : qb [a0, a1, a2, a3, a4, a5, a6, a7, a8] 2 = a3 := by
    unfold qb; rw [hk]
    split
    · rfl
    · exact (g2 (by rename_i x; have : (((2 : Nat)) : Int) = 2 := rfl; omega)).symm
  have b3 : qb [a0, a1, a2, a3, a4, a5, a6, a7, a8] 3 = a4 := by
    unfold qb; rw [hk]
    split
    · rfl
    · exact (g3 (by rename_i x; have : (((3 : Nat)) : Int) = 3 := rfl; omega)).symm
  have b4 : qb [a0, a1, a2, a3, a4, a5, a6, a7, a8] 4 = a5 := by
    unfold qb; rw [hk]
    split
    · rfl
    · exact (g4 (by rename_i x; have : (((4 : Nat)) : Int) = 4 := rfl; omega)).symm
  have b5 : qb [a0, a1, a2, a3, a4, a5, a6, a7, a8] 5 = a6 := by
    unfold qb; rw [hk]
    split
    · rfl
    · exact (g5 (by rename_i x; have : (((5 : Nat)) : Int) = 5 := rfl; omega)).symm
  have b6 : qb [a0, a1, a2, a3, a4, a5, a6, a7, a8] 6 = a7 := by
    unfold qb; rw [hk]
    split
    · rfl
    · exact (g6 (by rename_i x; have : (((6 : Nat)) : Int) = 6 := rfl; omega)).symm
  have b7 : qb [a0, a1, a2, a3, a4, a5, a6, a7, a8] 7 = a8 := by
    unfold qb; rw [hk]
    split
    · rfl
    · exact (g7 (by rename_i x; have : (((7 : Nat)) : Int) = 7 := rfl; omega)).symm
  unfold mendF
  rw [hk, b0, b1, b2, b3, b4, b5, b6, b7]
theorem and5 (a b c d : Bool) : IntKind.i32.wrap (BitVec.ofInt IntKind.i32.bits (IntKind.i32.wrap (stB a b d)) &&& BitVec.ofInt IntKind.i32.bits (5)).toNat = IntKind.i32.wrap (BitVec.ofInt IntKind.i32.bits (IntKind.i32.wrap (stB a c d)) &&& BitVec.ofInt IntKind.i32.bits (5)).toNat := by
  cases a <;> cases b <;> cases c <;> cases d <;> rfl

def J (σ : Sig) : Prop := Rt (σ.ival 2) (σ.ival 3) (σ.ival 4) (σ.ival 5) (σ.ival 6) (σ.ival 7) (σ.ival 8) (σ.ival 9) (σ.ival 10) ∧ St (σ.ival 11) (σ.ival 12) (σ.ival 13) (σ.ival 14) (σ.ival 15) (σ.ival 16) (σ.ival 17) (σ.ival 18) (σ.ival 19) (σ.ival 22)
theorem J_agree (σ τ : Sig) (ag : Agree 43 σ τ) (h : J σ) : J τ := by
  have v : ∀ i, i < 43 → τ.ival i = σ.ival i := fun i hi => (ag.val i hi).1.symm
  unfold J
  rw [v 2 (by decide), v 3 (by decide), v 4 (by decide), v 5 (by decide), v 6 (by decide), v 7 (by decide), v 8 (by decide), v 9 (by decide), v 10 (by decide), v 11 (by decide), v 12 (by decide), v 13 (by decide), v 14 (by decide), v 15 (by decide), v 16 (by decide), v 17 (by decide), v 18 (by decide), v 19 (by decide), v 22 (by decide)]
  exact h

set_option maxRecDepth 100000 in
theorem oA : ∀ τ : Sig, Eqs τ 2 uaAX.G → τ.tab = tabOf uaFs → InsOk τ 2 uaAX.ins → segsW τ (fun x s σ2 => x = .normal ∧ s = uaS1 ∧ σ2.ival 0 = 0 ∧ σ2.ival 1 = τ.ival 1 ∧ InsOk σ2 43 uaQK ∧ J σ2 ∧ σ2.tab = tabOf uaFs ∧ σ2.ext = τ.ext) uaAW [] := by
  intro τ e ht hin
  intro _
  refine ⟨rfl, rfl, rfl, rfl, insOk_asg e hin 12 (by kernel_rfl), ?_, ht, rfl⟩
  show Rt 0 0 0 0 0 0 0 0 0 ∧ St 0 0 0 0 0 0 0 0 0 0
  unfold St Rt
  refine ⟨?_, ?_⟩ <;> simp

theorem oC : ∀ τ : Sig, Eqs τ 0 uaCX.G → τ.tab = tabOf uaFs → segsW τ (fun x s _ => (x = .ret ∨ x = .normal) ∧ s = uaSE) uaCW [] := by
  intro τ e ht
  intro _
  exact ⟨.inl rfl, rfl⟩

set_option maxRecDepth 100000 in
theorem oB : ∀ τ : Sig, Eqs τ uaBX.m uaBX.G → τ.tab = tabOf uaFs → InsOk τ uaBX.m uaBX.ins → 0 ≤ τ.ival 0 → τ.ival 0 ≤ τ.ival 1 → τ.ival 1 ≤ 9223372036854775807 → J τ →
    segsW τ (fun x s σ2 => (x = .normal ∧ s = uaS1 ∧ τ.ival 0 < τ.ival 1 ∧ σ2.ival 0 = τ.ival 0 + 1 ∧ σ2.ival 1 = τ.ival 1 ∧ InsOk σ2 43 uaQK ∧ J σ2 ∧ σ2.tab = tabOf uaFs ∧ σ2.ext = τ.ext) ∨ (x = .exit (idOf (bodyOf Try.f6)) ∧ s = uaS2 ∧ σ2.tab = tabOf uaFs)) uaBW [] := by
  intro τ e ht hin h0 h01 hlen hj
  have e45 : τ.bval 45 = decide (τ.ival 0 < τ.ival 1) := eqB (e.at 0 _ rfl rfl) rfl
  have e46 : τ.bval 46 = decide (τ.ival 0 < 200) := eqB (e.at 1 _ rfl rfl) rfl
  have e47 : τ.bval 47 = decide (0 ≤ τ.ival 0) := eqB (e.at 2 _ rfl rfl) rfl
  have e48 : τ.ival 48 = ((τ.ival 43 : Int).tmod 13) := eqI (e.at 3 _ rfl rfl) rfl
  have e49 : τ.bval 49 = (τ.ival 48 == 0) := eqB (e.at 4 _ rfl rfl) rfl
  have e50 : τ.bval 50 = (τ.ival 48 == 1) := eqB (e.at 5 _ rfl rfl) rfl
  have e51 : τ.ival 51 = IntKind.i64.wrap (τ.tab 0 [τ.ival 2, τ.ival 3, τ.ival 4, τ.ival 5, τ.ival 6, τ.ival 7, τ.ival 8, τ.ival 9, τ.ival 10]) := eqI (e.at 6 _ rfl rfl) rfl
  have e52 : τ.ival 52 = IntKind.u8.wrap (τ.tab 1 [τ.ival 2, τ.ival 3, τ.ival 4, τ.ival 5, τ.ival 6, τ.ival 7, τ.ival 8, τ.ival 9, τ.ival 10]) := eqI (e.at 7 _ rfl rfl) rfl
  have e53 : τ.ival 53 = IntKind.u8.wrap (τ.tab 2 [τ.ival 2, τ.ival 3, τ.ival 4, τ.ival 5, τ.ival 6, τ.ival 7, τ.ival 8, τ.ival 9, τ.ival 10]) := eqI (e.at 8 _ rfl rfl) rfl
  have e54 : τ.ival 54 = IntKind.u8.wrap (τ.tab 3 [τ.ival 2, τ.ival 3, τ.ival 4, τ.ival 5, τ.ival 6, τ.ival 7, τ.ival 8, τ.ival 9, τ.ival 10]) := eqI (e.at 9 _ rfl rfl) rfl
  have e55 : τ.ival 55 = IntKind.u8.wrap (τ.tab 4 [τ.ival 2, τ.ival 3, τ.ival 4, τ.ival 5, τ.ival 6, τ.ival 7, τ.ival 8, τ.ival 9, τ.ival 10]) := eqI (e.at 10 _ rfl rfl) rfl
  have e56 : τ.ival 56 = IntKind.u8.wrap (τ.tab 5 [τ.ival 2, τ.ival 3, τ.ival 4, τ.ival 5, τ.ival 6, τ.ival 7, τ.ival 8, τ.ival 9, τ.ival 10]) := eqI (e.at 11 _ rfl rfl) rfl
  have e57 : τ.ival 57 = IntKind.u8.wrap (τ.tab 6 [τ.ival 2, τ.ival 3, τ.ival 4, τ.ival 5, τ.ival 6, τ.ival 7, τ.ival 8, τ.ival 9, τ.ival 10]) := eqI (e.at 12 _ rfl rfl) rfl
  have e58 : τ.ival 58 = IntKind.u8.wrap (τ.tab 7 [τ.ival 2, τ.ival 3, τ.ival 4, τ.ival 5, τ.ival 6, τ.ival 7, τ.ival 8, τ.ival 9, τ.ival 10]) := eqI (e.at 13 _ rfl rfl) rfl
  have e59 : τ.ival 59 = IntKind.u8.wrap (τ.tab 8 [τ.ival 2, τ.ival 3, τ.ival 4, τ.ival 5, τ.ival 6, τ.ival 7, τ.ival 8, τ.ival 9, τ.ival 10]) := eqI (e.at 14 _ rfl rfl) rfl
  have e60 : τ.ival 60 = IntKind.i64.wrap (τ.tab 0 [τ.ival 11, τ.ival 12, τ.ival 13, τ.ival 14, τ.ival 15, τ.ival 16, τ.ival 17, τ.ival 18, τ.ival 19]) := eqI (e.at 15 _ rfl rfl) rfl
  have e61 : τ.ival 61 = IntKind.u8.wrap (τ.tab 1 [τ.ival 11, τ.ival 12, τ.ival 13, τ.ival 14, τ.ival 15, τ.ival 16, τ.ival 17, τ.ival 18, τ.ival 19]) := eqI (e.at 16 _ rfl rfl) rfl
  have e62 : τ.ival 62 = IntKind.u8.wrap (τ.tab 2 [τ.ival 11, τ.ival 12, τ.ival 13, τ.ival 14, τ.ival 15, τ.ival 16, τ.ival 17, τ.ival 18, τ.ival 19]) := eqI (e.at 17 _ rfl rfl) rfl
  have e63 : τ.ival 63 = IntKind.u8.wrap (τ.tab 3 [τ.ival 11, τ.ival 12, τ.ival 13, τ.ival 14, τ.ival 15, τ.ival 16, τ.ival 17, τ.ival 18, τ.ival 19]) := eqI (e.at 18 _ rfl rfl) rfl
  have e64 : τ.ival 64 = IntKind.u8.wrap (τ.tab 4 [τ.ival 11, τ.ival 12, τ.ival 13, τ.ival 14, τ.ival 15, τ.ival 16, τ.ival 17, τ.ival 18, τ.ival 19]) := eqI (e.at 19 _ rfl rfl) rfl
  have e65 : τ.ival 65 = IntKind.u8.wrap (τ.tab 5 [τ.ival 11, τ.ival 12, τ.ival 13, τ.ival 14, τ.ival 15, τ.ival 16, τ.ival 17, τ.ival 18, τ.ival 19]) := eqI (e.at 20 _ rfl rfl) rfl
  have e66 : τ.ival 66 = IntKind.u8.wrap (τ.tab 6 [τ.ival 11, τ.ival 12, τ.ival 13, τ.ival 14, τ.ival 15, τ.ival 16, τ.ival 17, τ.ival 18, τ.ival 19]) := eqI (e.at 21 _ rfl rfl) rfl
  have e67 : τ.ival 67 = IntKind.u8.wrap (τ.tab 7 [τ.ival 11, τ.ival 12, τ.ival 13, τ.ival 14, τ.ival 15, τ.ival 16, τ.ival 17, τ.ival 18, τ.ival 19]) := eqI (e.at 22 _ rfl rfl) rfl
  have e68 : τ.ival 68 = IntKind.u8.wrap (τ.tab 8 [τ.ival 11, τ.ival 12, τ.ival 13, τ.ival 14, τ.ival 15, τ.ival 16, τ.ival 17, τ.ival 18, τ.ival 19]) := eqI (e.at 23 _ rfl rfl) rfl
  have e69 : τ.bval 69 = (τ.ival 60 == 0) := eqB (e.at 24 _ rfl rfl) rfl
  have e70 : τ.bval 70 = decide (τ.ival 22 ≥ 4) := eqB (e.at 25 _ rfl rfl) rfl
  have e71 : τ.ival 71 = (bif τ.bval 70 then 0 else τ.ival 22) := eqIteI (e.at 26 _ rfl rfl) rfl rfl rfl
  have e72 : τ.ival 72 = (bif τ.bval 69 then 0 else τ.ival 71) := eqIteI (e.at 27 _ rfl rfl) rfl rfl rfl
  have e73 : τ.ival 73 = IntKind.i64.wrap (τ.tab 64 [τ.ival 51, τ.ival 52, τ.ival 53, τ.ival 54, τ.ival 55, τ.ival 56, τ.ival 57, τ.ival 58, τ.ival 59, τ.ival 44]) := eqI (e.at 28 _ rfl rfl) rfl
  have e74 : τ.ival 74 = IntKind.u8.wrap (τ.tab 65 [τ.ival 51, τ.ival 52, τ.ival 53, τ.ival 54, τ.ival 55, τ.ival 56, τ.ival 57, τ.ival 58, τ.ival 59, τ.ival 44]) := eqI (e.at 29 _ rfl rfl) rfl
  have e75 : τ.ival 75 = IntKind.u8.wrap (τ.tab 66 [τ.ival 51, τ.ival 52, τ.ival 53, τ.ival 54, τ.ival 55, τ.ival 56, τ.ival 57, τ.ival 58, τ.ival 59, τ.ival 44]) := eqI (e.at 30 _ rfl rfl) rfl
  have e76 : τ.ival 76 = IntKind.u8.wrap (τ.tab 67 [τ.ival 51, τ.ival 52, τ.ival 53, τ.ival 54, τ.ival 55, τ.ival 56, τ.ival 57, τ.ival 58, τ.ival 59, τ.ival 44]) := eqI (e.at 31 _ rfl rfl) rfl
  have e77 : τ.ival 77 = IntKind.u8.wrap (τ.tab 68 [τ.ival 51, τ.ival 52, τ.ival 53, τ.ival 54, τ.ival 55, τ.ival 56, τ.ival 57, τ.ival 58, τ.ival 59, τ.ival 44]) := eqI (e.at 32 _ rfl rfl) rfl
  have e78 : τ.ival 78 = IntKind.u8.wrap (τ.tab 69 [τ.ival 51, τ.ival 52, τ.ival 53, τ.ival 54, τ.ival 55, τ.ival 56, τ.ival 57, τ.ival 58, τ.ival 59, τ.ival 44]) := eqI (e.at 33 _ rfl rfl) rfl
  have e79 : τ.ival 79 = IntKind.u8.wrap (τ.tab 70 [τ.ival 51, τ.ival 52, τ.ival 53, τ.ival 54, τ.ival 55, τ.ival 56, τ.ival 57, τ.ival 58, τ.ival 59, τ.ival 44]) := eqI (e.at 34 _ rfl rfl) rfl
  have e80 : τ.ival 80 = IntKind.u8.wrap (τ.tab 71 [τ.ival 51, τ.ival 52, τ.ival 53, τ.ival 54, τ.ival 55, τ.ival 56, τ.ival 57, τ.ival 58, τ.ival 59, τ.ival 44]) := eqI (e.at 35 _ rfl rfl) rfl
  have e81 : τ.ival 81 = IntKind.u8.wrap (τ.tab 72 [τ.ival 51, τ.ival 52, τ.ival 53, τ.ival 54, τ.ival 55, τ.ival 56, τ.ival 57, τ.ival 58, τ.ival 59, τ.ival 44]) := eqI (e.at 36 _ rfl rfl) rfl
  have e82 : τ.bval 82 = (!(τ.tab 73 [τ.ival 51, τ.ival 52, τ.ival 53, τ.ival 54, τ.ival 55, τ.ival 56, τ.ival 57, τ.ival 58, τ.ival 59, τ.ival 44] == 0)) := eqB (e.at 37 _ rfl rfl) rfl
  have e83 : τ.bval 83 = (!τ.bval 82) := eqB (e.at 38 _ rfl rfl) rfl
  have e84 : τ.ival 84 = IntKind.u8.wrap (BitVec.ofInt IntKind.u8.bits (τ.ival 21) &&& BitVec.ofInt IntKind.u8.bits (1)).toNat := eqI (e.at 39 _ rfl rfl) rfl
  have e85 : τ.bval 85 = (τ.ival 84 != 0) := eqB (e.at 40 _ rfl rfl) rfl
  have e86 : τ.bval 86 = (bif τ.bval 82 then τ.bval 85 else false) := eqIteB (e.at 41 _ rfl rfl) rfl rfl rfl
  have e87 : τ.bval 87 = (bif τ.bval 20 then true else τ.bval 83) := eqIteB (e.at 42 _ rfl rfl) rfl rfl rfl
  have e88 : τ.ival 88 = IntKind.i64.wrap (τ.tab 0 [τ.ival 23, τ.ival 24, τ.ival 25, τ.ival 26, τ.ival 27, τ.ival 28, τ.ival 29, τ.ival 30, τ.ival 31]) := eqI (e.at 43 _ rfl rfl) rfl
  have e89 : τ.ival 89 = IntKind.u8.wrap (τ.tab 1 [τ.ival 23, τ.ival 24, τ.ival 25, τ.ival 26, τ.ival 27, τ.ival 28, τ.ival 29, τ.ival 30, τ.ival 31]) := eqI (e.at 44 _ rfl rfl) rfl
  have e90 : τ.ival 90 = IntKind.u8.wrap (τ.tab 2 [τ.ival 23, τ.ival 24, τ.ival 25, τ.ival 26, τ.ival 27, τ.ival 28, τ.ival 29, τ.ival 30, τ.ival 31]) := eqI (e.at 45 _ rfl rfl) rfl
  have e91 : τ.ival 91 = IntKind.u8.wrap (τ.tab 3 [τ.ival 23, τ.ival 24, τ.ival 25, τ.ival 26, τ.ival 27, τ.ival 28, τ.ival 29, τ.ival 30, τ.ival 31]) := eqI (e.at 46 _ rfl rfl) rfl
  have e92 : τ.ival 92 = IntKind.u8.wrap (τ.tab 4 [τ.ival 23, τ.ival 24, τ.ival 25, τ.ival 26, τ.ival 27, τ.ival 28, τ.ival 29, τ.ival 30, τ.ival 31]) := eqI (e.at 47 _ rfl rfl) rfl
  have e93 : τ.ival 93 = IntKind.u8.wrap (τ.tab 5 [τ.ival 23, τ.ival 24, τ.ival 25, τ.ival 26, τ.ival 27, τ.ival 28, τ.ival 29, τ.ival 30, τ.ival 31]) := eqI (e.at 48 _ rfl rfl) rfl
  have e94 : τ.ival 94 = IntKind.u8.wrap (τ.tab 6 [τ.ival 23, τ.ival 24, τ.ival 25, τ.ival 26, τ.ival 27, τ.ival 28, τ.ival 29, τ.ival 30, τ.ival 31]) := eqI (e.at 49 _ rfl rfl) rfl
  have e95 : τ.ival 95 = IntKind.u8.wrap (τ.tab 7 [τ.ival 23, τ.ival 24, τ.ival 25, τ.ival 26, τ.ival 27, τ.ival 28, τ.ival 29, τ.ival 30, τ.ival 31]) := eqI (e.at 50 _ rfl rfl) rfl
  have e96 : τ.ival 96 = IntKind.u8.wrap (τ.tab 8 [τ.ival 23, τ.ival 24, τ.ival 25, τ.ival 26, τ.ival 27, τ.ival 28, τ.ival 29, τ.ival 30, τ.ival 31]) := eqI (e.at 51 _ rfl rfl) rfl
  have e97 : τ.bval 97 = (τ.ival 88 == 0) := eqB (e.at 52 _ rfl rfl) rfl
  have e98 : τ.bval 98 = decide (τ.ival 32 ≥ 4) := eqB (e.at 53 _ rfl rfl) rfl
  have e99 : τ.ival 99 = (bif τ.bval 98 then 0 else τ.ival 32) := eqIteI (e.at 54 _ rfl rfl) rfl rfl rfl
  have e100 : τ.ival 100 = (bif τ.bval 97 then 0 else τ.ival 99) := eqIteI (e.at 55 _ rfl rfl) rfl rfl rfl
  have e101 : τ.bval 101 = (τ.ival 48 == 2) := eqB (e.at 56 _ rfl rfl) rfl
  have e102 : τ.bval 102 = (τ.ival 48 == 3) := eqB (e.at 57 _ rfl rfl) rfl
  have e103 : τ.bval 103 = (τ.ival 48 == 12) := eqB (e.at 58 _ rfl rfl) rfl
  have e104 : τ.ival 104 = IntKind.i32.wrap (τ.tab 192 [τ.ival 2, τ.ival 3, τ.ival 4, τ.ival 5, τ.ival 6, τ.ival 7, τ.ival 8, τ.ival 9, τ.ival 10, τ.ival 11, τ.ival 12, τ.ival 13, τ.ival 14, τ.ival 15, τ.ival 16, τ.ival 17, τ.ival 18, τ.ival 19, (if τ.bval 20 then 1 else 0), τ.ival 21, τ.ival 22, 4]) := eqI (e.at 59 _ rfl rfl) rfl
  have e105 : τ.ival 105 = IntKind.i32.wrap (τ.tab 192 [τ.ival 2, τ.ival 3, τ.ival 4, τ.ival 5, τ.ival 6, τ.ival 7, τ.ival 8, τ.ival 9, τ.ival 10, τ.ival 23, τ.ival 24, τ.ival 25, τ.ival 26, τ.ival 27, τ.ival 28, τ.ival 29, τ.ival 30, τ.ival 31, (if τ.bval 20 then 1 else 0), τ.ival 21, τ.ival 32, 4]) := eqI (e.at 60 _ rfl rfl) rfl
  have e106 : τ.ival 106 = IntKind.i32.wrap (BitVec.ofInt IntKind.i32.bits (τ.ival 104) &&& BitVec.ofInt IntKind.i32.bits (5)).toNat := eqI (e.at 61 _ rfl rfl) rfl
  have e107 : τ.ival 107 = IntKind.i32.wrap (BitVec.ofInt IntKind.i32.bits (τ.ival 105) &&& BitVec.ofInt IntKind.i32.bits (5)).toNat := eqI (e.at 62 _ rfl rfl) rfl
  have e108 : τ.bval 108 = (τ.ival 106 != τ.ival 107) := eqB (e.at 63 _ rfl rfl) rfl
  have e109 : τ.ival 109 = IntKind.i32.wrap (τ.tab 192 [τ.ival 2, τ.ival 3, τ.ival 4, τ.ival 5, τ.ival 6, τ.ival 7, τ.ival 8, τ.ival 9, τ.ival 10, τ.ival 11, τ.ival 12, τ.ival 13, τ.ival 14, τ.ival 15, τ.ival 16, τ.ival 17, τ.ival 18, τ.ival 19, (if τ.bval 20 then 1 else 0), τ.ival 21, τ.ival 22, 3]) := eqI (e.at 64 _ rfl rfl) rfl
  have e110 : τ.ival 110 = IntKind.u8.wrap (τ.tab 128 [τ.ival 51, τ.ival 52, τ.ival 53, τ.ival 54, τ.ival 55, τ.ival 56, τ.ival 57, τ.ival 58, τ.ival 59]) := eqI (e.at 65 _ rfl rfl) rfl
  have e111 : τ.ival 111 = IntKind.i64.wrap (τ.tab 129 [τ.ival 51, τ.ival 52, τ.ival 53, τ.ival 54, τ.ival 55, τ.ival 56, τ.ival 57, τ.ival 58, τ.ival 59]) := eqI (e.at 66 _ rfl rfl) rfl
  have e112 : τ.ival 112 = IntKind.u8.wrap (τ.tab 130 [τ.ival 51, τ.ival 52, τ.ival 53, τ.ival 54, τ.ival 55, τ.ival 56, τ.ival 57, τ.ival 58, τ.ival 59]) := eqI (e.at 67 _ rfl rfl) rfl
  have e113 : τ.ival 113 = IntKind.u8.wrap (τ.tab 131 [τ.ival 51, τ.ival 52, τ.ival 53, τ.ival 54, τ.ival 55, τ.ival 56, τ.ival 57, τ.ival 58, τ.ival 59]) := eqI (e.at 68 _ rfl rfl) rfl
  have e114 : τ.ival 114 = IntKind.u8.wrap (τ.tab 132 [τ.ival 51, τ.ival 52, τ.ival 53, τ.ival 54, τ.ival 55, τ.ival 56, τ.ival 57, τ.ival 58, τ.ival 59]) := eqI (e.at 69 _ rfl rfl) rfl
  have e115 : τ.ival 115 = IntKind.u8.wrap (τ.tab 133 [τ.ival 51, τ.ival 52, τ.ival 53, τ.ival 54, τ.ival 55, τ.ival 56, τ.ival 57, τ.ival 58, τ.ival 59]) := eqI (e.at 70 _ rfl rfl) rfl
  have e116 : τ.ival 116 = IntKind.u8.wrap (τ.tab 134 [τ.ival 51, τ.ival 52, τ.ival 53, τ.ival 54, τ.ival 55, τ.ival 56, τ.ival 57, τ.ival 58, τ.ival 59]) := eqI (e.at 71 _ rfl rfl) rfl
  have e117 : τ.ival 117 = IntKind.u8.wrap (τ.tab 135 [τ.ival 51, τ.ival 52, τ.ival 53, τ.ival 54, τ.ival 55, τ.ival 56, τ.ival 57, τ.ival 58, τ.ival 59]) := eqI (e.at 72 _ rfl rfl) rfl
  have e118 : τ.ival 118 = IntKind.u8.wrap (τ.tab 136 [τ.ival 51, τ.ival 52, τ.ival 53, τ.ival 54, τ.ival 55, τ.ival 56, τ.ival 57, τ.ival 58, τ.ival 59]) := eqI (e.at 73 _ rfl rfl) rfl
  have e119 : τ.ival 119 = IntKind.u8.wrap (τ.tab 137 [τ.ival 51, τ.ival 52, τ.ival 53, τ.ival 54, τ.ival 55, τ.ival 56, τ.ival 57, τ.ival 58, τ.ival 59]) := eqI (e.at 74 _ rfl rfl) rfl
  have e120 : τ.bval 120 = (!(τ.tab 138 [τ.ival 51, τ.ival 52, τ.ival 53, τ.ival 54, τ.ival 55, τ.ival 56, τ.ival 57, τ.ival 58, τ.ival 59] == 0)) := eqB (e.at 75 _ rfl rfl) rfl
  have e121 : τ.ival 121 = IntKind.i32.wrap (τ.tab 192 [τ.ival 2, τ.ival 3, τ.ival 4, τ.ival 5, τ.ival 6, τ.ival 7, τ.ival 8, τ.ival 9, τ.ival 10, τ.ival 23, τ.ival 24, τ.ival 25, τ.ival 26, τ.ival 27, τ.ival 28, τ.ival 29, τ.ival 30, τ.ival 31, (if τ.bval 20 then 1 else 0), τ.ival 21, τ.ival 32, 3]) := eqI (e.at 76 _ rfl rfl) rfl
  have e122 : τ.bval 122 = (τ.ival 109 != τ.ival 121) := eqB (e.at 77 _ rfl rfl) rfl
  have e123 : τ.ival 123 = IntKind.i32.wrap (BitVec.ofInt IntKind.i32.bits (τ.ival 109) &&& BitVec.ofInt IntKind.i32.bits (5)).toNat := eqI (e.at 78 _ rfl rfl) rfl
  have e124 : τ.ival 124 = IntKind.i32.wrap (BitVec.ofInt IntKind.i32.bits (τ.ival 121) &&& BitVec.ofInt IntKind.i32.bits (5)).toNat := eqI (e.at 79 _ rfl rfl) rfl
  have e125 : τ.bval 125 = (τ.ival 123 != τ.ival 124) := eqB (e.at 80 _ rfl rfl) rfl
  have e126 : τ.bval 126 = (τ.ival 48 == 4) := eqB (e.at 81 _ rfl rfl) rfl
  have e127 : τ.bval 127 = (τ.ival 48 == 5) := eqB (e.at 82 _ rfl rfl) rfl
  have e128 : τ.ival 128 = IntKind.i32.wrap (τ.ival 44) := eqI (e.at 83 _ rfl rfl) rfl
  have e129 : τ.ival 129 = IntKind.u8.wrap (τ.ival 128) := eqI (e.at 84 _ rfl rfl) rfl
  have e130 : τ.ival 130 = IntKind.i64.wrap (τ.tab 64 [τ.ival 60, τ.ival 61, τ.ival 62, τ.ival 63, τ.ival 64, τ.ival 65, τ.ival 66, τ.ival 67, τ.ival 68, τ.ival 129]) := eqI (e.at 85 _ rfl rfl) rfl
  have e131 : τ.ival 131 = IntKind.u8.wrap (τ.tab 65 [τ.ival 60, τ.ival 61, τ.ival 62, τ.ival 63, τ.ival 64, τ.ival 65, τ.ival 66, τ.ival 67, τ.ival 68, τ.ival 129]) := eqI (e.at 86 _ rfl rfl) rfl
  have e132 : τ.ival 132 = IntKind.u8.wrap (τ.tab 66 [τ.ival 60, τ.ival 61, τ.ival 62, τ.ival 63, τ.ival 64, τ.ival 65, τ.ival 66, τ.ival 67, τ.ival 68, τ.ival 129]) := eqI (e.at 87 _ rfl rfl) rfl
  have e133 : τ.ival 133 = IntKind.u8.wrap (τ.tab 67 [τ.ival 60, τ.ival 61, τ.ival 62, τ.ival 63, τ.ival 64, τ.ival 65, τ.ival 66, τ.ival 67, τ.ival 68, τ.ival 129]) := eqI (e.at 88 _ rfl rfl) rfl
  have e134 : τ.ival 134 = IntKind.u8.wrap (τ.tab 68 [τ.ival 60, τ.ival 61, τ.ival 62, τ.ival 63, τ.ival 64, τ.ival 65, τ.ival 66, τ.ival 67, τ.ival 68, τ.ival 129]) := eqI (e.at 89 _ rfl rfl) rfl
  have e135 : τ.ival 135 = IntKind.u8.wrap (τ.tab 69 [τ.ival 60, τ.ival 61, τ.ival 62, τ.ival 63, τ.ival 64, τ.ival 65, τ.ival 66, τ.ival 67, τ.ival 68, τ.ival 129]) := eqI (e.at 90 _ rfl rfl) rfl
  have e136 : τ.ival 136 = IntKind.u8.wrap (τ.tab 70 [τ.ival 60, τ.ival 61, τ.ival 62, τ.ival 63, τ.ival 64, τ.ival 65, τ.ival 66, τ.ival 67, τ.ival 68, τ.ival 129]) := eqI (e.at 91 _ rfl rfl) rfl
  have e137 : τ.ival 137 = IntKind.u8.wrap (τ.tab 71 [τ.ival 60, τ.ival 61, τ.ival 62, τ.ival 63, τ.ival 64, τ.ival 65, τ.ival 66, τ.ival 67, τ.ival 68, τ.ival 129]) := eqI (e.at 92 _ rfl rfl) rfl
  have e138 : τ.ival 138 = IntKind.u8.wrap (τ.tab 72 [τ.ival 60, τ.ival 61, τ.ival 62, τ.ival 63, τ.ival 64, τ.ival 65, τ.ival 66, τ.ival 67, τ.ival 68, τ.ival 129]) := eqI (e.at 93 _ rfl rfl) rfl
  have e139 : τ.bval 139 = (!(τ.tab 73 [τ.ival 60, τ.ival 61, τ.ival 62, τ.ival 63, τ.ival 64, τ.ival 65, τ.ival 66, τ.ival 67, τ.ival 68, τ.ival 129] == 0)) := eqB (e.at 94 _ rfl rfl) rfl
  have e140 : τ.ival 140 = IntKind.i64.wrap (τ.tab 0 [τ.ival 33, τ.ival 34, τ.ival 35, τ.ival 36, τ.ival 37, τ.ival 38, τ.ival 39, τ.ival 40, τ.ival 41]) := eqI (e.at 95 _ rfl rfl) rfl
  have e141 : τ.ival 141 = IntKind.u8.wrap (τ.tab 1 [τ.ival 33, τ.ival 34, τ.ival 35, τ.ival 36, τ.ival 37, τ.ival 38, τ.ival 39, τ.ival 40, τ.ival 41]) := eqI (e.at 96 _ rfl rfl) rfl
  have e142 : τ.ival 142 = IntKind.u8.wrap (τ.tab 2 [τ.ival 33, τ.ival 34, τ.ival 35, τ.ival 36, τ.ival 37, τ.ival 38, τ.ival 39, τ.ival 40, τ.ival 41]) := eqI (e.at 97 _ rfl rfl) rfl
  have e143 : τ.ival 143 = IntKind.u8.wrap (τ.tab 3 [τ.ival 33, τ.ival 34, τ.ival 35, τ.ival 36, τ.ival 37, τ.ival 38, τ.ival 39, τ.ival 40, τ.ival 41]) := eqI (e.at 98 _ rfl rfl) rfl
  have e144 : τ.ival 144 = IntKind.u8.wrap (τ.tab 4 [τ.ival 33, τ.ival 34, τ.ival 35, τ.ival 36, τ.ival 37, τ.ival 38, τ.ival 39, τ.ival 40, τ.ival 41]) := eqI (e.at 99 _ rfl rfl) rfl
  have e145 : τ.ival 145 = IntKind.u8.wrap (τ.tab 5 [τ.ival 33, τ.ival 34, τ.ival 35, τ.ival 36, τ.ival 37, τ.ival 38, τ.ival 39, τ.ival 40, τ.ival 41]) := eqI (e.at 100 _ rfl rfl) rfl
  have e146 : τ.ival 146 = IntKind.u8.wrap (τ.tab 6 [τ.ival 33, τ.ival 34, τ.ival 35, τ.ival 36, τ.ival 37, τ.ival 38, τ.ival 39, τ.ival 40, τ.ival 41]) := eqI (e.at 101 _ rfl rfl) rfl
  have e147 : τ.ival 147 = IntKind.u8.wrap (τ.tab 7 [τ.ival 33, τ.ival 34, τ.ival 35, τ.ival 36, τ.ival 37, τ.ival 38, τ.ival 39, τ.ival 40, τ.ival 41]) := eqI (e.at 102 _ rfl rfl) rfl
  have e148 : τ.ival 148 = IntKind.u8.wrap (τ.tab 8 [τ.ival 33, τ.ival 34, τ.ival 35, τ.ival 36, τ.ival 37, τ.ival 38, τ.ival 39, τ.ival 40, τ.ival 41]) := eqI (e.at 103 _ rfl rfl) rfl
  have e149 : τ.bval 149 = (τ.ival 48 == 11) := eqB (e.at 104 _ rfl rfl) rfl
  have e150 : τ.bval 150 = decide (τ.ival 60 > 0) := eqB (e.at 105 _ rfl rfl) rfl
  have e151 : τ.ival 151 = IntKind.u8.wrap (τ.ival 72 + 1) := eqI (e.at 106 _ rfl rfl) rfl
  have e152 : τ.bval 152 = (τ.ival 151 == 4) := eqB (e.at 107 _ rfl rfl) rfl
  have e153 : τ.ival 153 = IntKind.u8.wrap (τ.tab 128 [τ.ival 60, τ.ival 61, τ.ival 62, τ.ival 63, τ.ival 64, τ.ival 65, τ.ival 66, τ.ival 67, τ.ival 68]) := eqI (e.at 108 _ rfl rfl) rfl
  have e154 : τ.ival 154 = IntKind.i64.wrap (τ.tab 129 [τ.ival 60, τ.ival 61, τ.ival 62, τ.ival 63, τ.ival 64, τ.ival 65, τ.ival 66, τ.ival 67, τ.ival 68]) := eqI (e.at 109 _ rfl rfl) rfl
  have e155 : τ.ival 155 = IntKind.u8.wrap (τ.tab 130 [τ.ival 60, τ.ival 61, τ.ival 62, τ.ival 63, τ.ival 64, τ.ival 65, τ.ival 66, τ.ival 67, τ.ival 68]) := eqI (e.at 110 _ rfl rfl) rfl
  have e156 : τ.ival 156 = IntKind.u8.wrap (τ.tab 131 [τ.ival 60, τ.ival 61, τ.ival 62, τ.ival 63, τ.ival 64, τ.ival 65, τ.ival 66, τ.ival 67, τ.ival 68]) := eqI (e.at 111 _ rfl rfl) rfl
  have e157 : τ.ival 157 = IntKind.u8.wrap (τ.tab 132 [τ.ival 60, τ.ival 61, τ.ival 62, τ.ival 63, τ.ival 64, τ.ival 65, τ.ival 66, τ.ival 67, τ.ival 68]) := eqI (e.at 112 _ rfl rfl) rfl
  have e158 : τ.ival 158 = IntKind.u8.wrap (τ.tab 133 [τ.ival 60, τ.ival 61, τ.ival 62, τ.ival 63, τ.ival 64, τ.ival 65, τ.ival 66, τ.ival 67, τ.ival 68]) := eqI (e.at 113 _ rfl rfl) rfl
  have e159 : τ.ival 159 = IntKind.u8.wrap (τ.tab 134 [τ.ival 60, τ.ival 61, τ.ival 62, τ.ival 63, τ.ival 64, τ.ival 65, τ.ival 66, τ.ival 67, τ.ival 68]) := eqI (e.at 114 _ rfl rfl) rfl
  have e160 : τ.ival 160 = IntKind.u8.wrap (τ.tab 135 [τ.ival 60, τ.ival 61, τ.ival 62, τ.ival 63, τ.ival 64, τ.ival 65, τ.ival 66, τ.ival 67, τ.ival 68]) := eqI (e.at 115 _ rfl rfl) rfl
  have e161 : τ.ival 161 = IntKind.u8.wrap (τ.tab 136 [τ.ival 60, τ.ival 61, τ.ival 62, τ.ival 63, τ.ival 64, τ.ival 65, τ.ival 66, τ.ival 67, τ.ival 68]) := eqI (e.at 116 _ rfl rfl) rfl
  have e162 : τ.ival 162 = IntKind.u8.wrap (τ.tab 137 [τ.ival 60, τ.ival 61, τ.ival 62, τ.ival 63, τ.ival 64, τ.ival 65, τ.ival 66, τ.ival 67, τ.ival 68]) := eqI (e.at 117 _ rfl rfl) rfl
  have e163 : τ.bval 163 = (!(τ.tab 138 [τ.ival 60, τ.ival 61, τ.ival 62, τ.ival 63, τ.ival 64, τ.ival 65, τ.ival 66, τ.ival 67, τ.ival 68] == 0)) := eqB (e.at 118 _ rfl rfl) rfl
  have e164 : τ.bval 164 = (τ.ival 154 == 0) := eqB (e.at 119 _ rfl rfl) rfl
  have e165 : τ.ival 165 = IntKind.u8.wrap (BitVec.ofInt IntKind.u8.bits (τ.ival 21) &&& BitVec.ofInt IntKind.u8.bits (2)).toNat := eqI (e.at 120 _ rfl rfl) rfl
  have e166 : τ.bval 166 = (τ.ival 165 != 0) := eqB (e.at 121 _ rfl rfl) rfl
  have e167 : τ.bval 167 = (bif τ.bval 164 then τ.bval 166 else false) := eqIteB (e.at 122 _ rfl rfl) rfl rfl rfl
  have e168 : τ.ival 168 = (bif τ.bval 152 then τ.ival 154 else τ.ival 60) := eqIteI (e.at 123 _ rfl rfl) rfl rfl rfl
  have e169 : τ.ival 169 = (bif τ.bval 152 then τ.ival 155 else τ.ival 61) := eqIteI (e.at 124 _ rfl rfl) rfl rfl rfl
  have e170 : τ.ival 170 = (bif τ.bval 152 then τ.ival 156 else τ.ival 62) := eqIteI (e.at 125 _ rfl rfl) rfl rfl rfl
  have e171 : τ.ival 171 = (bif τ.bval 152 then τ.ival 157 else τ.ival 63) := eqIteI (e.at 126 _ rfl rfl) rfl rfl rfl
  have e172 : τ.ival 172 = (bif τ.bval 152 then τ.ival 158 else τ.ival 64) := eqIteI (e.at 127 _ rfl rfl) rfl rfl rfl
  have e173 : τ.ival 173 = (bif τ.bval 152 then τ.ival 159 else τ.ival 65) := eqIteI (e.at 128 _ rfl rfl) rfl rfl rfl
  have e174 : τ.ival 174 = (bif τ.bval 152 then τ.ival 160 else τ.ival 66) := eqIteI (e.at 129 _ rfl rfl) rfl rfl rfl
  have e175 : τ.ival 175 = (bif τ.bval 152 then τ.ival 161 else τ.ival 67) := eqIteI (e.at 130 _ rfl rfl) rfl rfl rfl
  have e176 : τ.ival 176 = (bif τ.bval 152 then τ.ival 162 else τ.ival 68) := eqIteI (e.at 131 _ rfl rfl) rfl rfl rfl
  have e177 : τ.ival 177 = (bif τ.bval 152 then 0 else τ.ival 151) := eqIteI (e.at 132 _ rfl rfl) rfl rfl rfl
  have e178 : τ.ival 178 = (bif τ.bval 152 then τ.ival 153 else 0) := eqIteI (e.at 133 _ rfl rfl) rfl rfl rfl
  have e179 : τ.bval 179 = (bif τ.bval 152 then τ.bval 163 else false) := eqIteB (e.at 134 _ rfl rfl) rfl rfl rfl
  have e180 : τ.bval 180 = (bif τ.bval 152 then τ.bval 167 else false) := eqIteB (e.at 135 _ rfl rfl) rfl rfl rfl
  have e181 : τ.ival 181 = (bif τ.bval 150 then τ.ival 168 else τ.ival 60) := eqIteI (e.at 136 _ rfl rfl) rfl rfl rfl
  have e182 : τ.ival 182 = (bif τ.bval 150 then τ.ival 169 else τ.ival 61) := eqIteI (e.at 137 _ rfl rfl) rfl rfl rfl
  have e183 : τ.ival 183 = (bif τ.bval 150 then τ.ival 170 else τ.ival 62) := eqIteI (e.at 138 _ rfl rfl) rfl rfl rfl
  have e184 : τ.ival 184 = (bif τ.bval 150 then τ.ival 171 else τ.ival 63) := eqIteI (e.at 139 _ rfl rfl) rfl rfl rfl
  have e185 : τ.ival 185 = (bif τ.bval 150 then τ.ival 172 else τ.ival 64) := eqIteI (e.at 140 _ rfl rfl) rfl rfl rfl
  have e186 : τ.ival 186 = (bif τ.bval 150 then τ.ival 173 else τ.ival 65) := eqIteI (e.at 141 _ rfl rfl) rfl rfl rfl
  have e187 : τ.ival 187 = (bif τ.bval 150 then τ.ival 174 else τ.ival 66) := eqIteI (e.at 142 _ rfl rfl) rfl rfl rfl
  have e188 : τ.ival 188 = (bif τ.bval 150 then τ.ival 175 else τ.ival 67) := eqIteI (e.at 143 _ rfl rfl) rfl rfl rfl
  have e189 : τ.ival 189 = (bif τ.bval 150 then τ.ival 176 else τ.ival 68) := eqIteI (e.at 144 _ rfl rfl) rfl rfl rfl
  have e190 : τ.ival 190 = (bif τ.bval 150 then τ.ival 177 else τ.ival 72) := eqIteI (e.at 145 _ rfl rfl) rfl rfl rfl
  have e191 : τ.ival 191 = (bif τ.bval 150 then τ.ival 178 else 0) := eqIteI (e.at 146 _ rfl rfl) rfl rfl rfl
  have e192 : τ.bval 192 = (bif τ.bval 150 then τ.bval 179 else false) := eqIteB (e.at 147 _ rfl rfl) rfl rfl rfl
  have e193 : τ.bval 193 = (bif τ.bval 150 then τ.bval 180 else false) := eqIteB (e.at 148 _ rfl rfl) rfl rfl rfl
  have e194 : τ.ival 194 = (bif τ.bval 149 then τ.ival 60 else τ.ival 181) := eqIteI (e.at 149 _ rfl rfl) rfl rfl rfl
  have e195 : τ.ival 195 = (bif τ.bval 149 then τ.ival 61 else τ.ival 182) := eqIteI (e.at 150 _ rfl rfl) rfl rfl rfl
  have e196 : τ.ival 196 = (bif τ.bval 149 then τ.ival 62 else τ.ival 183) := eqIteI (e.at 151 _ rfl rfl) rfl rfl rfl
  have e197 : τ.ival 197 = (bif τ.bval 149 then τ.ival 63 else τ.ival 184) := eqIteI (e.at 152 _ rfl rfl) rfl rfl rfl
  have e198 : τ.ival 198 = (bif τ.bval 149 then τ.ival 64 else τ.ival 185) := eqIteI (e.at 153 _ rfl rfl) rfl rfl rfl
  have e199 : τ.ival 199 = (bif τ.bval 149 then τ.ival 65 else τ.ival 186) := eqIteI (e.at 154 _ rfl rfl) rfl rfl rfl
  have e200 : τ.ival 200 = (bif τ.bval 149 then τ.ival 66 else τ.ival 187) := eqIteI (e.at 155 _ rfl rfl) rfl rfl rfl
  have e201 : τ.ival 201 = (bif τ.bval 149 then τ.ival 67 else τ.ival 188) := eqIteI (e.at 156 _ rfl rfl) rfl rfl rfl
  have e202 : τ.ival 202 = (bif τ.bval 149 then τ.ival 68 else τ.ival 189) := eqIteI (e.at 157 _ rfl rfl) rfl rfl rfl
  have e203 : τ.ival 203 = (bif τ.bval 149 then τ.ival 129 else τ.ival 21) := eqIteI (e.at 158 _ rfl rfl) rfl rfl rfl
  have e204 : τ.ival 204 = (bif τ.bval 149 then τ.ival 72 else τ.ival 190) := eqIteI (e.at 159 _ rfl rfl) rfl rfl rfl
  have e205 : τ.ival 205 = (bif τ.bval 149 then τ.ival 51 else τ.ival 2) := eqIteI (e.at 160 _ rfl rfl) rfl rfl rfl
  have e206 : τ.ival 206 = (bif τ.bval 149 then τ.ival 52 else τ.ival 3) := eqIteI (e.at 161 _ rfl rfl) rfl rfl rfl
  have e207 : τ.ival 207 = (bif τ.bval 149 then τ.ival 53 else τ.ival 4) := eqIteI (e.at 162 _ rfl rfl) rfl rfl rfl
  have e208 : τ.ival 208 = (bif τ.bval 149 then τ.ival 54 else τ.ival 5) := eqIteI (e.at 163 _ rfl rfl) rfl rfl rfl
  have e209 : τ.ival 209 = (bif τ.bval 149 then τ.ival 55 else τ.ival 6) := eqIteI (e.at 164 _ rfl rfl) rfl rfl rfl
  have e210 : τ.ival 210 = (bif τ.bval 149 then τ.ival 56 else τ.ival 7) := eqIteI (e.at 165 _ rfl rfl) rfl rfl rfl
  have e211 : τ.ival 211 = (bif τ.bval 149 then τ.ival 57 else τ.ival 8) := eqIteI (e.at 166 _ rfl rfl) rfl rfl rfl
  have e212 : τ.ival 212 = (bif τ.bval 149 then τ.ival 58 else τ.ival 9) := eqIteI (e.at 167 _ rfl rfl) rfl rfl rfl
  have e213 : τ.ival 213 = (bif τ.bval 149 then τ.ival 59 else τ.ival 10) := eqIteI (e.at 168 _ rfl rfl) rfl rfl rfl
  have e214 : τ.ival 214 = (bif τ.bval 149 then τ.ival 88 else τ.ival 23) := eqIteI (e.at 169 _ rfl rfl) rfl rfl rfl
  have e215 : τ.ival 215 = (bif τ.bval 149 then τ.ival 89 else τ.ival 24) := eqIteI (e.at 170 _ rfl rfl) rfl rfl rfl
  have e216 : τ.ival 216 = (bif τ.bval 149 then τ.ival 90 else τ.ival 25) := eqIteI (e.at 171 _ rfl rfl) rfl rfl rfl
  have e217 : τ.ival 217 = (bif τ.bval 149 then τ.ival 91 else τ.ival 26) := eqIteI (e.at 172 _ rfl rfl) rfl rfl rfl
  have e218 : τ.ival 218 = (bif τ.bval 149 then τ.ival 92 else τ.ival 27) := eqIteI (e.at 173 _ rfl rfl) rfl rfl rfl
  have e219 : τ.ival 219 = (bif τ.bval 149 then τ.ival 93 else τ.ival 28) := eqIteI (e.at 174 _ rfl rfl) rfl rfl rfl
  have e220 : τ.ival 220 = (bif τ.bval 149 then τ.ival 94 else τ.ival 29) := eqIteI (e.at 175 _ rfl rfl) rfl rfl rfl
  have e221 : τ.ival 221 = (bif τ.bval 149 then τ.ival 95 else τ.ival 30) := eqIteI (e.at 176 _ rfl rfl) rfl rfl rfl
  have e222 : τ.ival 222 = (bif τ.bval 149 then τ.ival 96 else τ.ival 31) := eqIteI (e.at 177 _ rfl rfl) rfl rfl rfl
  have e223 : τ.ival 223 = (bif τ.bval 149 then τ.ival 100 else τ.ival 32) := eqIteI (e.at 178 _ rfl rfl) rfl rfl rfl
  have e224 : τ.ival 224 = (bif τ.bval 127 then τ.ival 130 else τ.ival 194) := eqIteI (e.at 179 _ rfl rfl) rfl rfl rfl
  have e225 : τ.ival 225 = (bif τ.bval 127 then τ.ival 131 else τ.ival 195) := eqIteI (e.at 180 _ rfl rfl) rfl rfl rfl
  have e226 : τ.ival 226 = (bif τ.bval 127 then τ.ival 132 else τ.ival 196) := eqIteI (e.at 181 _ rfl rfl) rfl rfl rfl
  have e227 : τ.ival 227 = (bif τ.bval 127 then τ.ival 133 else τ.ival 197) := eqIteI (e.at 182 _ rfl rfl) rfl rfl rfl
  have e228 : τ.ival 228 = (bif τ.bval 127 then τ.ival 134 else τ.ival 198) := eqIteI (e.at 183 _ rfl rfl) rfl rfl rfl
  have e229 : τ.ival 229 = (bif τ.bval 127 then τ.ival 135 else τ.ival 199) := eqIteI (e.at 184 _ rfl rfl) rfl rfl rfl
  have e230 : τ.ival 230 = (bif τ.bval 127 then τ.ival 136 else τ.ival 200) := eqIteI (e.at 185 _ rfl rfl) rfl rfl rfl
  have e231 : τ.ival 231 = (bif τ.bval 127 then τ.ival 137 else τ.ival 201) := eqIteI (e.at 186 _ rfl rfl) rfl rfl rfl
  have e232 : τ.ival 232 = (bif τ.bval 127 then τ.ival 138 else τ.ival 202) := eqIteI (e.at 187 _ rfl rfl) rfl rfl rfl
  have e233 : τ.ival 233 = (bif τ.bval 127 then τ.ival 21 else τ.ival 203) := eqIteI (e.at 188 _ rfl rfl) rfl rfl rfl
  have e234 : τ.ival 234 = (bif τ.bval 127 then τ.ival 72 else τ.ival 204) := eqIteI (e.at 189 _ rfl rfl) rfl rfl rfl
  have e235 : τ.ival 235 = (bif τ.bval 127 then τ.ival 2 else τ.ival 205) := eqIteI (e.at 190 _ rfl rfl) rfl rfl rfl
  have e236 : τ.ival 236 = (bif τ.bval 127 then τ.ival 3 else τ.ival 206) := eqIteI (e.at 191 _ rfl rfl) rfl rfl rfl
  have e237 : τ.ival 237 = (bif τ.bval 127 then τ.ival 4 else τ.ival 207) := eqIteI (e.at 192 _ rfl rfl) rfl rfl rfl
  have e238 : τ.ival 238 = (bif τ.bval 127 then τ.ival 5 else τ.ival 208) := eqIteI (e.at 193 _ rfl rfl) rfl rfl rfl
  have e239 : τ.ival 239 = (bif τ.bval 127 then τ.ival 6 else τ.ival 209) := eqIteI (e.at 194 _ rfl rfl) rfl rfl rfl
  have e240 : τ.ival 240 = (bif τ.bval 127 then τ.ival 7 else τ.ival 210) := eqIteI (e.at 195 _ rfl rfl) rfl rfl rfl
  have e241 : τ.ival 241 = (bif τ.bval 127 then τ.ival 8 else τ.ival 211) := eqIteI (e.at 196 _ rfl rfl) rfl rfl rfl
  have e242 : τ.ival 242 = (bif τ.bval 127 then τ.ival 9 else τ.ival 212) := eqIteI (e.at 197 _ rfl rfl) rfl rfl rfl
  have e243 : τ.ival 243 = (bif τ.bval 127 then τ.ival 10 else τ.ival 213) := eqIteI (e.at 198 _ rfl rfl) rfl rfl rfl
  have e244 : τ.ival 244 = (bif τ.bval 127 then τ.ival 23 else τ.ival 214) := eqIteI (e.at 199 _ rfl rfl) rfl rfl rfl
  have e245 : τ.ival 245 = (bif τ.bval 127 then τ.ival 24 else τ.ival 215) := eqIteI (e.at 200 _ rfl rfl) rfl rfl rfl
  have e246 : τ.ival 246 = (bif τ.bval 127 then τ.ival 25 else τ.ival 216) := eqIteI (e.at 201 _ rfl rfl) rfl rfl rfl
  have e247 : τ.ival 247 = (bif τ.bval 127 then τ.ival 26 else τ.ival 217) := eqIteI (e.at 202 _ rfl rfl) rfl rfl rfl
  have e248 : τ.ival 248 = (bif τ.bval 127 then τ.ival 27 else τ.ival 218) := eqIteI (e.at 203 _ rfl rfl) rfl rfl rfl
  have e249 : τ.ival 249 = (bif τ.bval 127 then τ.ival 28 else τ.ival 219) := eqIteI (e.at 204 _ rfl rfl) rfl rfl rfl
  have e250 : τ.ival 250 = (bif τ.bval 127 then τ.ival 29 else τ.ival 220) := eqIteI (e.at 205 _ rfl rfl) rfl rfl rfl
  have e251 : τ.ival 251 = (bif τ.bval 127 then τ.ival 30 else τ.ival 221) := eqIteI (e.at 206 _ rfl rfl) rfl rfl rfl
  have e252 : τ.ival 252 = (bif τ.bval 127 then τ.ival 31 else τ.ival 222) := eqIteI (e.at 207 _ rfl rfl) rfl rfl rfl
  have e253 : τ.ival 253 = (bif τ.bval 127 then τ.ival 32 else τ.ival 223) := eqIteI (e.at 208 _ rfl rfl) rfl rfl rfl
  have e254 : τ.bval 254 = (bif τ.bval 126 then τ.bval 126 else τ.bval 127) := eqIteB (e.at 209 _ rfl rfl) rfl rfl rfl
  have e255 : τ.ival 255 = (bif τ.bval 126 then τ.ival 130 else τ.ival 224) := eqIteI (e.at 210 _ rfl rfl) rfl rfl rfl
  have e256 : τ.ival 256 = (bif τ.bval 126 then τ.ival 131 else τ.ival 225) := eqIteI (e.at 211 _ rfl rfl) rfl rfl rfl
  have e257 : τ.ival 257 = (bif τ.bval 126 then τ.ival 132 else τ.ival 226) := eqIteI (e.at 212 _ rfl rfl) rfl rfl rfl
  have e258 : τ.ival 258 = (bif τ.bval 126 then τ.ival 133 else τ.ival 227) := eqIteI (e.at 213 _ rfl rfl) rfl rfl rfl
  have e259 : τ.ival 259 = (bif τ.bval 126 then τ.ival 134 else τ.ival 228) := eqIteI (e.at 214 _ rfl rfl) rfl rfl rfl
  have e260 : τ.ival 260 = (bif τ.bval 126 then τ.ival 135 else τ.ival 229) := eqIteI (e.at 215 _ rfl rfl) rfl rfl rfl
  have e261 : τ.ival 261 = (bif τ.bval 126 then τ.ival 136 else τ.ival 230) := eqIteI (e.at 216 _ rfl rfl) rfl rfl rfl
  have e262 : τ.ival 262 = (bif τ.bval 126 then τ.ival 137 else τ.ival 231) := eqIteI (e.at 217 _ rfl rfl) rfl rfl rfl
  have e263 : τ.ival 263 = (bif τ.bval 126 then τ.ival 138 else τ.ival 232) := eqIteI (e.at 218 _ rfl rfl) rfl rfl rfl
  have e264 : τ.ival 264 = (bif τ.bval 126 then τ.ival 21 else τ.ival 233) := eqIteI (e.at 219 _ rfl rfl) rfl rfl rfl
  have e265 : τ.ival 265 = (bif τ.bval 126 then τ.ival 72 else τ.ival 234) := eqIteI (e.at 220 _ rfl rfl) rfl rfl rfl
  have e266 : τ.ival 266 = (bif τ.bval 126 then τ.ival 2 else τ.ival 235) := eqIteI (e.at 221 _ rfl rfl) rfl rfl rfl
  have e267 : τ.ival 267 = (bif τ.bval 126 then τ.ival 3 else τ.ival 236) := eqIteI (e.at 222 _ rfl rfl) rfl rfl rfl
  have e268 : τ.ival 268 = (bif τ.bval 126 then τ.ival 4 else τ.ival 237) := eqIteI (e.at 223 _ rfl rfl) rfl rfl rfl
  have e269 : τ.ival 269 = (bif τ.bval 126 then τ.ival 5 else τ.ival 238) := eqIteI (e.at 224 _ rfl rfl) rfl rfl rfl
  have e270 : τ.ival 270 = (bif τ.bval 126 then τ.ival 6 else τ.ival 239) := eqIteI (e.at 225 _ rfl rfl) rfl rfl rfl
  have e271 : τ.ival 271 = (bif τ.bval 126 then τ.ival 7 else τ.ival 240) := eqIteI (e.at 226 _ rfl rfl) rfl rfl rfl
  have e272 : τ.ival 272 = (bif τ.bval 126 then τ.ival 8 else τ.ival 241) := eqIteI (e.at 227 _ rfl rfl) rfl rfl rfl
  have e273 : τ.ival 273 = (bif τ.bval 126 then τ.ival 9 else τ.ival 242) := eqIteI (e.at 228 _ rfl rfl) rfl rfl rfl
  have e274 : τ.ival 274 = (bif τ.bval 126 then τ.ival 10 else τ.ival 243) := eqIteI (e.at 229 _ rfl rfl) rfl rfl rfl
  have e275 : τ.ival 275 = (bif τ.bval 126 then τ.ival 23 else τ.ival 244) := eqIteI (e.at 230 _ rfl rfl) rfl rfl rfl
  have e276 : τ.ival 276 = (bif τ.bval 126 then τ.ival 24 else τ.ival 245) := eqIteI (e.at 231 _ rfl rfl) rfl rfl rfl
  have e277 : τ.ival 277 = (bif τ.bval 126 then τ.ival 25 else τ.ival 246) := eqIteI (e.at 232 _ rfl rfl) rfl rfl rfl
  have e278 : τ.ival 278 = (bif τ.bval 126 then τ.ival 26 else τ.ival 247) := eqIteI (e.at 233 _ rfl rfl) rfl rfl rfl
  have e279 : τ.ival 279 = (bif τ.bval 126 then τ.ival 27 else τ.ival 248) := eqIteI (e.at 234 _ rfl rfl) rfl rfl rfl
  have e280 : τ.ival 280 = (bif τ.bval 126 then τ.ival 28 else τ.ival 249) := eqIteI (e.at 235 _ rfl rfl) rfl rfl rfl
  have e281 : τ.ival 281 = (bif τ.bval 126 then τ.ival 29 else τ.ival 250) := eqIteI (e.at 236 _ rfl rfl) rfl rfl rfl
  have e282 : τ.ival 282 = (bif τ.bval 126 then τ.ival 30 else τ.ival 251) := eqIteI (e.at 237 _ rfl rfl) rfl rfl rfl
  have e283 : τ.ival 283 = (bif τ.bval 126 then τ.ival 31 else τ.ival 252) := eqIteI (e.at 238 _ rfl rfl) rfl rfl rfl
  have e284 : τ.ival 284 = (bif τ.bval 126 then τ.ival 32 else τ.ival 253) := eqIteI (e.at 239 _ rfl rfl) rfl rfl rfl
  have e285 : τ.bval 285 = ((τ.ival 60 == τ.ival 11) && ((τ.ival 61 == τ.ival 12) && ((τ.ival 62 == τ.ival 13) && ((τ.ival 63 == τ.ival 14) && ((τ.ival 64 == τ.ival 15) && ((τ.ival 65 == τ.ival 16) && ((τ.ival 66 == τ.ival 17) && ((τ.ival 67 == τ.ival 18) && ((τ.ival 68 == τ.ival 19) && true))))))))) := eqB (e.at 240 _ rfl rfl) rfl
  have e286 : τ.bval 286 = (!τ.bval 285) := eqB (e.at 241 _ rfl rfl) rfl
  have e287 : τ.bval 287 = (τ.ival 72 != τ.ival 22) := eqB (e.at 242 _ rfl rfl) rfl
  have e288 : τ.bval 288 = ((τ.ival 51 == τ.ival 266) && ((τ.ival 52 == τ.ival 267) && ((τ.ival 53 == τ.ival 268) && ((τ.ival 54 == τ.ival 269) && ((τ.ival 55 == τ.ival 270) && ((τ.ival 56 == τ.ival 271) && ((τ.ival 57 == τ.ival 272) && ((τ.ival 58 == τ.ival 273) && ((τ.ival 59 == τ.ival 274) && true))))))))) := eqB (e.at 243 _ rfl rfl) rfl
  have e289 : τ.bval 289 = (!τ.bval 288) := eqB (e.at 244 _ rfl rfl) rfl
  have e290 : τ.ival 290 = IntKind.i64.wrap (τ.ival 0 + 1) := eqI (e.at 245 _ rfl rfl) rfl
  obtain ⟨jr, js⟩ := hj
  have jt := js.1
  have q51 : τ.ival 51 = τ.ival 2 := by
    rw [e51, ht]
    show IntKind.i64.wrap ((mendF [τ.ival 2, τ.ival 3, τ.ival 4, τ.ival 5, τ.ival 6, τ.ival 7, τ.ival 8, τ.ival 9, τ.ival 10]).getD 0 0) = _
    rw [right_mend jr]; exact (show IntKind.i64.wrap (τ.ival 2) = τ.ival 2 from hin 2 .i64 (by decide) rfl)
  have q52 : τ.ival 52 = τ.ival 3 := by
    rw [e52, ht]
    show IntKind.u8.wrap ((mendF [τ.ival 2, τ.ival 3, τ.ival 4, τ.ival 5, τ.ival 6, τ.ival 7, τ.ival 8, τ.ival 9, τ.ival 10]).getD 1 0) = _
    rw [right_mend jr]; exact (show IntKind.u8.wrap (τ.ival 3) = τ.ival 3 from hin 3 .u8 (by decide) rfl)
  have q53 : τ.ival 53 = τ.ival 4 := by
    rw [e53, ht]
    show IntKind.u8.wrap ((mendF [τ.ival 2, τ.ival 3, τ.ival 4, τ.ival 5, τ.ival 6, τ.ival 7, τ.ival 8, τ.ival 9, τ.ival 10]).getD 2 0) = _
    rw [right_mend jr]; exact (show IntKind.u8.wrap (τ.ival 4) = τ.ival 4 from hin 4 .u8 (by decide) rfl)
  have q54 : τ.ival 54 = τ.ival 5 := by
    rw [e54, ht]
    show IntKind.u8.wrap ((mendF [τ.ival 2, τ.ival 3, τ.ival 4, τ.ival 5, τ.ival 6, τ.ival 7, τ.ival 8, τ.ival 9, τ.ival 10]).getD 3 0) = _
    rw [right_mend jr]; exact (show IntKind.u8.wrap (τ.ival 5) = τ.ival 5 from hin 5 .u8 (by decide) rfl)
  have q55 : τ.ival 55 = τ.ival 6 := by
    rw [e55, ht]
    show IntKind.u8.wrap ((mendF [τ.ival 2, τ.ival 3, τ.ival 4, τ.ival 5, τ.ival 6, τ.ival 7, τ.ival 8, τ.ival 9, τ.ival 10]).getD 4 0) = _
    rw [right_mend jr]; exact (show IntKind.u8.wrap (τ.ival 6) = τ.ival 6 from hin 6 .u8 (by decide) rfl)
  have q56 : τ.ival 56 = τ.ival 7 := by
    rw [e56, ht]
    show IntKind.u8.wrap ((mendF [τ.ival 2, τ.ival 3, τ.ival 4, τ.ival 5, τ.ival 6, τ.ival 7, τ.ival 8, τ.ival 9, τ.ival 10]).getD 5 0) = _
    rw [right_mend jr]; exact (show IntKind.u8.wrap (τ.ival 7) = τ.ival 7 from hin 7 .u8 (by decide) rfl)
  have q57 : τ.ival 57 = τ.ival 8 := by
    rw [e57, ht]
    show IntKind.u8.wrap ((mendF [τ.ival 2, τ.ival 3, τ.ival 4, τ.ival 5, τ.ival 6, τ.ival 7, τ.ival 8, τ.ival 9, τ.ival 10]).getD 6 0) = _
    rw [right_mend jr]; exact (show IntKind.u8.wrap (τ.ival 8) = τ.ival 8 from hin 8 .u8 (by decide) rfl)
  have q58 : τ.ival 58 = τ.ival 9 := by
    rw [e58, ht]
    show IntKind.u8.wrap ((mendF [τ.ival 2, τ.ival 3, τ.ival 4, τ.ival 5, τ.ival 6, τ.ival 7, τ.ival 8, τ.ival 9, τ.ival 10]).getD 7 0) = _
    rw [right_mend jr]; exact (show IntKind.u8.wrap (τ.ival 9) = τ.ival 9 from hin 9 .u8 (by decide) rfl)
  have q59 : τ.ival 59 = τ.ival 10 := by
    rw [e59, ht]
    show IntKind.u8.wrap ((mendF [τ.ival 2, τ.ival 3, τ.ival 4, τ.ival 5, τ.ival 6, τ.ival 7, τ.ival 8, τ.ival 9, τ.ival 10]).getD 8 0) = _
    rw [right_mend jr]; exact (show IntKind.u8.wrap (τ.ival 10) = τ.ival 10 from hin 10 .u8 (by decide) rfl)
  have q60 : τ.ival 60 = τ.ival 11 := by
    rw [e60, ht]
    show IntKind.i64.wrap ((mendF [τ.ival 11, τ.ival 12, τ.ival 13, τ.ival 14, τ.ival 15, τ.ival 16, τ.ival 17, τ.ival 18, τ.ival 19]).getD 0 0) = _
    rw [right_mend jt]; exact (show IntKind.i64.wrap (τ.ival 11) = τ.ival 11 from hin 11 .i64 (by decide) rfl)
  have q61 : τ.ival 61 = τ.ival 12 := by
    rw [e61, ht]
    show IntKind.u8.wrap ((mendF [τ.ival 11, τ.ival 12, τ.ival 13, τ.ival 14, τ.ival 15, τ.ival 16, τ.ival 17, τ.ival 18, τ.ival 19]).getD 1 0) = _
    rw [right_mend jt]; exact (show IntKind.u8.wrap (τ.ival 12) = τ.ival 12 from hin 12 .u8 (by decide) rfl)
  have q62 : τ.ival 62 = τ.ival 13 := by
    rw [e62, ht]
    show IntKind.u8.wrap ((mendF [τ.ival 11, τ.ival 12, τ.ival 13, τ.ival 14, τ.ival 15, τ.ival 16, τ.ival 17, τ.ival 18, τ.ival 19]).getD 2 0) = _
    rw [right_mend jt]; exact (show IntKind.u8.wrap (τ.ival 13) = τ.ival 13 from hin 13 .u8 (by decide) rfl)
  have q63 : τ.ival 63 = τ.ival 14 := by
    rw [e63, ht]
    show IntKind.u8.wrap ((mendF [τ.ival 11, τ.ival 12, τ.ival 13, τ.ival 14, τ.ival 15, τ.ival 16, τ.ival 17, τ.ival 18, τ.ival 19]).getD 3 0) = _
    rw [right_mend jt]; exact (show IntKind.u8.wrap (τ.ival 14) = τ.ival 14 from hin 14 .u8 (by decide) rfl)
  have q64 : τ.ival 64 = τ.ival 15 := by
    rw [e64, ht]
    show IntKind.u8.wrap ((mendF [τ.ival 11, τ.ival 12, τ.ival 13, τ.ival 14, τ.ival 15, τ.ival 16, τ.ival 17, τ.ival 18, τ.ival 19]).getD 4 0) = _
    rw [right_mend jt]; exact (show IntKind.u8.wrap (τ.ival 15) = τ.ival 15 from hin 15 .u8 (by decide) rfl)
  have q65 : τ.ival 65 = τ.ival 16 := by
    rw [e65, ht]
    show IntKind.u8.wrap ((mendF [τ.ival 11, τ.ival 12, τ.ival 13, τ.ival 14, τ.ival 15, τ.ival 16, τ.ival 17, τ.ival 18, τ.ival 19]).getD 5 0) = _
    rw [right_mend jt]; exact (show IntKind.u8.wrap (τ.ival 16) = τ.ival 16 from hin 16 .u8 (by decide) rfl)
  have q66 : τ.ival 66 = τ.ival 17 := by
    rw [e66, ht]
    show IntKind.u8.wrap ((mendF [τ.ival 11, τ.ival 12, τ.ival 13, τ.ival 14, τ.ival 15, τ.ival 16, τ.ival 17, τ.ival 18, τ.ival 19]).getD 6 0) = _
    rw [right_mend jt]; exact (show IntKind.u8.wrap (τ.ival 17) = τ.ival 17 from hin 17 .u8 (by decide) rfl)
  have q67 : τ.ival 67 = τ.ival 18 := by
    rw [e67, ht]
    show IntKind.u8.wrap ((mendF [τ.ival 11, τ.ival 12, τ.ival 13, τ.ival 14, τ.ival 15, τ.ival 16, τ.ival 17, τ.ival 18, τ.ival 19]).getD 7 0) = _
    rw [right_mend jt]; exact (show IntKind.u8.wrap (τ.ival 18) = τ.ival 18 from hin 18 .u8 (by decide) rfl)
  have q68 : τ.ival 68 = τ.ival 19 := by
    rw [e68, ht]
    show IntKind.u8.wrap ((mendF [τ.ival 11, τ.ival 12, τ.ival 13, τ.ival 14, τ.ival 15, τ.ival 16, τ.ival 17, τ.ival 18, τ.ival 19]).getD 8 0) = _
    rw [right_mend jt]; exact (show IntKind.u8.wrap (τ.ival 19) = τ.ival 19 from hin 19 .u8 (by decide) rfl)
  have q72 : τ.ival 72 = τ.ival 22 := by
    obtain ⟨_, c0, c4, cz⟩ := js
    rw [e72, e71, e70, e69, q60]
    rw [show decide (τ.ival 22 ≥ 4) = false by simp only [ge_iff_le, decide_eq_false_iff_not]; omega]
    by_cases z : τ.ival 11 = 0
    · rw [z, cz z]; rfl
    · rw [show (τ.ival 11 == 0) = false by simpa using z]; rfl
  have q205 : τ.ival 205 = τ.ival 2 := by rw [e205, q51]; cases τ.bval 149 <;> rfl
  have q206 : τ.ival 206 = τ.ival 3 := by rw [e206, q52]; cases τ.bval 149 <;> rfl
  have q207 : τ.ival 207 = τ.ival 4 := by rw [e207, q53]; cases τ.bval 149 <;> rfl
  have q208 : τ.ival 208 = τ.ival 5 := by rw [e208, q54]; cases τ.bval 149 <;> rfl
  have q209 : τ.ival 209 = τ.ival 6 := by rw [e209, q55]; cases τ.bval 149 <;> rfl
  have q210 : τ.ival 210 = τ.ival 7 := by rw [e210, q56]; cases τ.bval 149 <;> rfl
  have q211 : τ.ival 211 = τ.ival 8 := by rw [e211, q57]; cases τ.bval 149 <;> rfl
  have q212 : τ.ival 212 = τ.ival 9 := by rw [e212, q58]; cases τ.bval 149 <;> rfl
  have q213 : τ.ival 213 = τ.ival 10 := by rw [e213, q59]; cases τ.bval 149 <;> rfl
  have q235 : τ.ival 235 = τ.ival 2 := by rw [e235, q205]; cases τ.bval 127 <;> rfl
  have q236 : τ.ival 236 = τ.ival 3 := by rw [e236, q206]; cases τ.bval 127 <;> rfl
  have q237 : τ.ival 237 = τ.ival 4 := by rw [e237, q207]; cases τ.bval 127 <;> rfl
  have q238 : τ.ival 238 = τ.ival 5 := by rw [e238, q208]; cases τ.bval 127 <;> rfl
  have q239 : τ.ival 239 = τ.ival 6 := by rw [e239, q209]; cases τ.bval 127 <;> rfl
  have q240 : τ.ival 240 = τ.ival 7 := by rw [e240, q210]; cases τ.bval 127 <;> rfl
  have q241 : τ.ival 241 = τ.ival 8 := by rw [e241, q211]; cases τ.bval 127 <;> rfl
  have q242 : τ.ival 242 = τ.ival 9 := by rw [e242, q212]; cases τ.bval 127 <;> rfl
  have q243 : τ.ival 243 = τ.ival 10 := by rw [e243, q213]; cases τ.bval 127 <;> rfl
  have q266 : τ.ival 266 = τ.ival 2 := by rw [e266, q235]; cases τ.bval 126 <;> rfl
  have q267 : τ.ival 267 = τ.ival 3 := by rw [e267, q236]; cases τ.bval 126 <;> rfl
  have q268 : τ.ival 268 = τ.ival 4 := by rw [e268, q237]; cases τ.bval 126 <;> rfl
  have q269 : τ.ival 269 = τ.ival 5 := by rw [e269, q238]; cases τ.bval 126 <;> rfl
  have q270 : τ.ival 270 = τ.ival 6 := by rw [e270, q239]; cases τ.bval 126 <;> rfl
  have q271 : τ.ival 271 = τ.ival 7 := by rw [e271, q240]; cases τ.bval 126 <;> rfl
  have q272 : τ.ival 272 = τ.ival 8 := by rw [e272, q241]; cases τ.bval 126 <;> rfl
  have q273 : τ.ival 273 = τ.ival 9 := by rw [e273, q242]; cases τ.bval 126 <;> rfl
  have q274 : τ.ival 274 = τ.ival 10 := by rw [e274, q243]; cases τ.bval 126 <;> rfl
  have c285 : τ.bval 285 = true := by rw [e285, q60, q61, q62, q63, q64, q65, q66, q67, q68]; simp
  have t286 : τ.bval 286 = false := by rw [e286, c285]; rfl
  have c288 : τ.bval 288 = true := by rw [e288, q51, q266, q52, q267, q53, q268, q54, q269, q55, q270, q56, q271, q57, q272, q58, q273, q59, q274]; simp
  have t289 : τ.bval 289 = false := by rw [e289, c288]; rfl
  have t287 : τ.bval 287 = false := by rw [e287, q72]; simp
  have t47 : τ.bval 47 = true := by rw [e47]; simpa using h0
  have p109 : τ.ival 109 = τ.ival 121 := by rw [e109, e121, ht]; rfl
  have t122 : τ.bval 122 = false := by rw [e122, p109]; simp
  have t125 : τ.bval 125 = false := by rw [e125, e123, e124, p109]; simp
  have t108 : τ.bval 108 = false := by
    have p104 : τ.ival 104 = IntKind.i32.wrap (statF (clamp (τ.ival 2)) (clamp (τ.ival 11)) (if τ.bval 20 then 1 else 0)) := by rw [e104, ht]; rfl
    have p105 : τ.ival 105 = IntKind.i32.wrap (statF (clamp (τ.ival 2)) (clamp (τ.ival 23)) (if τ.bval 20 then 1 else 0)) := by rw [e105, ht]; rfl
    have p : τ.ival 106 = τ.ival 107 := by rw [e106, e107, p104, p105, statF_eq, statF_eq]; exact and5 _ _ _ _
    rw [e108, p]; simp
  have r73 : Rt (τ.ival 73) (τ.ival 74) (τ.ival 75) (τ.ival 76) (τ.ival 77) (τ.ival 78) (τ.ival 79) (τ.ival 80) (τ.ival 81) := by rw [e73, e74, e75, e76, e77, e78, e79, e80, e81, ht]; exact (st_push _ (Int.le_refl 0) (by decide)).1
  have s60_72 : St (τ.ival 60) (τ.ival 61) (τ.ival 62) (τ.ival 63) (τ.ival 64) (τ.ival 65) (τ.ival 66) (τ.ival 67) (τ.ival 68) (τ.ival 72) := by rw [q60, q61, q62, q63, q64, q65, q66, q67, q68, q72]; exact js
  have r111 : Rt (τ.ival 111) (τ.ival 112) (τ.ival 113) (τ.ival 114) (τ.ival 115) (τ.ival 116) (τ.ival 117) (τ.ival 118) (τ.ival 119) := by rw [e111, e112, e113, e114, e115, e116, e117, e118, e119, ht]; exact rt_pop _
  have r51 : Rt (τ.ival 51) (τ.ival 52) (τ.ival 53) (τ.ival 54) (τ.ival 55) (τ.ival 56) (τ.ival 57) (τ.ival 58) (τ.ival 59) := by rw [e51, e52, e53, e54, e55, e56, e57, e58, e59, ht]; exact rt_mend _
  have s130_72 : St (τ.ival 130) (τ.ival 131) (τ.ival 132) (τ.ival 133) (τ.ival 134) (τ.ival 135) (τ.ival 136) (τ.ival 137) (τ.ival 138) (τ.ival 72) := by rw [e130, e131, e132, e133, e134, e135, e136, e137, e138, ht, q72]; exact st_push _ js.2.1 js.2.2.1
  have r154 : Rt (τ.ival 154) (τ.ival 155) (τ.ival 156) (τ.ival 157) (τ.ival 158) (τ.ival 159) (τ.ival 160) (τ.ival 161) (τ.ival 162) := by rw [e154, e155, e156, e157, e158, e159, e160, e161, e162, ht]; exact rt_pop _
  have s181_190 : St (τ.ival 181) (τ.ival 182) (τ.ival 183) (τ.ival 184) (τ.ival 185) (τ.ival 186) (τ.ival 187) (τ.ival 188) (τ.ival 189) (τ.ival 190) := by
    rw [e181, e182, e183, e184, e185, e186, e187, e188, e189, e190]
    refine st_bif (fun x => ?_) (fun _ => s60_72)
    rw [e168, e169, e170, e171, e172, e173, e174, e175, e176, e177]
    refine st_bif (fun _ => ⟨r154, by omega, by omega, fun _ => rfl⟩) (fun y => ?_)
    obtain ⟨z0, z1, z2, z3⟩ := s60_72
    have m1 : τ.ival 151 = τ.ival 72 + 1 := by rw [e151]; exact u8w (by omega) (by omega)
    rw [e150] at x
    rw [e152, m1] at y
    simp only [gt_iff_lt, decide_eq_true_eq] at x
    have y : ¬ (τ.ival 72 + 1 = 4) := by simpa using y
    exact ⟨z0, by omega, by omega, fun h => by omega⟩
  have s194_204 : St (τ.ival 194) (τ.ival 195) (τ.ival 196) (τ.ival 197) (τ.ival 198) (τ.ival 199) (τ.ival 200) (τ.ival 201) (τ.ival 202) (τ.ival 204) := by rw [e194, e195, e196, e197, e198, e199, e200, e201, e202, e204]; exact st_bif (fun _ => s60_72) (fun _ => s181_190)
  have s224_234 : St (τ.ival 224) (τ.ival 225) (τ.ival 226) (τ.ival 227) (τ.ival 228) (τ.ival 229) (τ.ival 230) (τ.ival 231) (τ.ival 232) (τ.ival 234) := by rw [e224, e225, e226, e227, e228, e229, e230, e231, e232, e234]; exact st_bif (fun _ => s130_72) (fun _ => s194_204)
  have s255_265 : St (τ.ival 255) (τ.ival 256) (τ.ival 257) (τ.ival 258) (τ.ival 259) (τ.ival 260) (τ.ival 261) (τ.ival 262) (τ.ival 263) (τ.ival 265) := by rw [e255, e256, e257, e258, e259, e260, e261, e262, e263, e265]; exact st_bif (fun _ => s130_72) (fun _ => s224_234)
  exact ⟨⟨⟨⟨⟨(fun hF => by
    have h : τ.bval 286 = true := hF.1
    rw [t286] at h; cases h),
    ⟨(fun hF => by
    have h : τ.bval 287 = true := hF.1
    rw [t287] at h; cases h),
    (fun hF => by
    have h45 : τ.bval 45 = true := hF.2.2.2.2.2.1
    rw [e45, decide_eq_true_eq] at h45
    refine ⟨⟨congrArg (AVal.int .i64) (q60.symm), congrArg (AVal.int .u8) (q61.symm), congrArg (AVal.int .u8) (q62.symm), congrArg (AVal.int .u8) (q63.symm), congrArg (AVal.int .u8) (q64.symm), congrArg (AVal.int .u8) (q65.symm), congrArg (AVal.int .u8) (q66.symm), congrArg (AVal.int .u8) (q67.symm), congrArg (AVal.int .u8) (q68.symm), congrArg (AVal.int .u8) (q72.symm), trivial⟩, .inl ⟨rfl, rfl, h45, ?_, rfl, insOk_asg e hin 12 (by kernel_rfl), ⟨r73, s60_72⟩, ht, rfl⟩⟩
    show τ.ival 290 = τ.ival 0 + 1
    rw [e290]
    simp [IntKind.wrap, IntKind.bits, IntKind.signed]; omega)⟩⟩,
    ⟨⟨(fun hF => by
    have h : τ.bval 286 = true := hF.1
    rw [t286] at h; cases h),
    ⟨(fun hF => by
    have h : τ.bval 287 = true := hF.1
    rw [t287] at h; cases h),
    (fun hF => by
    have h45 : τ.bval 45 = true := hF.2.2.2.2.2.2.1
    rw [e45, decide_eq_true_eq] at h45
    refine ⟨⟨congrArg (AVal.int .i64) (q60.symm), congrArg (AVal.int .u8) (q61.symm), congrArg (AVal.int .u8) (q62.symm), congrArg (AVal.int .u8) (q63.symm), congrArg (AVal.int .u8) (q64.symm), congrArg (AVal.int .u8) (q65.symm), congrArg (AVal.int .u8) (q66.symm), congrArg (AVal.int .u8) (q67.symm), congrArg (AVal.int .u8) (q68.symm), congrArg (AVal.int .u8) (q72.symm), trivial⟩, .inl ⟨rfl, rfl, h45, ?_, rfl, insOk_asg e hin 12 (by kernel_rfl), ⟨r73, s60_72⟩, ht, rfl⟩⟩
    show τ.ival 290 = τ.ival 0 + 1
    rw [e290]
    simp [IntKind.wrap, IntKind.bits, IntKind.signed]; omega)⟩⟩,
    ⟨⟨(fun hF => by
    have h : τ.bval 103 = true := hF.1
    have h2 : τ.bval 101 = true := hF.2.1
    rw [e103, beq_iff_eq] at h
    rw [e101, beq_iff_eq] at h2
    omega),
    ⟨(fun hF => by
    have h : τ.bval 122 = true := hF.1
    rw [t122] at h; cases h),
    ⟨(fun hF => by
    have h : τ.bval 125 = true := hF.1
    rw [t125] at h; cases h),
    ⟨(fun hF => by
    have h : τ.bval 286 = true := hF.1
    rw [t286] at h; cases h),
    ⟨(fun hF => by
    have h : τ.bval 287 = true := hF.1
    rw [t287] at h; cases h),
    (fun hF => by
    have h45 : τ.bval 45 = true := hF.2.2.2.2.2.2.2.2.2.2.1
    rw [e45, decide_eq_true_eq] at h45
    refine ⟨⟨congrArg (AVal.int .i64) (q60.symm), congrArg (AVal.int .u8) (q61.symm), congrArg (AVal.int .u8) (q62.symm), congrArg (AVal.int .u8) (q63.symm), congrArg (AVal.int .u8) (q64.symm), congrArg (AVal.int .u8) (q65.symm), congrArg (AVal.int .u8) (q66.symm), congrArg (AVal.int .u8) (q67.symm), congrArg (AVal.int .u8) (q68.symm), congrArg (AVal.int .u8) (q72.symm), trivial⟩, .inl ⟨rfl, rfl, h45, ?_, rfl, insOk_asg e hin 12 (by kernel_rfl), ⟨r111, s60_72⟩, ht, rfl⟩⟩
    show τ.ival 290 = τ.ival 0 + 1
    rw [e290]
    simp [IntKind.wrap, IntKind.bits, IntKind.signed]; omega)⟩⟩⟩⟩⟩,
    ⟨⟨(fun hF => by
    have h : τ.bval 103 = true := hF.1
    have h2 : τ.bval 102 = true := hF.2.1
    rw [e103, beq_iff_eq] at h
    rw [e102, beq_iff_eq] at h2
    omega),
    ⟨(fun hF => by
    have h : τ.bval 122 = true := hF.1
    rw [t122] at h; cases h),
    ⟨(fun hF => by
    have h : τ.bval 125 = true := hF.1
    rw [t125] at h; cases h),
    ⟨(fun hF => by
    have h : τ.bval 286 = true := hF.1
    rw [t286] at h; cases h),
    ⟨(fun hF => by
    have h : τ.bval 287 = true := hF.1
    rw [t287] at h; cases h),
    (fun hF => by
    have h45 : τ.bval 45 = true := hF.2.2.2.2.2.2.2.2.2.2.2.1
    rw [e45, decide_eq_true_eq] at h45
    refine ⟨⟨congrArg (AVal.int .i64) (q60.symm), congrArg (AVal.int .u8) (q61.symm), congrArg (AVal.int .u8) (q62.symm), congrArg (AVal.int .u8) (q63.symm), congrArg (AVal.int .u8) (q64.symm), congrArg (AVal.int .u8) (q65.symm), congrArg (AVal.int .u8) (q66.symm), congrArg (AVal.int .u8) (q67.symm), congrArg (AVal.int .u8) (q68.symm), congrArg (AVal.int .u8) (q72.symm), trivial⟩, .inl ⟨rfl, rfl, h45, ?_, rfl, insOk_asg e hin 12 (by kernel_rfl), ⟨r111, s60_72⟩, ht, rfl⟩⟩
    show τ.ival 290 = τ.ival 0 + 1
    rw [e290]
    simp [IntKind.wrap, IntKind.bits, IntKind.signed]; omega)⟩⟩⟩⟩⟩,
    ⟨⟨(fun hF => by
    have h : τ.bval 108 = true := hF.1
    rw [t108] at h; cases h),
    ⟨(fun hF => by
    have h : τ.bval 286 = true := hF.1
    rw [t286] at h; cases h),
    ⟨(fun hF => by
    have h : τ.bval 287 = true := hF.1
    rw [t287] at h; cases h),
    (fun hF => by
    have h45 : τ.bval 45 = true := hF.2.2.2.2.2.2.2.2.2.2.1
    rw [e45, decide_eq_true_eq] at h45
    refine ⟨⟨congrArg (AVal.int .i64) (q60.symm), congrArg (AVal.int .u8) (q61.symm), congrArg (AVal.int .u8) (q62.symm), congrArg (AVal.int .u8) (q63.symm), congrArg (AVal.int .u8) (q64.symm), congrArg (AVal.int .u8) (q65.symm), congrArg (AVal.int .u8) (q66.symm), congrArg (AVal.int .u8) (q67.symm), congrArg (AVal.int .u8) (q68.symm), congrArg (AVal.int .u8) (q72.symm), trivial⟩, .inl ⟨rfl, rfl, h45, ?_, rfl, insOk_asg e hin 12 (by kernel_rfl), ⟨r51, s60_72⟩, ht, rfl⟩⟩
    show τ.ival 290 = τ.ival 0 + 1
    rw [e290]
    simp [IntKind.wrap, IntKind.bits, IntKind.signed]; omega)⟩⟩⟩,
    ⟨(fun hF => by
    have h : τ.bval 289 = true := hF.1
    rw [t289] at h; cases h),
    (fun hF => by
    have h45 : τ.bval 45 = true := hF.2.2.2.2.2.2.2.2.1
    rw [e45, decide_eq_true_eq] at h45
    refine ⟨⟨congrArg (AVal.int .i64) (q266.trans q51.symm), congrArg (AVal.int .u8) (q267.trans q52.symm), congrArg (AVal.int .u8) (q268.trans q53.symm), congrArg (AVal.int .u8) (q269.trans q54.symm), congrArg (AVal.int .u8) (q270.trans q55.symm), congrArg (AVal.int .u8) (q271.trans q56.symm), congrArg (AVal.int .u8) (q272.trans q57.symm), congrArg (AVal.int .u8) (q273.trans q58.symm), congrArg (AVal.int .u8) (q274.trans q59.symm), trivial⟩, .inl ⟨rfl, rfl, h45, ?_, rfl, insOk_asg e hin 12 (by kernel_rfl), ⟨r51, s255_265⟩, ht, rfl⟩⟩
    show τ.ival 290 = τ.ival 0 + 1
    rw [e290]
    simp [IntKind.wrap, IntKind.bits, IntKind.signed]; omega)⟩⟩⟩⟩⟩⟩,
    (fun hF => by
    have h : τ.bval 47 = false := hF.1
    rw [t47] at h; cases h)⟩,
    (fun hF => .inr ⟨congrArg SEx.exit hidOf.symm, rfl, ht⟩)⟩,
    (fun hF => .inr ⟨congrArg SEx.exit hidOf.symm, rfl, ht⟩)⟩

theorem walk (W : World) (v : Value) (X : Fz) (hX : RowV W [.i .u8, .i .u8] v X) : Calls Try.prog 6 #[v] W fun e W' => e = .returned (.bool true) ∧ Below W.heap.size W W' :=
  rows_walk (q := 43) (insq := uaQK) (S0 := uaS0) (S1 := uaS1) (S2 := uaS2) (SE := uaSE) (J := J) (r := 2) mixed Try.func6 hbody hnt hres hcut rfl (by decide) rfl (by decide) (by kernel_rfl) (by simp [uaSE])
    uaA_seg ⟨rfl, rfl, rfl⟩ uaB_seg ⟨rfl, rfl, rfl⟩ uaC_seg ⟨rfl, rfl, rfl⟩ J_agree oA oB oC hX

section
variable {H : Type} {enc : TypeId × Value → H} {P : Program}
theorem post_of_below {f : Func} {s : ChangeSpec} {apart fresh handsOn again : Bool} {W W' : World} {args : Array Value} {v : Value} {ds gs : List (DataW H)} {before pa pv : List MemPlace}
    (hW : DataW.Whole enc P f.params.toList s.vars apart W args.toList ds gs before)
    (hres : ∀ (b : Nat) (sp : Nat → Bool) (hd : Bool), DataW.TrodAll enc P W' b sp hd f.resultTypes.toList (v.resultList f.resultTypes.size) (s.fn H (ds ++ gs)).results [])
    (hargs : ∀ sp : Nat → Bool, (∀ p ∈ before, sp p.block = true) → DataW.TrodAll enc P W' 0 sp true f.params.toList args.toList (s.fn H (ds ++ gs)).args pa)
    (hvars : ∀ sp : Nat → Bool, (∀ p ∈ before, sp p.block = true) → DataW.TrodVars enc P W' sp s.vars (s.fn H (ds ++ gs)).vars pv)
    (hps : before = pa ++ pv) (hb : Below W.heap.size W W')
    (hok : ∀ (j : Nat) (t : TypeId) (r : Value), f.resultTypes[j]? = some t → (v.resultList f.resultTypes.size)[j]? = some r → Value.okWide P W' .any 0 t r) :
    s.post enc P f apart fresh handsOn again W args v W' := by
  have hlt : ∀ p ∈ before, p.block < W.heap.size := fun p hp => hW.lt p hp
  have hold : ∀ p ∈ before, (fun b => decide (b < W.heap.size)) p.block = true := fun p hp => by simpa using hlt p hp
  refine ⟨ds, gs, before, [], pa, pv, hW, hres _ _ _, hargs _ hold, hvars _ hold, World.keptBut_mono (fun p hp => ⟨hp, ?_⟩) (hb.frame (· ∈ before)), fun _ => ?_⟩
  · rw [hps, List.mem_append] at hp
    exact Or.inr hp
  · obtain ⟨_, _, _, _, _, hz, hn⟩ := hW
    refine ⟨hok, _, _, ([] ++ pa) ++ pv, ⟨[] ++ pa, pv, trodAll_append (hargs _ (fun _ _ => rfl)) (hres _ _ _), hvars _ (fun _ _ => rfl), rfl, ?_, ?_⟩, ?_⟩
    · intro b off hp
      have hin : MemPlace.cell b off ∈ before := by rw [hps]; simpa using hp
      rw [hb.frozen (hlt _ hin)]
      exact hz b off hin
    · intro ha
      have := hn ha
      rw [hps] at this
      simpa using this
    · intro p hp _
      rw [hps]
      simpa using hp
end


theorem size44 : Nat.beq (Try.prog.cellsOf 44) ([.i .u8, .i .u8] : List Cl).length = true := by kernel_rfl
theorem flat44 : flat Try.prog 4 44 = some [.i .u8, .i .u8] := by kernel_rfl

set_option maxRecDepth 100000 in
theorem lifted (os : Os) (started : os.Started) (H : Type) (enc : TypeId × Value → H) :
    ReturnsInHanded {} Try.checked os 6 .any (Rows.uartApartSpec.pre6 enc Try.prog Try.f6 Rows.uartApartRow.domain false) (Rows.uartApartSpec.post enc Try.prog Try.f6 false true false false) := by
  refine returnsInHanded_of_change (C := Try.checked) own started (by kernel_rfl) Try.func6
    (ChangeSpec.witness6 (enc := enc) (C := Try.checked) false ⟨#[], #[.slice none 0 0], []⟩ 8 (by kernel_rfl) (by kernel_rfl) (by kernel_rfl) (by kernel_rfl)) ?_
  intro W base args ds gs before hval0 hW hcnd _
  have hval : ∀ (j : Nat) t v, Try.f6.params[j]? = some t → args[j]? = some v → Value.okWide Try.prog W .any base t v := hval0
  have hW' := hW
  obtain ⟨p, q, hA0, hV, rfl, hfz, hnd⟩ := hW
  have hA : DataW.TrodAll enc Try.prog W 0 (fun _ => true) true Try.f6.params.toList args.toList ds p := hA0
  rw [Try.params6] at hA hval
  obtain ⟨v0, vs0, d0, ds0, p0, q0, hargs, rfl, rfl, h0, r0⟩ := trodAll_cons hA
  obtain ⟨rfl, rfl, rfl⟩ := trodAll_nil r0
  obtain rfl : args = #[v0] := by cases args; simp_all
  obtain ⟨rfl, rfl⟩ := trodVars_none hV
  obtain ⟨X0, R0⟩ := open_rows (cl := [.i .u8, .i .u8]) Try.underlying37 flat44 size44 rfl (hval 0 37 v0 rfl rfl) h0
  clear hA0 hval0
  simp only [List.append_nil] at hW'
  refine (walk W v0 X0 R0.row).mono fun e W' ⟨he, hg⟩ => ?_
  subst he
  exact ⟨_, rfl, post_of_below (pa := p0 ++ ([])) (pv := []) hW' (fun _ _ _ => (trodAll_cons_mk (shut_bool Try.underlying4 _) trodAll_mk0)) (fun sp hsp => (trodAll_cons_mk (R0.again W' hg sp (fun z hz => hsp z (by simp [hz]))) trodAll_mk0)) (fun _ _ => rfl) (by simp)
    hg (ok_one (by kernel_rfl) rfl (okWide_bool_mk Try.underlying4 _))⟩

theorem over : Rows.uartApartRow.holds Try.pinned (OpenSpec.ofChange Rows.uartApartSpec) :=
  OpenClaim.holds_of_wide 6 Try.f6 rfl rfl rfl rfl rfl rfl rfl ⟨rfl, rfl, rfl, rfl, rfl⟩ rfl rfl rfl rfl rfl (by kernel_rfl) Try.func6 (by kernel_rfl)
    (of_decide_eq_true (by kernel_rfl)) (by unfold Func.isWrapper; first | (rw [if_pos (by decide +kernel)]; kernel_rfl) | (rw [if_neg (by decide +kernel)]; exact ⟨rfl, rfl⟩))
    (fun os started H enc _ => lifted os started H enc)

/-- THE STATEMENT -/
theorem proved : Rows.UartApartSaid :=
  over
#print axioms proved
end Go.Proofs.Ytgifnmiggloclab.uartApart
