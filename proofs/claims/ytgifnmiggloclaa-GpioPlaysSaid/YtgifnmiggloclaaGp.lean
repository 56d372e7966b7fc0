/-
  The pieces of GpioPlays: what is known ahead, the operations, the ways.
  No conditions.
-/
import Derived.Test.YtgifnmiggloclaaChecked
import Derived.WalkKit
import Derived.ProofKit
import Derived.Test.YtgifnmiggloclaaRp
import Derived.Test.YtgifnmiggloclaaBda
namespace Go.Proofs.Ytgifnmiggloclaa.gp
open Go.RowKit Go.Ev
open Go.Proofs.Ytgifnmiggloclaa.bi (biSs bitF bit_contract)
open Go.Proofs.Ytgifnmiggloclaa.rp (rpI rpO pinsF pins_contract0 pins_contract1)
open Go.Proofs.Ytgifnmiggloclaa.bd (gpeekI gpeekO gpeekF gwriteI gwriteO gwriteF gpeek_contract0 gpeek_contract1 gwrite_contract0 gwrite_contract1 g3)
set_option linter.unusedVariables false
set_option linter.unusedSimpArgs false

theorem mixed : Try.prog.follows .mixedOrders = true := bi.mixed
theorem works_run : isTrue ((evD Try.prog (cxOf noIng) true 1000 40).1 [] 35 [] ⟨[], []⟩) = true := by kernel_rfl
theorem works_contract : FnOk Try.prog 35 [] [.one .b] (fun _ => [1]) := fun l hl w => closed_hook ⟨rfl, rfl, rfl, rfl, rfl, rfl⟩ (hm := mixed) (hh := fun F => no_hooks rfl F) (h := works_run) (w := w)

def gpFs : Nat → List Int → List Int
  | 0 => gwriteF
  | 1 => pinsF
  | 2 => gpeekF
  | _ => bitF
def gpTbl : List Ent := [⟨26, gwriteI, gwriteO, 0⟩, ⟨27, gwriteI, gwriteO, 0⟩, ⟨28, rpI, rpO, 1⟩, ⟨29, rpI, rpO, 1⟩, ⟨33, gpeekI, gpeekO, 2⟩, ⟨34, gpeekI, gpeekO, 2⟩, ⟨60, biSs, [.one .b], 3⟩]
def gpTru : List Ent := [⟨35, [], [.one .b], 0⟩]
def gpSs : List Sh := [.one (.i .u8), .one (.i .u8)]
def gpS0 : Shape := ⟨argT 0 (symSh gpSs 0 ++ [.row 0]), []⟩
def gpS1 : Shape := ⟨[(2, .row 0), (7, .ptr 0 0), (8, .ptr 1 0), (9, .symi .i64 0)], [.cells [.symi .u8 2, .symi .u8 3, .symi .u8 4] 44, .cells [.symi .u8 2, .symi .u8 3, .symi .u8 4] 45]⟩
def gpS2 : Shape := ⟨[], []⟩
def gpSE : Shape := ⟨[(6, .symb 0)], []⟩
def gpK : List (Option IntKind) := [some .i64, some .i64, some .u8, some .u8, some .u8]
theorem gp_tru : ∀ e, e ∈ gpTru → FnOk Try.prog e.f e.ins [.one .b] (fun _ => [1]) := by
  intro e he
  simp only [gpTru, List.mem_singleton] at he
  subst he
  exact works_contract
theorem gp_all : ∀ e, e ∈ gpTbl → (cellsOf e.outs).length ≤ 64 ∧ FnOk Try.prog e.f e.ins e.outs (gpFs e.id) := by
  intro e he
  simp only [gpTbl, List.mem_cons, List.not_mem_nil, or_false] at he
  rcases he with rfl | rfl | rfl | rfl | rfl | rfl | rfl
  · exact ⟨by decide, gwrite_contract0⟩
  · exact ⟨by decide, gwrite_contract1⟩
  · exact ⟨by decide, pins_contract0⟩
  · exact ⟨by decide, pins_contract1⟩
  · exact ⟨by decide, gpeek_contract0⟩
  · exact ⟨by decide, gpeek_contract1⟩
  · exact ⟨by decide, bit_contract⟩

set_option maxRecDepth 100000 in
def gpAG : List SDef := [.bin .xor (.symi .u8 0) (.symi .u8 1)]

def gpAT : LT := .n (.e) 343383958 3 (.bin .xor (.symi .u8 0) (.symi .u8 1)) (.e)

set_option maxRecDepth 100000 in
def gpAW : Sw := .run (.leaf .normal gpS1 [(0, 0), (1, 0)] [(0, .int .i64 0), (2, .symi .u8 0), (3, .symi .u8 1), (4, .symi .u8 3), (2, .symi .u8 0), (3, .symi .u8 1), (4, .symi .u8 3)] [(1, .symi .i64 2)])
def gpAKd : KdT := .n (.n (.n .e (some .u8) .e) (some .u8) .e) (some .u8) (.n .e (some .i64) .e)
def gpL0 : List AVal := [.symi .u8 2, .symi .u8 3, .symi .u8 4, .symi .i64 71, .symi .i32 7]
set_option maxRecDepth 100000 in
def gpBG : List SDef := [.bin .lss (.symi .i64 0) (.symi .i64 1),
  .bin .lss (.symi .i64 0) (.int .i64 100),
  .bin .leq (.int .i64 0) (.symi .i64 0),
  .bin .rem (.symi .u8 5) (.int .u8 3),
  .bin .lss (.symi .u8 11) (.int .u8 2),
  .conv .u8 (.symi .i32 7),
  .bin .andNot (.symi .u8 13) (.symi .u8 3),
  .fnb 192 [.symi .u8 3, .int .i64 0],
  .un .not (.symb 15),
  .fnb 192 [.symi .u8 13, .int .i64 0],
  .ite (.symb 16) (.symb 17) (.bool false),
  .bin .shr (.symi .u8 14) (.int .i64 0),
  .bin .and (.symi .u8 19) (.int .u8 1),
  .bin .eql (.symi .u8 20) (.int .u8 1),
  .fnb 192 [.symi .u8 3, .int .i64 1],
  .un .not (.symb 22),
  .fnb 192 [.symi .u8 13, .int .i64 1],
  .ite (.symb 23) (.symb 24) (.bool false),
  .bin .shr (.symi .u8 14) (.int .i64 1),
  .bin .and (.symi .u8 26) (.int .u8 1),
  .bin .eql (.symi .u8 27) (.int .u8 1),
  .fnb 192 [.symi .u8 3, .int .i64 2],
  .un .not (.symb 29),
  .fnb 192 [.symi .u8 13, .int .i64 2],
  .ite (.symb 30) (.symb 31) (.bool false),
  .bin .shr (.symi .u8 14) (.int .i64 2),
  .bin .and (.symi .u8 33) (.int .u8 1),
  .bin .eql (.symi .u8 34) (.int .u8 1),
  .fnb 192 [.symi .u8 3, .int .i64 3],
  .un .not (.symb 36),
  .fnb 192 [.symi .u8 13, .int .i64 3],
  .ite (.symb 37) (.symb 38) (.bool false),
  .bin .shr (.symi .u8 14) (.int .i64 3),
  .bin .and (.symi .u8 40) (.int .u8 1),
  .bin .eql (.symi .u8 41) (.int .u8 1),
  .fnb 192 [.symi .u8 3, .int .i64 4],
  .un .not (.symb 43),
  .fnb 192 [.symi .u8 13, .int .i64 4],
  .ite (.symb 44) (.symb 45) (.bool false),
  .bin .shr (.symi .u8 14) (.int .i64 4),
  .bin .and (.symi .u8 47) (.int .u8 1),
  .bin .eql (.symi .u8 48) (.int .u8 1),
  .fnb 192 [.symi .u8 3, .int .i64 5],
  .un .not (.symb 50),
  .fnb 192 [.symi .u8 13, .int .i64 5],
  .ite (.symb 51) (.symb 52) (.bool false),
  .bin .shr (.symi .u8 14) (.int .i64 5),
  .bin .and (.symi .u8 54) (.int .u8 1),
  .bin .eql (.symi .u8 55) (.int .u8 1),
  .fnb 192 [.symi .u8 3, .int .i64 6],
  .un .not (.symb 57),
  .fnb 192 [.symi .u8 13, .int .i64 6],
  .ite (.symb 58) (.symb 59) (.bool false),
  .bin .shr (.symi .u8 14) (.int .i64 6),
  .bin .and (.symi .u8 61) (.int .u8 1),
  .bin .eql (.symi .u8 62) (.int .u8 1),
  .fnb 192 [.symi .u8 3, .int .i64 7],
  .un .not (.symb 64),
  .fnb 192 [.symi .u8 13, .int .i64 7],
  .ite (.symb 65) (.symb 66) (.bool false),
  .bin .shr (.symi .u8 14) (.int .i64 7),
  .bin .and (.symi .u8 68) (.int .u8 1),
  .bin .eql (.symi .u8 69) (.int .u8 1),
  .conv .i64 (.symi .i8 6),
  .fn 0 .u8 gpL0,
  .fn 1 .u8 gpL0,
  .fn 2 .u8 gpL0,
  .fn 128 .i32 [.symi .u8 72, .symi .u8 73, .symi .u8 74, .int .i64 (-1)],
  .fn 128 .i32 [.symi .u8 72, .symi .u8 73, .symi .u8 74, .int .i64 0],
  .fn 128 .i32 [.symi .u8 72, .symi .u8 73, .symi .u8 74, .int .i64 1],
  .fn 128 .i32 [.symi .u8 72, .symi .u8 73, .symi .u8 74, .int .i64 2],
  .fn 128 .i32 [.symi .u8 72, .symi .u8 73, .symi .u8 74, .int .i64 3],
  .fn 128 .i32 [.symi .u8 72, .symi .u8 73, .symi .u8 74, .int .i64 4],
  .fn 128 .i32 [.symi .u8 72, .symi .u8 73, .symi .u8 74, .int .i64 5],
  .fn 128 .i32 [.symi .u8 72, .symi .u8 73, .symi .u8 74, .int .i64 6],
  .fn 128 .i32 [.symi .u8 72, .symi .u8 73, .symi .u8 74, .int .i64 7],
  .fn 128 .i32 [.symi .u8 72, .symi .u8 73, .symi .u8 74, .int .i64 8],
  .fn 128 .i32 [.symi .u8 72, .symi .u8 73, .symi .u8 74, .int .i64 9],
  .fn 128 .i32 [.symi .u8 72, .symi .u8 73, .symi .u8 74, .int .i64 10],
  .fn 128 .i32 [.symi .u8 72, .symi .u8 73, .symi .u8 74, .int .i64 11],
  .fn 128 .i32 [.symi .u8 72, .symi .u8 73, .symi .u8 74, .int .i64 12],
  .fn 128 .i32 [.symi .u8 72, .symi .u8 73, .symi .u8 74, .int .i64 13],
  .fn 128 .i32 [.symi .u8 72, .symi .u8 73, .symi .u8 74, .int .i64 14],
  .fn 128 .i32 [.symi .u8 72, .symi .u8 73, .symi .u8 74, .int .i64 15],
  .fn 128 .i32 [.symi .u8 72, .symi .u8 73, .symi .u8 74, .symi .i64 71],
  .bin .add (.symi .i64 0) (.int .i64 1),
  .fn 64 .u8 [.symi .u8 2, .symi .u8 3, .symi .u8 4, .symi .u8 13],
  .fn 65 .u8 [.symi .u8 2, .symi .u8 3, .symi .u8 4, .symi .u8 13],
  .fn 66 .u8 [.symi .u8 2, .symi .u8 3, .symi .u8 4, .symi .u8 13],
  .fnb 67 [.symi .u8 2, .symi .u8 3, .symi .u8 4, .symi .u8 13],
  .fn 128 .i32 [.symi .u8 94, .symi .u8 95, .symi .u8 96, .int .i64 (-1)],
  .fn 128 .i32 [.symi .u8 94, .symi .u8 95, .symi .u8 96, .int .i64 0],
  .fn 128 .i32 [.symi .u8 94, .symi .u8 95, .symi .u8 96, .int .i64 1],
  .fn 128 .i32 [.symi .u8 94, .symi .u8 95, .symi .u8 96, .int .i64 2],
  .fn 128 .i32 [.symi .u8 94, .symi .u8 95, .symi .u8 96, .int .i64 3],
  .fn 128 .i32 [.symi .u8 94, .symi .u8 95, .symi .u8 96, .int .i64 4],
  .fn 128 .i32 [.symi .u8 94, .symi .u8 95, .symi .u8 96, .int .i64 5],
  .fn 128 .i32 [.symi .u8 94, .symi .u8 95, .symi .u8 96, .int .i64 6],
  .fn 128 .i32 [.symi .u8 94, .symi .u8 95, .symi .u8 96, .int .i64 7],
  .fn 128 .i32 [.symi .u8 94, .symi .u8 95, .symi .u8 96, .int .i64 8],
  .fn 128 .i32 [.symi .u8 94, .symi .u8 95, .symi .u8 96, .int .i64 9],
  .fn 128 .i32 [.symi .u8 94, .symi .u8 95, .symi .u8 96, .int .i64 10],
  .fn 128 .i32 [.symi .u8 94, .symi .u8 95, .symi .u8 96, .int .i64 11],
  .fn 128 .i32 [.symi .u8 94, .symi .u8 95, .symi .u8 96, .int .i64 12],
  .fn 128 .i32 [.symi .u8 94, .symi .u8 95, .symi .u8 96, .int .i64 13],
  .fn 128 .i32 [.symi .u8 94, .symi .u8 95, .symi .u8 96, .int .i64 14],
  .fn 128 .i32 [.symi .u8 94, .symi .u8 95, .symi .u8 96, .int .i64 15],
  .fn 128 .i32 [.symi .u8 94, .symi .u8 95, .symi .u8 96, .symi .i64 71]]

def gpBT : LT := .n (.n (.n (.n (.n (.n (.n (.e) 30227 10 (.bin .leq (.int .i64 0) (.symi .i64 0)) (.e)) 60352 93 (.bin .add (.symi .i64 0) (.int .i64 1)) (.n (.e) 5013908 9 (.bin .lss (.symi .i64 0) (.int .i64 100)) (.e))) 21763076 65 (.un .not (.symb 64)) (.n (.n (.e) 37371984 12 (.bin .lss (.symi .u8 11) (.int .u8 2)) (.e)) 48176737 44 (.un .not (.symb 43)) (.e))) 67942939 39 (.ite (.symb 37) (.symb 38) (.bool false)) (.n (.n (.n (.e) 74590398 23 (.un .not (.symb 22)) (.e)) 80063860 72 (.fn 0 .u8 gpL0) (.n (.e) 80063903 73 (.fn 1 .u8 gpL0) (.e))) 80063946 74 (.fn 2 .u8 gpL0) (.n (.n (.e) 85367614 55 (.bin .and (.symi .u8 54) (.int .u8 1)) (.e)) 111844905 34 (.bin .and (.symi .u8 33) (.int .u8 1)) (.e)))) 172633382 76 (.fn 128 .i32 [.symi .u8 72, .symi .u8 73, .symi .u8 74, .int .i64 0]) (.n (.n (.n (.n (.e) 176536003 75 (.fn 128 .i32 [.symi .u8 72, .symi .u8 73, .symi .u8 74, .int .i64 (-1)]) (.e)) 186367959 56 (.bin .eql (.symi .u8 55) (.int .u8 1)) (.n (.e) 192146487 77 (.fn 128 .i32 [.symi .u8 72, .symi .u8 73, .symi .u8 74, .int .i64 1]) (.e))) 195611420 14 (.bin .andNot (.symi .u8 13) (.symi .u8 3)) (.n (.n (.e) 199360065 32 (.ite (.symb 30) (.symb 31) (.bool false)) (.e)) 211659592 78 (.fn 128 .i32 [.symi .u8 72, .symi .u8 73, .symi .u8 74, .int .i64 2]) (.e))) 212845250 35 (.bin .eql (.symi .u8 34) (.int .u8 1)) (.n (.n (.n (.e) 231172697 79 (.fn 128 .i32 [.symi .u8 72, .symi .u8 73, .symi .u8 74, .int .i64 3]) (.e)) 250685802 80 (.fn 128 .i32 [.symi .u8 72, .symi .u8 73, .symi .u8 74, .int .i64 4]) (.n (.e) 270198907 81 (.fn 128 .i32 [.symi .u8 72, .symi .u8 73, .symi .u8 74, .int .i64 5]) (.e))) 289712012 82 (.fn 128 .i32 [.symi .u8 72, .symi .u8 73, .symi .u8 74, .int .i64 6]) (.n (.n (.e) 309225117 83 (.fn 128 .i32 [.symi .u8 72, .symi .u8 73, .symi .u8 74, .int .i64 7]) (.e)) 328738222 84 (.fn 128 .i32 [.symi .u8 72, .symi .u8 73, .symi .u8 74, .int .i64 8]) (.e))))) 330777191 25 (.ite (.symb 23) (.symb 24) (.bool false)) (.n (.n (.n (.n (.n (.e) 340272795 19 (.bin .shr (.symi .u8 14) (.int .i64 0)) (.e)) 340322830 26 (.bin .shr (.symi .u8 14) (.int .i64 1)) (.n (.e) 340372865 33 (.bin .shr (.symi .u8 14) (.int .i64 2)) (.e))) 340422900 40 (.bin .shr (.symi .u8 14) (.int .i64 3)) (.n (.n (.e) 340472935 47 (.bin .shr (.symi .u8 14) (.int .i64 4)) (.e)) 340522970 54 (.bin .shr (.symi .u8 14) (.int .i64 5)) (.e))) 340573005 61 (.bin .shr (.symi .u8 14) (.int .i64 6)) (.n (.n (.n (.e) 340623040 68 (.bin .shr (.symi .u8 14) (.int .i64 7)) (.e)) 343384000 8 (.bin .lss (.symi .i64 0) (.symi .i64 1)) (.n (.e) 348251327 85 (.fn 128 .i32 [.symi .u8 72, .symi .u8 73, .symi .u8 74, .int .i64 9]) (.e))) 367764432 86 (.fn 128 .i32 [.symi .u8 72, .symi .u8 73, .symi .u8 74, .int .i64 10]) (.n (.n (.e) 387277537 87 (.fn 128 .i32 [.symi .u8 72, .symi .u8 73, .symi .u8 74, .int .i64 11]) (.e)) 388481572 58 (.un .not (.symb 57)) (.e)))) 406790642 88 (.fn 128 .i32 [.symi .u8 72, .symi .u8 73, .symi .u8 74, .int .i64 12]) (.n (.n (.n (.n (.e) 411147783 15 (.fnb 192 [.symi .u8 3, .int .i64 0]) (.e)) 411169018 22 (.fnb 192 [.symi .u8 3, .int .i64 1]) (.n (.e) 411190253 29 (.fnb 192 [.symi .u8 3, .int .i64 2]) (.e))) 411211488 36 (.fnb 192 [.symi .u8 3, .int .i64 3]) (.n (.n (.e) 411232723 43 (.fnb 192 [.symi .u8 3, .int .i64 4]) (.e)) 411253958 50 (.fnb 192 [.symi .u8 3, .int .i64 5]) (.e))) 411275193 57 (.fnb 192 [.symi .u8 3, .int .i64 6]) (.n (.n (.n (.e) 411296428 64 (.fnb 192 [.symi .u8 3, .int .i64 7]) (.e)) 414895233 37 (.un .not (.symb 36)) (.e)) 425630029 69 (.bin .and (.symi .u8 68) (.int .u8 1)) (.n (.n (.e) 426303747 89 (.fn 128 .i32 [.symi .u8 72, .symi .u8 73, .symi .u8 74, .int .i64 13]) (.e)) 441308894 16 (.un .not (.symb 15)) (.e)))))) 445816852 90 (.fn 128 .i32 [.symi .u8 72, .symi .u8 73, .symi .u8 74, .int .i64 14]) (.n (.n (.n (.n (.n (.n (.e) 452107320 48 (.bin .and (.symi .u8 47) (.int .u8 1)) (.e)) 462194317 18 (.ite (.symb 16) (.symb 17) (.bool false)) (.n (.e) 465329957 91 (.fn 128 .i32 [.symi .u8 72, .symi .u8 73, .symi .u8 74, .int .i64 15]) (.e))) 478584611 27 (.bin .and (.symi .u8 26) (.int .u8 1)) (.n (.n (.e) 485249905 99 (.fn 128 .i32 [.symi .u8 94, .symi .u8 95, .symi .u8 96, .int .i64 0]) (.e)) 489152526 98 (.fn 128 .i32 [.symi .u8 94, .symi .u8 95, .symi .u8 96, .int .i64 (-1)]) (.e))) 504763010 100 (.fn 128 .i32 [.symi .u8 94, .symi .u8 95, .symi .u8 96, .int .i64 1]) (.n (.n (.n (.e) 505161965 11 (.bin .rem (.symi .u8 5) (.int .u8 3)) (.e)) 508046758 92 (.fn 128 .i32 [.symi .u8 72, .symi .u8 73, .symi .u8 74, .symi .i64 71]) (.n (.e) 524276115 101 (.fn 128 .i32 [.symi .u8 94, .symi .u8 95, .symi .u8 96, .int .i64 2]) (.e))) 526630374 70 (.bin .eql (.symi .u8 69) (.int .u8 1)) (.n (.n (.e) 543789220 102 (.fn 128 .i32 [.symi .u8 94, .symi .u8 95, .symi .u8 96, .int .i64 3]) (.e)) 553107665 49 (.bin .eql (.symi .u8 48) (.int .u8 1)) (.e)))) 563302325 103 (.fn 128 .i32 [.symi .u8 94, .symi .u8 95, .symi .u8 96, .int .i64 4]) (.n (.n (.n (.n (.e) 579584956 28 (.bin .eql (.symi .u8 27) (.int .u8 1)) (.e)) 582815430 104 (.fn 128 .i32 [.symi .u8 94, .symi .u8 95, .symi .u8 96, .int .i64 5]) (.n (.e) 602328535 105 (.fn 128 .i32 [.symi .u8 94, .symi .u8 95, .symi .u8 96, .int .i64 6]) (.e))) 616016262 67 (.ite (.symb 65) (.symb 66) (.bool false)) (.n (.n (.e) 618002186 71 (.conv .i64 (.symi .i8 6)) (.e)) 621841640 106 (.fn 128 .i32 [.symi .u8 94, .symi .u8 95, .symi .u8 96, .int .i64 7]) (.e))) 641354745 107 (.fn 128 .i32 [.symi .u8 94, .symi .u8 95, .symi .u8 96, .int .i64 8]) (.n (.n (.n (.e) 660867850 108 (.fn 128 .i32 [.symi .u8 94, .symi .u8 95, .symi .u8 96, .int .i64 9]) (.e)) 671429698 94 (.fn 64 .u8 [.symi .u8 2, .symi .u8 3, .symi .u8 4, .symi .u8 13]) (.e)) 671429741 95 (.fn 65 .u8 [.symi .u8 2, .symi .u8 3, .symi .u8 4, .symi .u8 13]) (.n (.n (.e) 671429784 96 (.fn 66 .u8 [.symi .u8 2, .symi .u8 3, .symi .u8 4, .symi .u8 13]) (.e)) 680380955 109 (.fn 128 .i32 [.symi .u8 94, .symi .u8 95, .symi .u8 96, .int .i64 10]) (.e))))) 699894060 110 (.fn 128 .i32 [.symi .u8 94, .symi .u8 95, .symi .u8 96, .int .i64 11]) (.n (.n (.n (.n (.n (.e) 707410066 17 (.fnb 192 [.symi .u8 13, .int .i64 0]) (.e)) 707431301 24 (.fnb 192 [.symi .u8 13, .int .i64 1]) (.n (.e) 707452536 31 (.fnb 192 [.symi .u8 13, .int .i64 2]) (.e))) 707473771 38 (.fnb 192 [.symi .u8 13, .int .i64 3]) (.n (.n (.e) 707495006 45 (.fnb 192 [.symi .u8 13, .int .i64 4]) (.e)) 707516241 52 (.fnb 192 [.symi .u8 13, .int .i64 5]) (.e))) 707537476 59 (.fnb 192 [.symi .u8 13, .int .i64 6]) (.n (.n (.n (.e) 707558711 66 (.fnb 192 [.symi .u8 13, .int .i64 7]) (.e)) 719407165 111 (.fn 128 .i32 [.symi .u8 94, .symi .u8 95, .symi .u8 96, .int .i64 12]) (.n (.e) 721002495 13 (.conv .u8 (.symi .i32 7)) (.e))) 738920270 112 (.fn 128 .i32 [.symi .u8 94, .symi .u8 95, .symi .u8 96, .int .i64 13]) (.n (.n (.e) 747433388 60 (.ite (.symb 58) (.symb 59) (.bool false)) (.e)) 755200068 51 (.un .not (.symb 50)) (.e)))) 758433375 113 (.fn 128 .i32 [.symi .u8 94, .symi .u8 95, .symi .u8 96, .int .i64 14]) (.n (.n (.n (.n (.e) 777946480 114 (.fn 128 .i32 [.symi .u8 94, .symi .u8 95, .symi .u8 96, .int .i64 15]) (.e)) 781613729 30 (.un .not (.symb 29)) (.n (.e) 792369735 62 (.bin .and (.symi .u8 61) (.int .u8 1)) (.e))) 816933921 97 (.fnb 67 [.symi .u8 2, .symi .u8 3, .symi .u8 4, .symi .u8 13]) (.n (.n (.e) 818847026 41 (.bin .and (.symi .u8 40) (.int .u8 1)) (.e)) 820663281 115 (.fn 128 .i32 [.symi .u8 94, .symi .u8 95, .symi .u8 96, .symi .i64 71]) (.e))) 845324317 20 (.bin .and (.symi .u8 19) (.int .u8 1)) (.n (.n (.n (.e) 878850514 53 (.ite (.symb 51) (.symb 52) (.bool false)) (.e)) 893370080 63 (.bin .eql (.symi .u8 62) (.int .u8 1)) (.e)) 919847371 42 (.bin .eql (.symi .u8 41) (.int .u8 1)) (.n (.n (.e) 946324662 21 (.bin .eql (.symi .u8 20) (.int .u8 1)) (.e)) 1010267640 46 (.ite (.symb 44) (.symb 45) (.bool false)) (.e))))))

def gpLP : Sv := (.leaf .normal gpS1 [(0, 0), (1, 0)] [(0, .symi .i64 93), (2, .symi .u8 94), (3, .symi .u8 95), (4, .symi .u8 96), (2, .symi .u8 94), (3, .symi .u8 95), (4, .symi .u8 96)] [(1, .symi .i64 1)])
/-- what rises, as both sides see it: pairs of truths that are one -/
def gpW : List (Nat × Nat) → Sw
  | [] => .run gpLP
  | (d, t) :: r => .node d (.node t (gpW r) .dead) (.node t .dead (gpW r))
def gpLW : Sw := .run (.leaf .normal gpS1 [(0, 0), (1, 0)] [(0, .symi .i64 93), (2, .symi .u8 72), (3, .symi .u8 73), (4, .symi .u8 74), (2, .symi .u8 72), (3, .symi .u8 73), (4, .symi .u8 74)] [(1, .symi .i64 1)])
def gpLX : Sw := .run (.leaf (.exit 0) gpS2 [] [] [])
def gpDs : List (Nat × Nat) := [(18, 21), (25, 28), (32, 35), (39, 42), (46, 49), (53, 56), (60, 63), (67, 70)]
def gpDs4 : List (Nat × Nat) := [(46, 49), (53, 56), (60, 63), (67, 70)]
def gpBW : Sw := .node 8 (.node 9 (.node 10 (.node 12 gpLW (gpW gpDs)) .dead) gpLX) gpLX
def gpBKd : KdT := .n (.n (.n (.n (.n (.n (.n .e none .e) none (.n .e (some .u8) .e)) none (.n (.n .e (some .i32) .e) none (.n .e (some .i32) .e))) (some .i32) (.n (.n (.n .e (some .i64) .e) none (.n .e (some .i32) .e)) none (.n (.n .e (some .i32) .e) (some .u8) .e))) (some .u8) (.n (.n (.n (.n .e none .e) none (.n .e (some .i32) .e)) none (.n (.n .e (some .i32) .e) none (.n .e (some .i32) .e))) (some .u8) (.n (.n (.n .e (some .i32) .e) none (.n .e (some .i32) .e)) (some .u8) (.n (.n .e (some .i32) .e) none .e)))) (some .i64) (.n (.n (.n (.n (.n .e none .e) none (.n .e none .e)) none (.n (.n .e (some .i32) .e) none (.n .e (some .i32) .e))) none (.n (.n (.n .e (some .u8) .e) (some .u8) (.n .e (some .i32) .e)) none (.n (.n .e (some .i32) .e) none .e))) (some .u8) (.n (.n (.n (.n .e (some .u8) .e) none (.n .e (some .i32) .e)) none (.n (.n .e (some .i32) .e) none .e)) (some .u8) (.n (.n (.n .e (some .i32) .e) none (.n .e (some .i32) .e)) none (.n (.n .e (some .i64) .e) none .e))))) (some .i64) (.n (.n (.n (.n (.n (.n .e none .e) none (.n .e (some .u8) .e)) none (.n (.n .e (some .i32) .e) (some .u8) (.n .e (some .i32) .e))) none (.n (.n (.n .e (some .u8) .e) none (.n .e (some .i32) .e)) none (.n (.n .e (some .i32) .e) none .e))) (some .u8) (.n (.n (.n (.n .e none .e) none (.n .e (some .i32) .e)) (some .u8) (.n (.n .e (some .i32) .e) none .e)) none (.n (.n (.n .e (some .i32) .e) none (.n .e (some .i32) .e)) none (.n (.n .e (some .i32) .e) none .e)))) (some .u8) (.n (.n (.n (.n (.n .e none .e) (some .u8) (.n .e (some .i32) .e)) none (.n (.n .e (some .i32) .e) none (.n .e (some .i32) .e))) none (.n (.n (.n .e (some .u8) .e) none (.n .e (some .i32) .e)) none (.n (.n .e (some .i32) .e) none .e))) (some .i8) (.n (.n (.n (.n .e none .e) none (.n .e (some .i32) .e)) none (.n (.n .e (some .i32) .e) none .e)) (some .u8) (.n (.n (.n .e (some .i32) .e) none (.n .e (some .i32) .e)) none (.n (.n .e (some .u8) .e) (some .u8) .e)))))
set_option maxRecDepth 100000 in
def gpCG : List SDef := []

def gpCT : LT := .e

set_option maxRecDepth 100000 in
def gpCW : Sw := .run (.leaf .ret gpSE [] [(0, .bool true)] [])
def gpCKd : KdT := .e
def gpAX : Ing := { fu := 1001, kb := 4, kt := gpAKd, m := 3, ins := [some .u8, some .u8, some .i64], G := gpAG, T := gpAT, hook := orHook (trueHook gpTru) (tblHook (tabOf gpFs) gpTbl), tab := tabOf gpFs, rows := [⟨.symi .i64 2, []⟩] }
theorem gpA_ok : okG gpAG 3 = true := by kernel_rfl
theorem gpA_lt : okLT 3 gpAG gpAT = true := by kernel_rfl
def gpBX : Ing := { fu := 1001, kb := 116, kt := gpBKd, m := 8, ins := gpK ++ ([.i .u8, .i .i8, .i .i32] : List Cl).map kindC, G := gpBG, T := gpBT, hook := orHook (trueHook gpTru) (tblHook (tabOf gpFs) gpTbl), tab := tabOf gpFs, rows := [⟨.symi .i64 1, [(.symi .i64 0, elCells 5 [.i .u8, .i .i8, .i .i32])]⟩] }
theorem gpB_ok : okG gpBG 8 = true := by kernel_rfl
theorem gpB_lt : okLT 8 gpBG gpBT = true := by kernel_rfl
def gpCX : Ing := { fu := 1001, kb := 0, kt := gpCKd, m := 0, ins := [], G := gpCG, T := gpCT, hook := orHook (trueHook gpTru) (tblHook (tabOf gpFs) gpTbl), tab := tabOf gpFs, rows := [] }
theorem gpC_ok : okG gpCG 0 = true := by kernel_rfl
theorem gpC_lt : okLT 0 gpCG gpCT = true := by kernel_rfl
theorem gpA_seg : SegOk Try.prog (tabOf gpFs) 139 (preOf (bodyOf Try.f6)) gpS0 gpAX gpAW where
  lt := gpA_lt
  ok := gpA_ok
  hook := fun F => or_hooks gpA_lt rfl rfl gp_tru gp_all F
  n0 := rfl
  id := by kernel_rfl
  reck := by kernel_rfl
  tab := rfl
  cuts := rfl
  kt := by kernel_rfl
theorem gpC_seg : SegOk Try.prog (tabOf gpFs) 139 (postOf (bodyOf Try.f6)) gpS2 gpCX gpCW where
  lt := gpC_lt
  ok := gpC_ok
  hook := fun F => or_hooks gpC_lt rfl rfl gp_tru gp_all F
  n0 := rfl
  id := by kernel_rfl
  reck := by kernel_rfl
  tab := rfl
  cuts := rfl
  kt := by kernel_rfl

theorem gp_x8 : okSw (runOf Try.prog gpBX ([loopOf (bodyOf Try.f6)]) gpS1 139) gpLX [.tru 8 false] = true := by kernel_rfl
theorem gp_x9 : okSw (runOf Try.prog gpBX ([loopOf (bodyOf Try.f6)]) gpS1 139) gpLX [.tru 9 false, .tru 8 true] = true := by kernel_rfl
theorem gp_w : okSw (runOf Try.prog gpBX ([loopOf (bodyOf Try.f6)]) gpS1 139) gpLW [.tru 12 true, .tru 10 true, .tru 9 true, .tru 8 true] = true := by kernel_rfl
theorem gpW_ok {run : List Fact → Tree (Ex × Tm × Hp)} {d t : Nat} {r : List (Nat × Nat)} {F : List Fact} (h1 : okSw run (gpW r) (.tru t true :: .tru d true :: F) = true) (h2 : okSw run (gpW r) (.tru t false :: .tru d false :: F) = true) : okSw run (gpW ((d, t) :: r)) F = true := by
  show ((okSw run (gpW r) (.tru t true :: .tru d true :: F) && true) && (true && okSw run (gpW r) (.tru t false :: .tru d false :: F))) = true
  rw [h1, h2]; rfl
end Go.Proofs.Ytgifnmiggloclaa.gp
