/-
  The pieces of BankPlays: what is known ahead, alike of two that are the same, the operations, the ways.
  No conditions.
-/
import Derived.Test.YtgifnmiggloclabChecked
import Derived.WalkKit
import Derived.ProofKit
import Derived.Test.YtgifnmiggloclabUdb
import Derived.Test.YtgifnmiggloclabBd
import Derived.Test.YtgifnmiggloclabRpb
import Derived.Test.YtgifnmiggloclabEwZn
namespace Go.Proofs.Ytgifnmiggloclab.bl
open Go.RowKit Go.Ev Go.Proofs.Ytgifnmiggloclab.fc Go.Proofs.Ytgifnmiggloclab.uc Go.Proofs.Ytgifnmiggloclab.ud
open Go.Proofs.Ytgifnmiggloclab.bd hiding mixed
open Go.Proofs.Ytgifnmiggloclab.rp (pinsF pins_contract0 pins_contract1)
set_option linter.unusedVariables false
set_option linter.unusedSimpArgs false

theorem mixed : Try.prog.follows .mixedOrders = true := Checked.mixed Try.checked
theorem works_run : isTrue ((evD Try.prog (cxOf noIng) true 1000 40).1 [] 29 [] ⟨[], []⟩) = true := by kernel_rfl
theorem works_contract : FnOk Try.prog 29 [] [.one .b] (fun _ => [1]) := fun l hl w => closed_hook ⟨rfl, rfl, rfl, rfl, rfl, rfl⟩ (hm := mixed) (hh := fun F => no_hooks rfl F) (h := works_run) (w := w)

def b32c : List Cl := ([.i .u8, .i .u8, .i .u8, .i .i64, .i .u8, .i .u8, .i .u8, .i .u8, .i .u8, .i .u8, .i .u8, .i .u8, .i .i64, .i .u8, .i .u8, .i .u8, .i .u8, .i .u8, .i .u8, .i .u8, .i .u8, .b, .i .u8, .i .u8, .i .u16, .i .u16, .i .u16, .i .u16, .i .u16, .i .u16, .i .u8, .i .u8])
def blFs : Nat → List Int → List Int
  | 0 => peekF
  | 1 => ureadF
  | 2 => uwriteF
  | 3 => uarriveF
  | 4 => utickF
  | 5 => gpeekF
  | 6 => gwriteF
  | 7 => tpeekF
  | 8 => twriteF
  | 9 => ttickF
  | 10 => ipeekF
  | 11 => iwriteF
  | 12 => ireqF
  | _ => pinsF
def blTbl : List Ent := [⟨24, peekI, peekO, 0⟩, ⟨59, peekI, peekO, 0⟩, ⟨21, readI, readO, 1⟩, ⟨56, readI, readO, 1⟩, ⟨22, writeI, writeO, 2⟩, ⟨60, writeI, writeO, 2⟩, ⟨20, arriveI, arriveO, 3⟩, ⟨57, arriveI, arriveO, 3⟩, ⟨23, tickI, tickO, 4⟩, ⟨58, tickI, tickO, 4⟩,
  ⟨86, [g3, .one (.i .i64)], [.one (.i .i32)], 5⟩, ⟨104, [g3, .one (.i .i64)], [.one (.i .i32)], 5⟩, ⟨132, [g3, .one (.i .i64), .one (.i .i32)], [g3], 6⟩, ⟨89, [g3, .one (.i .i64), .one (.i .i32)], [g3], 6⟩,
  ⟨100, [t3, .one (.i .i64)], [.one (.i .i32)], 7⟩, ⟨105, [t3, .one (.i .i64)], [.one (.i .i32)], 7⟩, ⟨137, [t3, .one (.i .i64), .one (.i .i32)], [t3], 8⟩, ⟨90, [t3, .one (.i .i64), .one (.i .i32)], [t3], 8⟩, ⟨64, [t3], [t3, .one .b], 9⟩, ⟨95, [t3], [t3, .one .b], 9⟩,
  ⟨18, [c2, .one (.i .i64)], [.one (.i .i32)], 10⟩, ⟨106, [c2, .one (.i .i64)], [.one (.i .i32)], 10⟩, ⟨15, [c2, .one (.i .i64), .one (.i .i32)], [c2], 11⟩, ⟨91, [c2, .one (.i .i64), .one (.i .i32)], [c2], 11⟩, ⟨14, [c2, .one (.i .u8)], [c2], 12⟩, ⟨103, [c2, .one (.i .u8)], [c2], 12⟩,
  ⟨66, [g3, .one (.i .u8)], [g3, .one .b], 13⟩, ⟨93, [g3, .one (.i .u8)], [g3, .one .b], 13⟩]
def blTru : List Ent := [⟨29, [], [.one .b], 0⟩]
def blC : List AVal := [.symi .u8 2, .symi .u8 3, .symi .u8 4, .symi .i64 5, .symi .u8 6, .symi .u8 7, .symi .u8 8, .symi .u8 9, .symi .u8 10, .symi .u8 11, .symi .u8 12, .symi .u8 13, .symi .i64 14, .symi .u8 15, .symi .u8 16, .symi .u8 17, .symi .u8 18, .symi .u8 19, .symi .u8 20, .symi .u8 21, .symi .u8 22, .symb 23, .symi .u8 24, .symi .u8 25, .symi .u16 26, .symi .u16 27, .symi .u16 28, .symi .u16 29, .symi .u16 30, .symi .u16 31, .symi .u8 32, .symi .u8 33]
def blS0 : Shape := ⟨argT 0 [.row 0], []⟩
def blS1 : Shape := ⟨[(0, .row 0), (3, .ptr 0 0), (4, .ptr 1 0), (5, .symi .i64 0)], [.cells blC 68, .cells blC 89]⟩
def blS2 : Shape := ⟨[], []⟩
def blSE : Shape := ⟨[(2, .symb 0)], []⟩
def blK : List (Option IntKind) := [some .i64, some .i64] ++ b32c.map kindC
theorem bl_tru : ∀ e, e ∈ blTru → FnOk Try.prog e.f e.ins [.one .b] (fun _ => [1]) := by
  intro e he
  simp only [blTru, List.mem_singleton] at he
  subst he
  exact works_contract
theorem bl_all : ∀ e, e ∈ blTbl → (cellsOf e.outs).length ≤ 64 ∧ FnOk Try.prog e.f e.ins e.outs (blFs e.id) := by
  intro e he
  simp only [blTbl, List.mem_cons, List.not_mem_nil, or_false] at he
  rcases he with rfl | rfl | rfl | rfl | rfl | rfl | rfl | rfl | rfl | rfl | rfl | rfl | rfl | rfl | rfl | rfl | rfl | rfl | rfl | rfl | rfl | rfl | rfl | rfl | rfl | rfl | rfl | rfl
  · exact ⟨by decide, upeek_contract⟩
  · exact ⟨by decide, rpeek_contract⟩
  · exact ⟨by decide, uread_contract0⟩
  · exact ⟨by decide, uread_contract1⟩
  · exact ⟨by decide, uwrite_contract0⟩
  · exact ⟨by decide, uwrite_contract1⟩
  · exact ⟨by decide, uarrive_contract0⟩
  · exact ⟨by decide, uarrive_contract1⟩
  · exact ⟨by decide, utick_contract0⟩
  · exact ⟨by decide, utick_contract1⟩
  · exact ⟨by decide, gpeek_contract0⟩
  · exact ⟨by decide, gpeek_contract1⟩
  · exact ⟨by decide, gwrite_contract0⟩
  · exact ⟨by decide, gwrite_contract1⟩
  · exact ⟨by decide, tpeek_contract0⟩
  · exact ⟨by decide, tpeek_contract1⟩
  · exact ⟨by decide, twrite_contract0⟩
  · exact ⟨by decide, twrite_contract1⟩
  · exact ⟨by decide, ttick_contract0⟩
  · exact ⟨by decide, ttick_contract1⟩
  · exact ⟨by decide, ipeek_contract0⟩
  · exact ⟨by decide, ipeek_contract1⟩
  · exact ⟨by decide, iwrite_contract0⟩
  · exact ⟨by decide, iwrite_contract1⟩
  · exact ⟨by decide, ireq_contract0⟩
  · exact ⟨by decide, ireq_contract1⟩
  · exact ⟨by decide, pins_contract0⟩
  · exact ⟨by decide, pins_contract1⟩

def blL0 : List AVal := [.symi .i64 3, .symi .u8 4, .symi .u8 5, .symi .u8 6, .symi .u8 7, .symi .u8 8, .symi .u8 9, .symi .u8 10, .symi .u8 11, .symi .i64 12, .symi .u8 13, .symi .u8 14, .symi .u8 15, .symi .u8 16, .symi .u8 17, .symi .u8 18, .symi .u8 19, .symi .u8 20, .symb 21, .symi .u8 22, .symi .u8 23, .int .i64 3]
def blL1 : List AVal := [.symi .i64 3, .symi .u8 4, .symi .u8 5, .symi .u8 6, .symi .u8 7, .symi .u8 8, .symi .u8 9, .symi .u8 10, .symi .u8 11, .symi .i64 12, .symi .u8 13, .symi .u8 14, .symi .u8 15, .symi .u8 16, .symi .u8 17, .symi .u8 18, .symi .u8 19, .symi .u8 20, .symb 21, .symi .u8 22, .symi .u8 23, .int .i64 4]
def blL2 : List AVal := [.symi .i64 3, .symi .u8 4, .symi .u8 5, .symi .u8 6, .symi .u8 7, .symi .u8 8, .symi .u8 9, .symi .u8 10, .symi .u8 11, .symi .i64 12, .symi .u8 13, .symi .u8 14, .symi .u8 15, .symi .u8 16, .symi .u8 17, .symi .u8 18, .symi .u8 19, .symi .u8 20, .symb 21, .symi .u8 22, .symi .u8 23, .int .i64 5]
set_option maxRecDepth 100000 in
def balG : List SDef := [.fn 320 .i32 [.symi .u8 0, .symi .u8 1, .symi .u8 2, .int .i64 0],
  .fn 320 .i32 [.symi .u8 0, .symi .u8 1, .symi .u8 2, .int .i64 1],
  .fn 320 .i32 [.symi .u8 0, .symi .u8 1, .symi .u8 2, .int .i64 2],
  .fn 0 .i32 blL0,
  .fn 0 .i32 blL1,
  .fn 0 .i32 blL2,
  .fn 448 .i32 [.symi .u16 24, .symi .u16 25, .symi .u16 26, .int .i64 0],
  .fn 448 .i32 [.symi .u16 24, .symi .u16 25, .symi .u16 26, .int .i64 1],
  .fn 448 .i32 [.symi .u16 24, .symi .u16 25, .symi .u16 26, .int .i64 2],
  .fn 448 .i32 [.symi .u16 27, .symi .u16 28, .symi .u16 29, .int .i64 0],
  .fn 448 .i32 [.symi .u16 27, .symi .u16 28, .symi .u16 29, .int .i64 1],
  .fn 448 .i32 [.symi .u16 27, .symi .u16 28, .symi .u16 29, .int .i64 2],
  .fn 640 .i32 [.symi .u8 30, .symi .u8 31, .int .i64 12],
  .fn 640 .i32 [.symi .u8 30, .symi .u8 31, .int .i64 13],
  .fn 640 .i32 [.symi .u8 30, .symi .u8 31, .int .i64 14]]

def balT : LT := .n (.n (.n (.n (.e) 17665405 40 (.fn 448 .i32 [.symi .u16 24, .symi .u16 25, .symi .u16 26, .int .i64 2]) (.e)) 418500631 32 (.fn 320 .i32 [.symi .u8 0, .symi .u8 1, .symi .u8 2, .int .i64 0]) (.n (.e) 438013736 33 (.fn 320 .i32 [.symi .u8 0, .symi .u8 1, .symi .u8 2, .int .i64 1]) (.e))) 452445467 37 (.fn 0 .i32 blL2) (.n (.n (.e) 457526841 34 (.fn 320 .i32 [.symi .u8 0, .symi .u8 1, .symi .u8 2, .int .i64 2]) (.e)) 460526741 41 (.fn 448 .i32 [.symi .u16 27, .symi .u16 28, .symi .u16 29, .int .i64 0]) (.n (.e) 480039846 42 (.fn 448 .i32 [.symi .u16 27, .symi .u16 28, .symi .u16 29, .int .i64 1]) (.e)))) 499552951 43 (.fn 448 .i32 [.symi .u16 27, .symi .u16 28, .symi .u16 29, .int .i64 2]) (.n (.n (.n (.e) 641669931 36 (.fn 0 .i32 blL1) (.e)) 830894395 35 (.fn 0 .i32 blL0) (.n (.e) 983992338 44 (.fn 640 .i32 [.symi .u8 30, .symi .u8 31, .int .i64 12]) (.e))) 984621793 45 (.fn 640 .i32 [.symi .u8 30, .symi .u8 31, .int .i64 13]) (.n (.n (.e) 985251248 46 (.fn 640 .i32 [.symi .u8 30, .symi .u8 31, .int .i64 14]) (.e)) 1052381022 38 (.fn 448 .i32 [.symi .u16 24, .symi .u16 25, .symi .u16 26, .int .i64 0]) (.n (.e) 1071894127 39 (.fn 448 .i32 [.symi .u16 24, .symi .u16 25, .symi .u16 26, .int .i64 1]) (.e))))

def balKd : KdT := .n (.n (.n (.n (.n (.n .e (some .u8) .e) (some .u8) .e) (some .u8) (.n (.n .e (some .i32) .e) (some .u8) .e)) (some .i64) (.n (.n (.n .e (some .i32) .e) (some .u8) .e) (some .u8) (.n (.n .e (some .i32) .e) (some .u16) .e))) (some .u8) (.n (.n (.n (.n .e (some .i32) .e) (some .u8) .e) (some .u8) (.n (.n .e (some .i32) .e) (some .u16) .e)) (some .u8) (.n (.n (.n .e (some .i32) .e) none .e) (some .u8) (.n (.n .e (some .i32) .e) (some .u16) .e)))) (some .u8) (.n (.n (.n (.n (.n .e (some .i32) .e) (some .u8) .e) (some .u8) (.n (.n .e (some .i32) .e) (some .u16) .e)) (some .u8) (.n (.n (.n .e (some .i32) .e) (some .u8) .e) (some .i64) (.n (.n .e (some .i32) .e) (some .u16) .e))) (some .u8) (.n (.n (.n (.n .e (some .i32) .e) (some .u8) .e) (some .u8) (.n (.n .e (some .i32) .e) (some .u16) .e)) (some .u8) (.n (.n (.n .e (some .i32) .e) (some .u8) .e) (some .u8) (.n (.n .e (some .i32) .e) (some .u8) .e))))
def balX : Ing := { kb := 47, kt := balKd, m := 32, ins := (cellsOf [.agg b32c]).map kindC, G := balG, T := balT, hook := tblHook (tabOf blFs) blTbl, tab := tabOf blFs }
theorem bal_ok : okG balG 32 = true := by kernel_rfl
theorem bal_lt : okLT 32 balG balT = true := by kernel_rfl
theorem bal_run : okW (fun F => (evD Try.prog (cxOf balX) true 1001 40).1 F 39 (symSh [.agg b32c] 0 ++ symSh [.agg b32c] 0) ⟨[], []⟩) (.run (.leaf (.bool true))) [] = true := by kernel_rfl
theorem alike_dup : DupOk Try.prog 39 b32c := dup_of_run (X := balX) mixed ⟨rfl, rfl, rfl, rfl, rfl⟩ bal_ok bal_lt (fun F => tbl_hooks bal_lt rfl rfl bl_all F) bal_run (hkt := by kernel_rfl)

/-! ### The ways -/

/-- the cells behind an act: some are new (place, how many, the first's number) -/
def ovI : List (Nat × Nat × Nat) → Nat → Nat
  | [], p => p + 2
  | (a, n, f) :: r, p => bif Nat.ble a p && Nat.blt p (a + n) then f + (p - a) else ovI r p
def cellsAt (ov : List (Nat × Nat × Nat)) : List Cl → Nat → List AVal
  | [], _ => []
  | c :: r, p => symC c (ovI ov p) :: cellsAt ov r (p + 1)
def asgAt : List AVal → Nat → Asg
  | [], _ => []
  | a :: r, i => (i, a) :: asgAt r (i + 1)
set_option maxRecDepth 100000 in
def blAG : List SDef := []

def blAT : LT := .e

set_option maxRecDepth 100000 in
def blAW : Sw := .run (.leaf .normal blS1 [(0, 0), (1, 0)] [(0, .int .i64 0), (2, .int .u8 0), (3, .int .u8 0), (4, .int .u8 0), (5, .int .i64 0), (6, .int .u8 0), (7, .int .u8 0), (8, .int .u8 0), (9, .int .u8 0), (10, .int .u8 0), (11, .int .u8 0), (12, .int .u8 0), (13, .int .u8 0), (14, .int .i64 0), (15, .int .u8 0), (16, .int .u8 0), (17, .int .u8 0), (18, .int .u8 0), (19, .int .u8 0), (20, .int .u8 0), (21, .int .u8 0), (22, .int .u8 0), (23, .bool false), (24, .int .u8 0), (25, .int .u8 0), (26, .int .u16 0), (27, .int .u16 0), (28, .int .u16 0), (29, .int .u16 0), (30, .int .u16 0), (31, .int .u16 0), (32, .int .u8 0), (33, .int .u8 0), (2, .int .u8 0), (3, .int .u8 0), (4, .int .u8 0), (5, .int .i64 0), (6, .int .u8 0), (7, .int .u8 0), (8, .int .u8 0), (9, .int .u8 0), (10, .int .u8 0), (11, .int .u8 0), (12, .int .u8 0), (13, .int .u8 0), (14, .int .i64 0), (15, .int .u8 0), (16, .int .u8 0), (17, .int .u8 0), (18, .int .u8 0), (19, .int .u8 0), (20, .int .u8 0), (21, .int .u8 0), (22, .int .u8 0), (23, .bool false), (24, .int .u8 0), (25, .int .u8 0), (26, .int .u16 0), (27, .int .u16 0), (28, .int .u16 0), (29, .int .u16 0), (30, .int .u16 0), (31, .int .u16 0), (32, .int .u8 0), (33, .int .u8 0)] [(1, .symi .i64 0)])
def blAKd : KdT := .n .e (some .i64) .e
def blL3 : List AVal := [.symi .u8 2, .symi .u8 3, .symi .u8 4, .int .i64 0, .symi .i32 36]
def blL4 : List AVal := [.symi .u8 2, .symi .u8 3, .symi .u8 4, .int .i64 1, .symi .i32 36]
def blL5 : List AVal := [.symi .u8 2, .symi .u8 3, .symi .u8 4, .int .i64 2, .symi .i32 36]
def blL6 : List AVal := [.symi .i64 5, .symi .u8 6, .symi .u8 7, .symi .u8 8, .symi .u8 9, .symi .u8 10, .symi .u8 11, .symi .u8 12, .symi .u8 13, .symi .i64 14, .symi .u8 15, .symi .u8 16, .symi .u8 17, .symi .u8 18, .symi .u8 19, .symi .u8 20, .symi .u8 21, .symi .u8 22, .symb 23, .symi .u8 24, .symi .u8 25, .int .i64 3, .symi .i32 36]
def blL7 : List AVal := [.symi .i64 5, .symi .u8 6, .symi .u8 7, .symi .u8 8, .symi .u8 9, .symi .u8 10, .symi .u8 11, .symi .u8 12, .symi .u8 13, .symi .i64 14, .symi .u8 15, .symi .u8 16, .symi .u8 17, .symi .u8 18, .symi .u8 19, .symi .u8 20, .symi .u8 21, .symi .u8 22, .symb 23, .symi .u8 24, .symi .u8 25, .int .i64 4, .symi .i32 36]
def blL8 : List AVal := [.symi .i64 5, .symi .u8 6, .symi .u8 7, .symi .u8 8, .symi .u8 9, .symi .u8 10, .symi .u8 11, .symi .u8 12, .symi .u8 13, .symi .i64 14, .symi .u8 15, .symi .u8 16, .symi .u8 17, .symi .u8 18, .symi .u8 19, .symi .u8 20, .symi .u8 21, .symi .u8 22, .symb 23, .symi .u8 24, .symi .u8 25, .int .i64 5, .symi .i32 36]
def blL9 : List AVal := [.symi .u16 26, .symi .u16 27, .symi .u16 28, .int .i64 0, .symi .i32 36]
def blL10 : List AVal := [.symi .u16 26, .symi .u16 27, .symi .u16 28, .int .i64 1, .symi .i32 36]
def blL11 : List AVal := [.symi .u16 26, .symi .u16 27, .symi .u16 28, .int .i64 2, .symi .i32 36]
def blL12 : List AVal := [.symi .u16 29, .symi .u16 30, .symi .u16 31, .int .i64 0, .symi .i32 36]
def blL13 : List AVal := [.symi .u16 29, .symi .u16 30, .symi .u16 31, .int .i64 1, .symi .i32 36]
def blL14 : List AVal := [.symi .u16 29, .symi .u16 30, .symi .u16 31, .int .i64 2, .symi .i32 36]
def blL15 : List AVal := [.symi .i64 5, .symi .u8 6, .symi .u8 7, .symi .u8 8, .symi .u8 9, .symi .u8 10, .symi .u8 11, .symi .u8 12, .symi .u8 13, .symi .i64 14, .symi .u8 15, .symi .u8 16, .symi .u8 17, .symi .u8 18, .symi .u8 19, .symi .u8 20, .symi .u8 21, .symi .u8 22, .symb 23, .symi .u8 24, .symi .u8 25, .int .i64 3]
def blL16 : List AVal := [.symi .i64 5, .symi .u8 6, .symi .u8 7, .symi .u8 8, .symi .u8 9, .symi .u8 10, .symi .u8 11, .symi .u8 12, .symi .u8 13, .symi .i64 14, .symi .u8 15, .symi .u8 16, .symi .u8 17, .symi .u8 18, .symi .u8 19, .symi .u8 20, .symi .u8 21, .symi .u8 22, .symb 23, .symi .u8 24, .symi .u8 25, .int .i64 4]
def blL17 : List AVal := [.symi .i64 5, .symi .u8 6, .symi .u8 7, .symi .u8 8, .symi .u8 9, .symi .u8 10, .symi .u8 11, .symi .u8 12, .symi .u8 13, .symi .i64 14, .symi .u8 15, .symi .u8 16, .symi .u8 17, .symi .u8 18, .symi .u8 19, .symi .u8 20, .symi .u8 21, .symi .u8 22, .symb 23, .symi .u8 24, .symi .u8 25, .int .i64 5]
def blL18 : List AVal := [.symi .i64 5, .symi .u8 6, .symi .u8 7, .symi .u8 8, .symi .u8 9, .symi .u8 10, .symi .u8 11, .symi .u8 12, .symi .u8 13, .symi .i64 14, .symi .u8 15, .symi .u8 16, .symi .u8 17, .symi .u8 18, .symi .u8 19, .symi .u8 20, .symi .u8 21, .symi .u8 22, .symb 23, .symi .u8 24, .symi .u8 25, .symi .u8 310]
def blL19 : List AVal := [.symi .i64 5, .symi .u8 6, .symi .u8 7, .symi .u8 8, .symi .u8 9, .symi .u8 10, .symi .u8 11, .symi .u8 12, .symi .u8 13, .symi .i64 14, .symi .u8 15, .symi .u8 16, .symi .u8 17, .symi .u8 18, .symi .u8 19, .symi .u8 20, .symi .u8 21, .symi .u8 22, .symb 23, .symi .u8 24, .symi .u8 25]
set_option maxRecDepth 100000 in
def blBG : List SDef := [.bin .lss (.symi .i64 0) (.symi .i64 1),
  .bin .lss (.symi .i64 0) (.int .i64 150),
  .bin .leq (.int .i64 0) (.symi .i64 0),
  .bin .rem (.symi .u8 34) (.int .u8 12),
  .bin .lss (.symi .u8 40) (.int .u8 4),
  .bin .lss (.symi .u8 40) (.int .u8 6),
  .bin .eql (.symi .u8 40) (.int .u8 6),
  .bin .eql (.symi .u8 40) (.int .u8 7),
  .conv .i64 (.symi .i8 35),
  .bin .geq (.symi .i64 45) (.int .i64 0),
  .bin .quo (.symi .i64 45) (.int .i64 3),
  .bin .eql (.symi .i64 47) (.int .i64 0),
  .bin .eql (.symi .i64 47) (.int .i64 1),
  .bin .eql (.symi .i64 47) (.int .i64 2),
  .bin .eql (.symi .i64 47) (.int .i64 3),
  .bin .eql (.symi .i64 47) (.int .i64 4),
  .bin .leq (.symi .i64 45) (.int .i64 2),
  .bin .geq (.symi .i64 45) (.int .i64 3),
  .bin .leq (.symi .i64 45) (.int .i64 5),
  .bin .geq (.symi .i64 45) (.int .i64 6),
  .bin .leq (.symi .i64 45) (.int .i64 11),
  .bin .geq (.symi .i64 45) (.int .i64 12),
  .bin .leq (.symi .i64 45) (.int .i64 14),
  .fn 384 .u8 blL3,
  .fn 385 .u8 blL3,
  .fn 386 .u8 blL3,
  .bin .add (.symi .i64 0) (.int .i64 1),
  .fn 384 .u8 blL4,
  .fn 385 .u8 blL4,
  .fn 386 .u8 blL4,
  .fn 384 .u8 blL5,
  .fn 385 .u8 blL5,
  .fn 386 .u8 blL5,
  .fn 128 .i64 blL6,
  .fn 129 .u8 blL6,
  .fn 130 .u8 blL6,
  .fn 131 .u8 blL6,
  .fn 132 .u8 blL6,
  .fn 133 .u8 blL6,
  .fn 134 .u8 blL6,
  .fn 135 .u8 blL6,
  .fn 136 .u8 blL6,
  .fn 137 .i64 blL6,
  .fn 138 .u8 blL6,
  .fn 139 .u8 blL6,
  .fn 140 .u8 blL6,
  .fn 141 .u8 blL6,
  .fn 142 .u8 blL6,
  .fn 143 .u8 blL6,
  .fn 144 .u8 blL6,
  .fn 145 .u8 blL6,
  .fnb 146 blL6,
  .fn 147 .u8 blL6,
  .fn 148 .u8 blL6,
  .fn 128 .i64 blL7,
  .fn 129 .u8 blL7,
  .fn 130 .u8 blL7,
  .fn 131 .u8 blL7,
  .fn 132 .u8 blL7,
  .fn 133 .u8 blL7,
  .fn 134 .u8 blL7,
  .fn 135 .u8 blL7,
  .fn 136 .u8 blL7,
  .fn 137 .i64 blL7,
  .fn 138 .u8 blL7,
  .fn 139 .u8 blL7,
  .fn 140 .u8 blL7,
  .fn 141 .u8 blL7,
  .fn 142 .u8 blL7,
  .fn 143 .u8 blL7,
  .fn 144 .u8 blL7,
  .fn 145 .u8 blL7,
  .fnb 146 blL7,
  .fn 147 .u8 blL7,
  .fn 148 .u8 blL7,
  .fn 128 .i64 blL8,
  .fn 129 .u8 blL8,
  .fn 130 .u8 blL8,
  .fn 131 .u8 blL8,
  .fn 132 .u8 blL8,
  .fn 133 .u8 blL8,
  .fn 134 .u8 blL8,
  .fn 135 .u8 blL8,
  .fn 136 .u8 blL8,
  .fn 137 .i64 blL8,
  .fn 138 .u8 blL8,
  .fn 139 .u8 blL8,
  .fn 140 .u8 blL8,
  .fn 141 .u8 blL8,
  .fn 142 .u8 blL8,
  .fn 143 .u8 blL8,
  .fn 144 .u8 blL8,
  .fn 145 .u8 blL8,
  .fnb 146 blL8,
  .fn 147 .u8 blL8,
  .fn 148 .u8 blL8,
  .fn 512 .u16 blL9,
  .fn 513 .u16 blL9,
  .fn 514 .u16 blL9,
  .fn 512 .u16 blL10,
  .fn 513 .u16 blL10,
  .fn 514 .u16 blL10,
  .fn 512 .u16 blL11,
  .fn 513 .u16 blL11,
  .fn 514 .u16 blL11,
  .fn 512 .u16 blL12,
  .fn 513 .u16 blL12,
  .fn 514 .u16 blL12,
  .fn 512 .u16 blL13,
  .fn 513 .u16 blL13,
  .fn 514 .u16 blL13,
  .fn 512 .u16 blL14,
  .fn 513 .u16 blL14,
  .fn 514 .u16 blL14,
  .fn 704 .u8 [.symi .u8 32, .symi .u8 33, .int .i64 12, .symi .i32 36],
  .fn 705 .u8 [.symi .u8 32, .symi .u8 33, .int .i64 12, .symi .i32 36],
  .fn 704 .u8 [.symi .u8 32, .symi .u8 33, .int .i64 13, .symi .i32 36],
  .fn 705 .u8 [.symi .u8 32, .symi .u8 33, .int .i64 13, .symi .i32 36],
  .fn 704 .u8 [.symi .u8 32, .symi .u8 33, .int .i64 14, .symi .i32 36],
  .fn 705 .u8 [.symi .u8 32, .symi .u8 33, .int .i64 14, .symi .i32 36],
  .fn 320 .i32 [.symi .u8 2, .symi .u8 3, .symi .u8 4, .int .i64 0],
  .fn 320 .i32 [.symi .u8 2, .symi .u8 3, .symi .u8 4, .int .i64 1],
  .fn 320 .i32 [.symi .u8 2, .symi .u8 3, .symi .u8 4, .int .i64 2],
  .fn 64 .i32 blL15,
  .fn 65 .i64 blL15,
  .fn 66 .u8 blL15,
  .fn 67 .u8 blL15,
  .fn 68 .u8 blL15,
  .fn 69 .u8 blL15,
  .fn 70 .u8 blL15,
  .fn 71 .u8 blL15,
  .fn 72 .u8 blL15,
  .fn 73 .u8 blL15,
  .fn 74 .i64 blL15,
  .fn 75 .u8 blL15,
  .fn 76 .u8 blL15,
  .fn 77 .u8 blL15,
  .fn 78 .u8 blL15,
  .fn 79 .u8 blL15,
  .fn 80 .u8 blL15,
  .fn 81 .u8 blL15,
  .fn 82 .u8 blL15,
  .fnb 83 blL15,
  .fn 84 .u8 blL15,
  .fn 85 .u8 blL15,
  .fn 0 .i32 blL15,
  .bin .neq (.symi .i32 160) (.symi .i32 182),
  .un .not (.symb 183),
  .ite (.symb 183) (.symi .i64 5) (.symi .i64 161),
  .ite (.symb 183) (.symi .u8 6) (.symi .u8 162),
  .ite (.symb 183) (.symi .u8 7) (.symi .u8 163),
  .ite (.symb 183) (.symi .u8 8) (.symi .u8 164),
  .ite (.symb 183) (.symi .u8 9) (.symi .u8 165),
  .ite (.symb 183) (.symi .u8 10) (.symi .u8 166),
  .ite (.symb 183) (.symi .u8 11) (.symi .u8 167),
  .ite (.symb 183) (.symi .u8 12) (.symi .u8 168),
  .ite (.symb 183) (.symi .u8 13) (.symi .u8 169),
  .ite (.symb 183) (.symi .i64 14) (.symi .i64 170),
  .ite (.symb 183) (.symi .u8 15) (.symi .u8 171),
  .ite (.symb 183) (.symi .u8 16) (.symi .u8 172),
  .ite (.symb 183) (.symi .u8 17) (.symi .u8 173),
  .ite (.symb 183) (.symi .u8 18) (.symi .u8 174),
  .ite (.symb 183) (.symi .u8 19) (.symi .u8 175),
  .ite (.symb 183) (.symi .u8 20) (.symi .u8 176),
  .ite (.symb 183) (.symi .u8 21) (.symi .u8 177),
  .ite (.symb 183) (.symi .u8 22) (.symi .u8 178),
  .ite (.symb 183) (.symb 23) (.symb 179),
  .ite (.symb 183) (.symi .u8 24) (.symi .u8 180),
  .ite (.symb 183) (.symi .u8 25) (.symi .u8 181),
  .un .not (.symb 184),
  .fn 64 .i32 blL16,
  .fn 65 .i64 blL16,
  .fn 66 .u8 blL16,
  .fn 67 .u8 blL16,
  .fn 68 .u8 blL16,
  .fn 69 .u8 blL16,
  .fn 70 .u8 blL16,
  .fn 71 .u8 blL16,
  .fn 72 .u8 blL16,
  .fn 73 .u8 blL16,
  .fn 74 .i64 blL16,
  .fn 75 .u8 blL16,
  .fn 76 .u8 blL16,
  .fn 77 .u8 blL16,
  .fn 78 .u8 blL16,
  .fn 79 .u8 blL16,
  .fn 80 .u8 blL16,
  .fn 81 .u8 blL16,
  .fn 82 .u8 blL16,
  .fnb 83 blL16,
  .fn 84 .u8 blL16,
  .fn 85 .u8 blL16,
  .fn 0 .i32 blL16,
  .bin .neq (.symi .i32 207) (.symi .i32 229),
  .un .not (.symb 230),
  .ite (.symb 230) (.symi .i64 5) (.symi .i64 208),
  .ite (.symb 230) (.symi .u8 6) (.symi .u8 209),
  .ite (.symb 230) (.symi .u8 7) (.symi .u8 210),
  .ite (.symb 230) (.symi .u8 8) (.symi .u8 211),
  .ite (.symb 230) (.symi .u8 9) (.symi .u8 212),
  .ite (.symb 230) (.symi .u8 10) (.symi .u8 213),
  .ite (.symb 230) (.symi .u8 11) (.symi .u8 214),
  .ite (.symb 230) (.symi .u8 12) (.symi .u8 215),
  .ite (.symb 230) (.symi .u8 13) (.symi .u8 216),
  .ite (.symb 230) (.symi .i64 14) (.symi .i64 217),
  .ite (.symb 230) (.symi .u8 15) (.symi .u8 218),
  .ite (.symb 230) (.symi .u8 16) (.symi .u8 219),
  .ite (.symb 230) (.symi .u8 17) (.symi .u8 220),
  .ite (.symb 230) (.symi .u8 18) (.symi .u8 221),
  .ite (.symb 230) (.symi .u8 19) (.symi .u8 222),
  .ite (.symb 230) (.symi .u8 20) (.symi .u8 223),
  .ite (.symb 230) (.symi .u8 21) (.symi .u8 224),
  .ite (.symb 230) (.symi .u8 22) (.symi .u8 225),
  .ite (.symb 230) (.symb 23) (.symb 226),
  .ite (.symb 230) (.symi .u8 24) (.symi .u8 227),
  .ite (.symb 230) (.symi .u8 25) (.symi .u8 228),
  .un .not (.symb 231),
  .fn 64 .i32 blL17,
  .fn 65 .i64 blL17,
  .fn 66 .u8 blL17,
  .fn 67 .u8 blL17,
  .fn 68 .u8 blL17,
  .fn 69 .u8 blL17,
  .fn 70 .u8 blL17,
  .fn 71 .u8 blL17,
  .fn 72 .u8 blL17,
  .fn 73 .u8 blL17,
  .fn 74 .i64 blL17,
  .fn 75 .u8 blL17,
  .fn 76 .u8 blL17,
  .fn 77 .u8 blL17,
  .fn 78 .u8 blL17,
  .fn 79 .u8 blL17,
  .fn 80 .u8 blL17,
  .fn 81 .u8 blL17,
  .fn 82 .u8 blL17,
  .fnb 83 blL17,
  .fn 84 .u8 blL17,
  .fn 85 .u8 blL17,
  .fn 0 .i32 blL17,
  .bin .neq (.symi .i32 254) (.symi .i32 276),
  .un .not (.symb 277),
  .ite (.symb 277) (.symi .i64 5) (.symi .i64 255),
  .ite (.symb 277) (.symi .u8 6) (.symi .u8 256),
  .ite (.symb 277) (.symi .u8 7) (.symi .u8 257),
  .ite (.symb 277) (.symi .u8 8) (.symi .u8 258),
  .ite (.symb 277) (.symi .u8 9) (.symi .u8 259),
  .ite (.symb 277) (.symi .u8 10) (.symi .u8 260),
  .ite (.symb 277) (.symi .u8 11) (.symi .u8 261),
  .ite (.symb 277) (.symi .u8 12) (.symi .u8 262),
  .ite (.symb 277) (.symi .u8 13) (.symi .u8 263),
  .ite (.symb 277) (.symi .i64 14) (.symi .i64 264),
  .ite (.symb 277) (.symi .u8 15) (.symi .u8 265),
  .ite (.symb 277) (.symi .u8 16) (.symi .u8 266),
  .ite (.symb 277) (.symi .u8 17) (.symi .u8 267),
  .ite (.symb 277) (.symi .u8 18) (.symi .u8 268),
  .ite (.symb 277) (.symi .u8 19) (.symi .u8 269),
  .ite (.symb 277) (.symi .u8 20) (.symi .u8 270),
  .ite (.symb 277) (.symi .u8 21) (.symi .u8 271),
  .ite (.symb 277) (.symi .u8 22) (.symi .u8 272),
  .ite (.symb 277) (.symb 23) (.symb 273),
  .ite (.symb 277) (.symi .u8 24) (.symi .u8 274),
  .ite (.symb 277) (.symi .u8 25) (.symi .u8 275),
  .un .not (.symb 278),
  .fn 448 .i32 [.symi .u16 26, .symi .u16 27, .symi .u16 28, .int .i64 0],
  .fn 448 .i32 [.symi .u16 26, .symi .u16 27, .symi .u16 28, .int .i64 1],
  .fn 448 .i32 [.symi .u16 26, .symi .u16 27, .symi .u16 28, .int .i64 2],
  .fn 448 .i32 [.symi .u16 29, .symi .u16 30, .symi .u16 31, .int .i64 0],
  .fn 448 .i32 [.symi .u16 29, .symi .u16 30, .symi .u16 31, .int .i64 1],
  .fn 448 .i32 [.symi .u16 29, .symi .u16 30, .symi .u16 31, .int .i64 2],
  .fn 640 .i32 [.symi .u8 32, .symi .u8 33, .int .i64 12],
  .fn 640 .i32 [.symi .u8 32, .symi .u8 33, .int .i64 13],
  .fn 640 .i32 [.symi .u8 32, .symi .u8 33, .int .i64 14],
  .conv .u8 (.symi .i32 36),
  .fn 832 .u8 [.symi .u8 2, .symi .u8 3, .symi .u8 4, .symi .u8 310],
  .fn 833 .u8 [.symi .u8 2, .symi .u8 3, .symi .u8 4, .symi .u8 310],
  .fn 834 .u8 [.symi .u8 2, .symi .u8 3, .symi .u8 4, .symi .u8 310],
  .fnb 835 [.symi .u8 2, .symi .u8 3, .symi .u8 4, .symi .u8 310],
  .fn 768 .u8 [.symi .u8 32, .symi .u8 33, .int .u8 1],
  .fn 769 .u8 [.symi .u8 32, .symi .u8 33, .int .u8 1],
  .ite (.symb 314) (.symi .u8 315) (.symi .u8 32),
  .ite (.symb 314) (.symi .u8 316) (.symi .u8 33),
  .fn 192 .i64 blL18,
  .fn 193 .u8 blL18,
  .fn 194 .u8 blL18,
  .fn 195 .u8 blL18,
  .fn 196 .u8 blL18,
  .fn 197 .u8 blL18,
  .fn 198 .u8 blL18,
  .fn 199 .u8 blL18,
  .fn 200 .u8 blL18,
  .fn 201 .i64 blL18,
  .fn 202 .u8 blL18,
  .fn 203 .u8 blL18,
  .fn 204 .u8 blL18,
  .fn 205 .u8 blL18,
  .fn 206 .u8 blL18,
  .fn 207 .u8 blL18,
  .fn 208 .u8 blL18,
  .fn 209 .u8 blL18,
  .fnb 210 blL18,
  .fn 211 .u8 blL18,
  .fn 212 .u8 blL18,
  .fnb 213 blL18,
  .fn 768 .u8 [.symi .u8 32, .symi .u8 33, .int .u8 2],
  .fn 769 .u8 [.symi .u8 32, .symi .u8 33, .int .u8 2],
  .ite (.symb 340) (.symi .u8 341) (.symi .u8 32),
  .ite (.symb 340) (.symi .u8 342) (.symi .u8 33),
  .fn 576 .u16 [.symi .u16 26, .symi .u16 27, .symi .u16 28],
  .fn 577 .u16 [.symi .u16 26, .symi .u16 27, .symi .u16 28],
  .fn 578 .u16 [.symi .u16 26, .symi .u16 27, .symi .u16 28],
  .fnb 579 [.symi .u16 26, .symi .u16 27, .symi .u16 28],
  .fn 768 .u8 [.symi .u8 32, .symi .u8 33, .int .u8 8],
  .fn 769 .u8 [.symi .u8 32, .symi .u8 33, .int .u8 8],
  .ite (.symb 348) (.symi .u8 349) (.symi .u8 32),
  .ite (.symb 348) (.symi .u8 350) (.symi .u8 33),
  .fn 576 .u16 [.symi .u16 29, .symi .u16 30, .symi .u16 31],
  .fn 577 .u16 [.symi .u16 29, .symi .u16 30, .symi .u16 31],
  .fn 578 .u16 [.symi .u16 29, .symi .u16 30, .symi .u16 31],
  .fnb 579 [.symi .u16 29, .symi .u16 30, .symi .u16 31],
  .fn 768 .u8 [.symi .u8 351, .symi .u8 352, .int .u8 16],
  .fn 769 .u8 [.symi .u8 351, .symi .u8 352, .int .u8 16],
  .ite (.symb 356) (.symi .u8 357) (.symi .u8 351),
  .ite (.symb 356) (.symi .u8 358) (.symi .u8 352),
  .fn 256 .i64 blL19,
  .fn 257 .u8 blL19,
  .fn 258 .u8 blL19,
  .fn 259 .u8 blL19,
  .fn 260 .u8 blL19,
  .fn 261 .u8 blL19,
  .fn 262 .u8 blL19,
  .fn 263 .u8 blL19,
  .fn 264 .u8 blL19,
  .fn 265 .i64 blL19,
  .fn 266 .u8 blL19,
  .fn 267 .u8 blL19,
  .fn 268 .u8 blL19,
  .fn 269 .u8 blL19,
  .fn 270 .u8 blL19,
  .fn 271 .u8 blL19,
  .fn 272 .u8 blL19,
  .fn 273 .u8 blL19,
  .fnb 274 blL19,
  .fn 275 .u8 blL19,
  .fn 276 .u8 blL19,
  .fn 277 .u8 blL19,
  .fnb 278 blL19,
  .fnb 279 blL19,
  .fn 768 .u8 [.symi .u8 359, .symi .u8 360, .int .u8 4],
  .fn 769 .u8 [.symi .u8 359, .symi .u8 360, .int .u8 4],
  .ite (.symb 384) (.symi .u8 385) (.symi .u8 359),
  .ite (.symb 384) (.symi .u8 386) (.symi .u8 360)]

def blBT : LT := .n (.n (.n (.n (.n (.n (.n (.n (.n (.e) 30227 39 (.bin .leq (.int .i64 0) (.symi .i64 0)) (.e)) 60352 63 (.bin .add (.symi .i64 0) (.int .i64 1)) (.e)) 2545777 299 (.ite (.symb 277) (.symi .u8 25) (.symi .u8 275)) (.n (.n (.e) 7515658 38 (.bin .lss (.symi .i64 0) (.int .i64 150)) (.e)) 28050654 185 (.ite (.symb 183) (.symi .i64 5) (.symi .i64 161)) (.e))) 30951748 251 (.ite (.symb 230) (.symi .u8 24) (.symi .u8 227)) (.n (.n (.n (.e) 46258478 70 (.fn 128 .i64 blL6) (.e)) 46258521 71 (.fn 129 .u8 blL6) (.e)) 46258564 72 (.fn 130 .u8 blL6) (.n (.n (.e) 46258607 73 (.fn 131 .u8 blL6) (.e)) 46258650 74 (.fn 132 .u8 blL6) (.e)))) 46258693 75 (.fn 133 .u8 blL6) (.n (.n (.n (.n (.e) 46258736 76 (.fn 134 .u8 blL6) (.e)) 46258779 77 (.fn 135 .u8 blL6) (.e)) 46258822 78 (.fn 136 .u8 blL6) (.n (.n (.e) 46258865 79 (.fn 137 .i64 blL6) (.e)) 46258908 80 (.fn 138 .u8 blL6) (.e))) 46258951 81 (.fn 139 .u8 blL6) (.n (.n (.n (.e) 46258994 82 (.fn 140 .u8 blL6) (.e)) 46259037 83 (.fn 141 .u8 blL6) (.e)) 46259080 84 (.fn 142 .u8 blL6) (.n (.e) 46259123 85 (.fn 143 .u8 blL6) (.e))))) 46259166 86 (.fn 144 .u8 blL6) (.n (.n (.n (.n (.n (.e) 46259209 87 (.fn 145 .u8 blL6) (.e)) 46259295 89 (.fn 147 .u8 blL6) (.e)) 46259338 90 (.fn 148 .u8 blL6) (.n (.n (.e) 50023131 292 (.ite (.symb 277) (.symi .u8 18) (.symi .u8 268)) (.e)) 60272599 203 (.ite (.symb 183) (.symb 23) (.symb 179)) (.e))) 60636465 278 (.un .not (.symb 277)) (.n (.n (.n (.e) 78429102 244 (.ite (.symb 230) (.symi .u8 17) (.symi .u8 220)) (.e)) 96927755 60 (.fn 384 .u8 blL3) (.e)) 96927798 61 (.fn 385 .u8 blL3) (.n (.e) 96927841 62 (.fn 386 .u8 blL3) (.e)))) 97500485 285 (.ite (.symb 277) (.symi .u8 11) (.symi .u8 261)) (.n (.n (.n (.n (.e) 106835073 196 (.ite (.symb 183) (.symi .u8 16) (.symi .u8 172)) (.e)) 116440860 64 (.fn 384 .u8 blL4) (.e)) 116440903 65 (.fn 385 .u8 blL4) (.n (.n (.e) 116440946 66 (.fn 386 .u8 blL4) (.e)) 123513945 344 (.ite (.symb 340) (.symi .u8 342) (.symi .u8 33)) (.e))) 125906456 237 (.ite (.symb 230) (.symi .u8 10) (.symi .u8 213)) (.n (.n (.n (.e) 135953965 67 (.fn 384 .u8 blL5) (.e)) 135954008 68 (.fn 385 .u8 blL5) (.e)) 135954051 69 (.fn 386 .u8 blL5) (.n (.e) 138953865 142 (.fn 512 .u16 blL12) (.e)))))) 138953908 143 (.fn 513 .u16 blL12) (.n (.n (.n (.n (.n (.n (.e) 138953951 144 (.fn 514 .u16 blL12) (.e)) 150301500 357 (.fn 768 .u8 [.symi .u8 351, .symi .u8 352, .int .u8 16]) (.e)) 150301543 358 (.fn 769 .u8 [.symi .u8 351, .symi .u8 352, .int .u8 16]) (.n (.n (.e) 151575850 318 (.ite (.symb 314) (.symi .u8 316) (.symi .u8 33)) (.e)) 154312427 189 (.ite (.symb 183) (.symi .u8 9) (.symi .u8 165)) (.e))) 158466970 145 (.fn 512 .u16 blL13) (.n (.n (.n (.e) 158467013 146 (.fn 513 .u16 blL13) (.e)) 158467056 147 (.fn 514 .u16 blL13) (.e)) 160610281 277 (.bin .neq (.symi .i32 254) (.symi .i32 276)) (.n (.e) 161639798 300 (.un .not (.symb 278)) (.e)))) 176284904 296 (.ite (.symb 277) (.symi .u8 22) (.symi .u8 272)) (.n (.n (.n (.n (.e) 177980075 148 (.fn 512 .u16 blL14) (.e)) 177980118 149 (.fn 513 .u16 blL14) (.e)) 177980161 150 (.fn 514 .u16 blL14) (.n (.n (.e) 178921812 345 (.fn 576 .u16 [.symi .u16 26, .symi .u16 27, .symi .u16 28]) (.e)) 178921855 346 (.fn 577 .u16 [.symi .u16 26, .symi .u16 27, .symi .u16 28]) (.e))) 178921898 347 (.fn 578 .u16 [.symi .u16 26, .symi .u16 27, .symi .u16 28]) (.n (.n (.n (.e) 204690875 248 (.ite (.symb 230) (.symi .u8 21) (.symi .u8 224)) (.e)) 213395586 40 (.bin .rem (.symi .u8 34) (.int .u8 12)) (.e)) 223762258 289 (.ite (.symb 277) (.symi .u8 15) (.symi .u8 265)) (.n (.e) 229999606 184 (.un .not (.symb 183)) (.e))))) 233096846 200 (.ite (.symb 183) (.symi .u8 20) (.symi .u8 176)) (.n (.n (.n (.n (.n (.e) 250056756 46 (.bin .geq (.symi .i64 45) (.int .i64 0)) (.e)) 250156812 53 (.bin .leq (.symi .i64 45) (.int .i64 2)) (.e)) 250206770 47 (.bin .quo (.symi .i64 45) (.int .i64 3)) (.n (.n (.e) 250206861 54 (.bin .geq (.symi .i64 45) (.int .i64 3)) (.e)) 250306917 55 (.bin .leq (.symi .i64 45) (.int .i64 5)) (.e))) 250356966 56 (.bin .geq (.symi .i64 45) (.int .i64 6)) (.n (.n (.n (.e) 250607127 57 (.bin .leq (.symi .i64 45) (.int .i64 11)) (.e)) 250657176 58 (.bin .geq (.symi .i64 45) (.int .i64 12)) (.e)) 250757232 59 (.bin .leq (.symi .i64 45) (.int .i64 14)) (.n (.e) 252168229 241 (.ite (.symb 230) (.symi .i64 14) (.symi .i64 217)) (.e)))) 267276720 183 (.bin .neq (.symi .i32 160) (.symi .i32 182)) (.n (.n (.n (.n (.e) 271239612 282 (.ite (.symb 277) (.symi .u8 8) (.symi .u8 258)) (.e)) 280070563 352 (.ite (.symb 348) (.symi .u8 350) (.symi .u8 33)) (.e)) 280574200 193 (.ite (.symb 183) (.symi .u8 13) (.symi .u8 169)) (.n (.n (.e) 287389473 360 (.ite (.symb 356) (.symi .u8 358) (.symi .u8 352)) (.e)) 299645583 234 (.ite (.symb 230) (.symi .u8 7) (.symi .u8 210)) (.e))) 299897559 301 (.fn 448 .i32 [.symi .u16 26, .symi .u16 27, .symi .u16 28, .int .i64 0]) (.n (.n (.n (.e) 319410664 302 (.fn 448 .i32 [.symi .u16 26, .symi .u16 27, .symi .u16 28, .int .i64 1]) (.e)) 328051554 186 (.ite (.symb 183) (.symi .u8 6) (.symi .u8 162)) (.e)) 330952648 252 (.ite (.symb 230) (.symi .u8 25) (.symi .u8 228)) (.n (.e) 331002939 206 (.un .not (.symb 184)) (.e))))))) 338923769 303 (.fn 448 .i32 [.symi .u16 26, .symi .u16 27, .symi .u16 28, .int .i64 2]) (.n (.n (.n (.n (.n (.n (.n (.e) 343105039 319 (.fn 192 .i64 blL18) (.e)) 343105082 320 (.fn 193 .u8 blL18) (.e)) 343105125 321 (.fn 194 .u8 blL18) (.n (.n (.e) 343105168 322 (.fn 195 .u8 blL18) (.e)) 343105211 323 (.fn 196 .u8 blL18) (.e))) 343105254 324 (.fn 197 .u8 blL18) (.n (.n (.n (.e) 343105297 325 (.fn 198 .u8 blL18) (.e)) 343105340 326 (.fn 199 .u8 blL18) (.e)) 343105383 327 (.fn 200 .u8 blL18) (.n (.e) 343105426 328 (.fn 201 .i64 blL18) (.e)))) 343105469 329 (.fn 202 .u8 blL18) (.n (.n (.n (.n (.e) 343105512 330 (.fn 203 .u8 blL18) (.e)) 343105555 331 (.fn 204 .u8 blL18) (.e)) 343105598 332 (.fn 205 .u8 blL18) (.n (.n (.e) 343105641 333 (.fn 206 .u8 blL18) (.e)) 343105684 334 (.fn 207 .u8 blL18) (.e))) 343105727 335 (.fn 208 .u8 blL18) (.n (.n (.n (.e) 343105770 336 (.fn 209 .u8 blL18) (.e)) 343105856 338 (.fn 211 .u8 blL18) (.e)) 343105899 339 (.fn 212 .u8 blL18) (.n (.e) 343384000 37 (.bin .lss (.symi .i64 0) (.symi .i64 1)) (.e))))) 350024031 293 (.ite (.symb 277) (.symi .u8 19) (.symi .u8 269)) (.n (.n (.n (.n (.n (.e) 359358619 204 (.ite (.symb 183) (.symi .u8 24) (.symi .u8 180)) (.e)) 375641056 348 (.fnb 579 [.symi .u16 26, .symi .u16 27, .symi .u16 28]) (.e)) 378430002 245 (.ite (.symb 230) (.symi .u8 18) (.symi .u8 221)) (.n (.n (.e) 383785666 45 (.conv .i64 (.symi .i8 35)) (.e)) 392852011 385 (.fn 768 .u8 [.symi .u8 359, .symi .u8 360, .int .u8 4]) (.e))) 392852054 386 (.fn 769 .u8 [.symi .u8 359, .symi .u8 360, .int .u8 4]) (.n (.n (.n (.e) 397501385 286 (.ite (.symb 277) (.symi .u8 12) (.symi .u8 262)) (.e)) 406835973 197 (.ite (.symb 183) (.symi .u8 17) (.symi .u8 173)) (.e)) 414998881 276 (.fn 0 .i32 blL17) (.n (.e) 415001633 254 (.fn 64 .i32 blL17) (.e)))) 415001676 255 (.fn 65 .i64 blL17) (.n (.n (.n (.n (.e) 415001719 256 (.fn 66 .u8 blL17) (.e)) 415001762 257 (.fn 67 .u8 blL17) (.e)) 415001805 258 (.fn 68 .u8 blL17) (.n (.n (.e) 415001848 259 (.fn 69 .u8 blL17) (.e)) 415001891 260 (.fn 70 .u8 blL17) (.e))) 415001934 261 (.fn 71 .u8 blL17) (.n (.n (.n (.e) 415001977 262 (.fn 72 .u8 blL17) (.e)) 415002020 263 (.fn 73 .u8 blL17) (.e)) 415002063 264 (.fn 74 .i64 blL17) (.n (.e) 415002106 265 (.fn 75 .u8 blL17) (.e)))))) 415002149 266 (.fn 76 .u8 blL17) (.n (.n (.n (.n (.n (.n (.e) 415002192 267 (.fn 77 .u8 blL17) (.e)) 415002235 268 (.fn 78 .u8 blL17) (.e)) 415002278 269 (.fn 79 .u8 blL17) (.n (.n (.e) 415002321 270 (.fn 80 .u8 blL17) (.e)) 415002364 271 (.fn 81 .u8 blL17) (.e))) 415002407 272 (.fn 82 .u8 blL17) (.n (.n (.n (.e) 415002493 274 (.fn 84 .u8 blL17) (.e)) 415002536 275 (.fn 85 .u8 blL17) (.e)) 417221791 88 (.fnb 146 blL6) (.n (.e) 425907356 238 (.ite (.symb 230) (.symi .u8 11) (.symi .u8 214)) (.e)))) 444978739 279 (.ite (.symb 277) (.symi .i64 5) (.symi .i64 255)) (.n (.n (.n (.n (.e) 452057327 48 (.bin .eql (.symi .i64 47) (.int .i64 0)) (.e)) 452107362 49 (.bin .eql (.symi .i64 47) (.int .i64 1)) (.e)) 452157397 50 (.bin .eql (.symi .i64 47) (.int .i64 2)) (.n (.n (.e) 452207432 51 (.bin .eql (.symi .i64 47) (.int .i64 3)) (.e)) 452257467 52 (.bin .eql (.symi .i64 47) (.int .i64 4)) (.e))) 454313327 190 (.ite (.symb 183) (.symi .u8 10) (.symi .u8 166)) (.n (.n (.n (.e) 477626504 297 (.ite (.symb 277) (.symb 23) (.symb 273)) (.e)) 477971165 356 (.fnb 579 [.symi .u16 29, .symi .u16 30, .symi .u16 31]) (.e)) 486785975 310 (.conv .u8 (.symi .i32 36)) (.n (.e) 504691775 249 (.ite (.symb 230) (.symi .u8 22) (.symi .u8 225)) (.e))))) 523763158 290 (.ite (.symb 277) (.symi .u8 16) (.symi .u8 266)) (.n (.n (.n (.n (.n (.e) 533097746 201 (.ite (.symb 183) (.symi .u8 21) (.symi .u8 177)) (.e)) 551112254 179 (.fnb 83 blL15) (.e)) 552169129 242 (.ite (.symb 230) (.symi .u8 15) (.symi .u8 218)) (.n (.n (.e) 555387160 109 (.fnb 146 blL7) (.e)) 571240512 283 (.ite (.symb 277) (.symi .u8 9) (.symi .u8 259)) (.e))) 580575100 194 (.ite (.symb 183) (.symi .i64 14) (.symi .i64 170)) (.n (.n (.n (.e) 599646483 235 (.ite (.symb 230) (.symi .u8 8) (.symi .u8 211)) (.e)) 604223345 229 (.fn 0 .i32 blL16) (.e)) 604226097 207 (.fn 64 .i32 blL16) (.n (.e) 604226140 208 (.fn 65 .i64 blL16) (.e)))) 604226183 209 (.fn 66 .u8 blL16) (.n (.n (.n (.n (.e) 604226226 210 (.fn 67 .u8 blL16) (.e)) 604226269 211 (.fn 68 .u8 blL16) (.e)) 604226312 212 (.fn 69 .u8 blL16) (.n (.n (.e) 604226355 213 (.fn 70 .u8 blL16) (.e)) 604226398 214 (.fn 71 .u8 blL16) (.e))) 604226441 215 (.fn 72 .u8 blL16) (.n (.n (.n (.e) 604226484 216 (.fn 73 .u8 blL16) (.e)) 604226527 217 (.fn 74 .i64 blL16) (.e)) 604226570 218 (.fn 75 .u8 blL16) (.n (.e) 604226613 219 (.fn 76 .u8 blL16) (.e)))))))) 604226656 220 (.fn 77 .u8 blL16) (.n (.n (.n (.n (.n (.n (.n (.n (.e) 604226699 221 (.fn 78 .u8 blL16) (.e)) 604226742 222 (.fn 79 .u8 blL16) (.e)) 604226785 223 (.fn 80 .u8 blL16) (.n (.n (.e) 604226828 224 (.fn 81 .u8 blL16) (.e)) 604226871 225 (.fn 82 .u8 blL16) (.e))) 604226957 227 (.fn 84 .u8 blL16) (.n (.n (.n (.e) 604227000 228 (.fn 85 .u8 blL16) (.e)) 628052454 187 (.ite (.symb 183) (.symi .u8 7) (.symi .u8 163)) (.e)) 650024931 294 (.ite (.symb 277) (.symi .u8 20) (.symi .u8 270)) (.n (.e) 659359519 205 (.ite (.symb 183) (.symi .u8 25) (.symi .u8 181)) (.e)))) 660809358 353 (.fn 576 .u16 [.symi .u16 29, .symi .u16 30, .symi .u16 31]) (.n (.n (.n (.n (.e) 660809401 354 (.fn 577 .u16 [.symi .u16 29, .symi .u16 30, .symi .u16 31]) (.e)) 660809444 355 (.fn 578 .u16 [.symi .u16 29, .symi .u16 30, .symi .u16 31]) (.e)) 669598533 387 (.ite (.symb 384) (.symi .u8 385) (.symi .u8 359)) (.n (.n (.e) 678430902 246 (.ite (.symb 230) (.symi .u8 19) (.symi .u8 222)) (.e)) 682188949 231 (.un .not (.symb 230)) (.e))) 689277623 226 (.fnb 83 blL16) (.n (.n (.n (.e) 693552529 130 (.fnb 146 blL8) (.e)) 697502285 287 (.ite (.symb 277) (.symi .u8 13) (.symi .u8 263)) (.e)) 706836873 198 (.ite (.symb 183) (.symi .u8 18) (.symi .u8 174)) (.n (.e) 725908256 239 (.ite (.symb 230) (.symi .u8 12) (.symi .u8 215)) (.e))))) 730808146 133 (.fn 512 .u16 blL9) (.n (.n (.n (.n (.n (.e) 730808189 134 (.fn 513 .u16 blL9) (.e)) 730808232 135 (.fn 514 .u16 blL9) (.e)) 739758995 157 (.fn 320 .i32 [.symi .u8 2, .symi .u8 3, .symi .u8 4, .int .i64 0]) (.n (.n (.e) 741551377 112 (.fn 128 .i64 blL8) (.e)) 741551420 113 (.fn 129 .u8 blL8) (.e))) 741551463 114 (.fn 130 .u8 blL8) (.n (.n (.n (.e) 741551506 115 (.fn 131 .u8 blL8) (.e)) 741551549 116 (.fn 132 .u8 blL8) (.e)) 741551592 117 (.fn 133 .u8 blL8) (.n (.e) 741551635 118 (.fn 134 .u8 blL8) (.e)))) 741551678 119 (.fn 135 .u8 blL8) (.n (.n (.n (.n (.e) 741551721 120 (.fn 136 .u8 blL8) (.e)) 741551764 121 (.fn 137 .i64 blL8) (.e)) 741551807 122 (.fn 138 .u8 blL8) (.n (.n (.e) 741551850 123 (.fn 139 .u8 blL8) (.e)) 741551893 124 (.fn 140 .u8 blL8) (.e))) 741551936 125 (.fn 141 .u8 blL8) (.n (.n (.n (.e) 741551979 126 (.fn 142 .u8 blL8) (.e)) 741552022 127 (.fn 143 .u8 blL8) (.e)) 741552065 128 (.fn 144 .u8 blL8) (.n (.e) 741552108 129 (.fn 145 .u8 blL8) (.e)))))) 741552194 131 (.fn 147 .u8 blL8) (.n (.n (.n (.n (.n (.n (.e) 741552237 132 (.fn 148 .u8 blL8) (.e)) 744979639 280 (.ite (.symb 277) (.symi .u8 6) (.symi .u8 256)) (.e)) 750321251 136 (.fn 512 .u16 blL10) (.n (.n (.e) 750321294 137 (.fn 513 .u16 blL10) (.e)) 750321337 138 (.fn 514 .u16 blL10) (.e))) 750814414 230 (.bin .neq (.symi .i32 207) (.symi .i32 229)) (.n (.n (.n (.e) 754314227 191 (.ite (.symb 183) (.symi .u8 11) (.symi .u8 167)) (.e)) 755393955 314 (.fnb 835 [.symi .u8 2, .symi .u8 3, .symi .u8 4, .symi .u8 310]) (.e)) 759272100 158 (.fn 320 .i32 [.symi .u8 2, .symi .u8 3, .symi .u8 4, .int .i64 1]) (.n (.e) 769834356 139 (.fn 512 .u16 blL11) (.e)))) 769834399 140 (.fn 513 .u16 blL11) (.n (.n (.n (.n (.e) 769834442 141 (.fn 514 .u16 blL11) (.e)) 771164373 315 (.fn 768 .u8 [.symi .u8 32, .symi .u8 33, .int .u8 1]) (.e)) 771164416 316 (.fn 769 .u8 [.symi .u8 32, .symi .u8 33, .int .u8 1]) (.n (.n (.e) 771793828 341 (.fn 768 .u8 [.symi .u8 32, .symi .u8 33, .int .u8 2]) (.e)) 771793871 342 (.fn 769 .u8 [.symi .u8 32, .symi .u8 33, .int .u8 2]) (.e))) 773385610 232 (.ite (.symb 230) (.symi .i64 5) (.symi .i64 208)) (.n (.n (.n (.e) 775570558 349 (.fn 768 .u8 [.symi .u8 32, .symi .u8 33, .int .u8 8]) (.e)) 775570601 350 (.fn 769 .u8 [.symi .u8 32, .symi .u8 33, .int .u8 8]) (.e)) 776286704 298 (.ite (.symb 277) (.symi .u8 24) (.symi .u8 274)) (.n (.e) 778082874 307 (.fn 640 .i32 [.symi .u8 32, .symi .u8 33, .int .i64 12]) (.e))))) 778712329 308 (.fn 640 .i32 [.symi .u8 32, .symi .u8 33, .int .i64 13]) (.n (.n (.n (.n (.n (.e) 778785205 159 (.fn 320 .i32 [.symi .u8 2, .symi .u8 3, .symi .u8 4, .int .i64 2]) (.e)) 779341784 309 (.fn 640 .i32 [.symi .u8 32, .symi .u8 33, .int .i64 14]) (.e)) 781785105 304 (.fn 448 .i32 [.symi .u16 29, .symi .u16 30, .symi .u16 31, .int .i64 0]) (.n (.n (.e) 783192282 253 (.un .not (.symb 231)) (.e)) 783239540 379 (.fnb 274 blL19) (.e))) 783239752 383 (.fnb 278 blL19) (.n (.n (.n (.e) 783239805 384 (.fnb 279 blL19) (.e)) 793447809 182 (.fn 0 .i32 blL15) (.e)) 793450561 160 (.fn 64 .i32 blL15) (.n (.e) 793450604 161 (.fn 65 .i64 blL15) (.e)))) 793450647 162 (.fn 66 .u8 blL15) (.n (.n (.n (.n (.e) 793450690 163 (.fn 67 .u8 blL15) (.e)) 793450733 164 (.fn 68 .u8 blL15) (.e)) 793450776 165 (.fn 69 .u8 blL15) (.n (.n (.e) 793450819 166 (.fn 70 .u8 blL15) (.e)) 793450862 167 (.fn 71 .u8 blL15) (.e))) 793450905 168 (.fn 72 .u8 blL15) (.n (.n (.n (.e) 793450948 169 (.fn 73 .u8 blL15) (.e)) 793450991 170 (.fn 74 .i64 blL15) (.e)) 793451034 171 (.fn 75 .u8 blL15) (.n (.e) 793451077 172 (.fn 76 .u8 blL15) (.e))))))) 793451120 173 (.fn 77 .u8 blL15) (.n (.n (.n (.n (.n (.n (.n (.e) 793451163 174 (.fn 78 .u8 blL15) (.e)) 793451206 175 (.fn 79 .u8 blL15) (.e)) 793451249 176 (.fn 80 .u8 blL15) (.n (.n (.e) 793451292 177 (.fn 81 .u8 blL15) (.e)) 793451335 178 (.fn 82 .u8 blL15) (.e))) 793451421 180 (.fn 84 .u8 blL15) (.n (.n (.n (.e) 793451464 181 (.fn 85 .u8 blL15) (.e)) 801298210 305 (.fn 448 .i32 [.symi .u16 29, .symi .u16 30, .symi .u16 31, .int .i64 1]) (.e)) 805820465 250 (.ite (.symb 230) (.symb 23) (.symb 226)) (.n (.e) 818997187 41 (.bin .lss (.symi .u8 40) (.int .u8 4)) (.e)))) 819097243 43 (.bin .eql (.symi .u8 40) (.int .u8 6)) (.n (.n (.n (.n (.e) 819097257 42 (.bin .lss (.symi .u8 40) (.int .u8 6)) (.e)) 819147278 44 (.bin .eql (.symi .u8 40) (.int .u8 7)) (.e)) 820811315 306 (.fn 448 .i32 [.symi .u16 29, .symi .u16 30, .symi .u16 31, .int .i64 2]) (.n (.n (.e) 823764058 291 (.ite (.symb 277) (.symi .u8 17) (.symi .u8 267)) (.e)) 827442992 273 (.fnb 83 blL17) (.e))) 832029900 311 (.fn 832 .u8 [.symi .u8 2, .symi .u8 3, .symi .u8 4, .symi .u8 310]) (.n (.n (.n (.e) 832029943 312 (.fn 833 .u8 [.symi .u8 2, .symi .u8 3, .symi .u8 4, .symi .u8 310]) (.e)) 832029986 313 (.fn 834 .u8 [.symi .u8 2, .symi .u8 3, .symi .u8 4, .symi .u8 310]) (.e)) 833098646 202 (.ite (.symb 183) (.symi .u8 22) (.symi .u8 178)) (.n (.e) 852170029 243 (.ite (.symb 230) (.symi .u8 16) (.symi .u8 219)) (.e))))) 861259545 151 (.fn 704 .u8 [.symi .u8 32, .symi .u8 33, .int .i64 12, .symi .i32 36]) (.n (.n (.n (.n (.n (.e) 861259588 152 (.fn 705 .u8 [.symi .u8 32, .symi .u8 33, .int .i64 12, .symi .i32 36]) (.e)) 861889000 153 (.fn 704 .u8 [.symi .u8 32, .symi .u8 33, .int .i64 13, .symi .i32 36]) (.e)) 861889043 154 (.fn 705 .u8 [.symi .u8 32, .symi .u8 33, .int .i64 13, .symi .i32 36]) (.n (.n (.e) 862518455 155 (.fn 704 .u8 [.symi .u8 32, .symi .u8 33, .int .i64 14, .symi .i32 36]) (.e)) 862518498 156 (.fn 705 .u8 [.symi .u8 32, .symi .u8 33, .int .i64 14, .symi .i32 36]) (.e))) 871241412 284 (.ite (.symb 277) (.symi .u8 10) (.symi .u8 260)) (.n (.n (.n (.e) 880576000 195 (.ite (.symb 183) (.symi .u8 15) (.symi .u8 171)) (.e)) 897254872 343 (.ite (.symb 340) (.symi .u8 341) (.symi .u8 32)) (.e)) 899647383 236 (.ite (.symb 230) (.symi .u8 9) (.symi .u8 212)) (.n (.e) 925316777 317 (.ite (.symb 314) (.symi .u8 315) (.symi .u8 32)) (.e)))) 928053354 188 (.ite (.symb 183) (.symi .u8 8) (.symi .u8 164)) (.n (.n (.n (.n (.e) 930775841 91 (.fn 128 .i64 blL7) (.e)) 930775884 92 (.fn 129 .u8 blL7) (.e)) 930775927 93 (.fn 130 .u8 blL7) (.n (.n (.e) 930775970 94 (.fn 131 .u8 blL7) (.e)) 930776013 95 (.fn 132 .u8 blL7) (.e))) 930776056 96 (.fn 133 .u8 blL7) (.n (.n (.n (.e) 930776099 97 (.fn 134 .u8 blL7) (.e)) 930776142 98 (.fn 135 .u8 blL7) (.e)) 930776185 99 (.fn 136 .u8 blL7) (.n (.e) 930776228 100 (.fn 137 .i64 blL7) (.e)))))) 930776271 101 (.fn 138 .u8 blL7) (.n (.n (.n (.n (.n (.n (.e) 930776314 102 (.fn 139 .u8 blL7) (.e)) 930776357 103 (.fn 140 .u8 blL7) (.e)) 930776400 104 (.fn 141 .u8 blL7) (.n (.n (.e) 930776443 105 (.fn 142 .u8 blL7) (.e)) 930776486 106 (.fn 143 .u8 blL7) (.e))) 930776529 107 (.fn 144 .u8 blL7) (.n (.n (.n (.e) 930776572 108 (.fn 145 .u8 blL7) (.e)) 930776658 110 (.fn 147 .u8 blL7) (.e)) 930776701 111 (.fn 148 .u8 blL7) (.n (.e) 950025831 295 (.ite (.symb 277) (.symi .u8 21) (.symi .u8 271)) (.e)))) 969599433 388 (.ite (.symb 384) (.symi .u8 386) (.symi .u8 360)) (.n (.n (.n (.n (.e) 978431802 247 (.ite (.symb 230) (.symi .u8 20) (.symi .u8 223)) (.e)) 997503185 288 (.ite (.symb 277) (.symi .i64 14) (.symi .i64 264)) (.e)) 1006837773 199 (.ite (.symb 183) (.symi .u8 19) (.symi .u8 175)) (.n (.n (.e) 1025909156 240 (.ite (.symb 230) (.symi .u8 13) (.symi .u8 216)) (.e)) 1031085328 361 (.fn 256 .i64 blL19) (.e))) 1031085371 362 (.fn 257 .u8 blL19) (.n (.n (.n (.e) 1031085414 363 (.fn 258 .u8 blL19) (.e)) 1031085457 364 (.fn 259 .u8 blL19) (.e)) 1031085500 365 (.fn 260 .u8 blL19) (.n (.e) 1031085543 366 (.fn 261 .u8 blL19) (.e))))) 1031085586 367 (.fn 262 .u8 blL19) (.n (.n (.n (.n (.n (.e) 1031085629 368 (.fn 263 .u8 blL19) (.e)) 1031085672 369 (.fn 264 .u8 blL19) (.e)) 1031085715 370 (.fn 265 .i64 blL19) (.n (.n (.e) 1031085758 371 (.fn 266 .u8 blL19) (.e)) 1031085801 372 (.fn 267 .u8 blL19) (.e))) 1031085844 373 (.fn 268 .u8 blL19) (.n (.n (.n (.e) 1031085887 374 (.fn 269 .u8 blL19) (.e)) 1031085930 375 (.fn 270 .u8 blL19) (.e)) 1031085973 376 (.fn 271 .u8 blL19) (.n (.e) 1031086016 377 (.fn 272 .u8 blL19) (.e)))) 1031086059 378 (.fn 273 .u8 blL19) (.n (.n (.n (.n (.e) 1031086145 380 (.fn 275 .u8 blL19) (.e)) 1031086188 381 (.fn 276 .u8 blL19) (.e)) 1031086231 382 (.fn 277 .u8 blL19) (.n (.n (.e) 1044980539 281 (.ite (.symb 277) (.symi .u8 7) (.symi .u8 257)) (.e)) 1047328489 337 (.fnb 210 blL18) (.e))) 1047328648 340 (.fnb 213 blL18) (.n (.n (.n (.e) 1053811490 351 (.ite (.symb 348) (.symi .u8 349) (.symi .u8 32)) (.e)) 1054315127 192 (.ite (.symb 183) (.symi .u8 12) (.symi .u8 168)) (.e)) 1061130400 359 (.ite (.symb 356) (.symi .u8 357) (.symi .u8 351)) (.n (.e) 1073386510 233 (.ite (.symb 230) (.symi .u8 6) (.symi .u8 209)) (.e))))))))

def blBKd : KdT := .n (.n (.n (.n (.n (.n (.n (.n (.n .e (some .i64) .e) (some .u8) (.n .e none .e)) (some .i64) (.n (.n .e (some .i64) .e) (some .u8) .e)) (some .u16) (.n (.n (.n .e (some .u8) .e) (some .i32) .e) (some .u8) (.n (.n .e (some .u8) .e) (some .u8) .e))) (some .u8) (.n (.n (.n (.n .e (some .u8) .e) (some .u16) .e) (some .i64) (.n (.n .e (some .u8) .e) (some .i32) .e)) (some .i64) (.n (.n (.n .e (some .i32) .e) (some .u8) .e) (some .u8) (.n (.n .e (some .u8) .e) (some .u8) .e)))) (some .u8) (.n (.n (.n (.n (.n .e (some .u8) .e) (some .u16) .e) (some .u8) (.n (.n .e (some .u8) .e) (some .u8) .e)) none (.n (.n (.n .e (some .u8) .e) (some .u8) .e) (some .u8) (.n (.n .e (some .u8) .e) none .e))) none (.n (.n (.n (.n .e (some .i64) .e) (some .u8) .e) (some .u8) (.n (.n .e (some .u8) .e) (some .u8) .e)) none (.n (.n (.n .e (some .u8) .e) none .e) (some .u8) (.n (.n .e (some .u8) .e) (some .u8) .e))))) (some .u8) (.n (.n (.n (.n (.n (.n .e (some .u8) .e) (some .u8) (.n .e (some .u8) .e)) (some .u8) (.n (.n .e (some .u8) .e) (some .u8) .e)) (some .i8) (.n (.n (.n .e (some .u8) .e) (some .u8) .e) (some .u8) (.n (.n .e (some .u16) .e) (some .u8) .e))) (some .u8) (.n (.n (.n (.n .e (some .u8) .e) (some .u16) .e) (some .u8) (.n (.n .e (some .u8) .e) (some .u8) .e)) none (.n (.n (.n .e (some .i32) .e) none .e) (some .u8) (.n (.n .e (some .u8) .e) (some .u8) .e)))) (some .u8) (.n (.n (.n (.n (.n .e (some .u8) .e) (some .u16) .e) (some .u8) (.n (.n .e (some .u8) .e) none .e)) none (.n (.n (.n .e (some .u8) .e) (some .u8) .e) (some .u8) (.n (.n .e (some .u8) .e) (some .u8) .e))) (some .u16) (.n (.n (.n (.n .e (some .u8) .e) (some .u8) .e) (some .i64) (.n (.n .e (some .u16) .e) (some .u8) .e)) none (.n (.n (.n .e (some .u8) .e) (some .u8) .e) (some .u8) (.n (.n .e none .e) (some .u8) .e)))))) (some .i64) (.n (.n (.n (.n (.n (.n (.n .e (some .u8) .e) (some .u8) (.n .e (some .u8) .e)) (some .u8) (.n (.n .e (some .u8) .e) (some .u8) .e)) (some .u8) (.n (.n (.n .e (some .u8) .e) (some .i64) .e) (some .u8) (.n (.n .e (some .u16) .e) (some .u8) .e))) (some .u8) (.n (.n (.n (.n .e none .e) (some .u16) .e) (some .u8) (.n (.n .e none .e) (some .u8) .e)) none (.n (.n (.n .e (some .i32) .e) (some .u8) .e) (some .u8) (.n (.n .e (some .u8) .e) (some .i64) .e)))) (some .u8) (.n (.n (.n (.n (.n .e (some .u8) .e) (some .u16) .e) (some .u8) (.n (.n .e (some .u8) .e) (some .u8) .e)) none (.n (.n (.n .e none .e) (some .u8) .e) (some .u8) (.n (.n .e (some .i64) .e) (some .u8) .e))) (some .u8) (.n (.n (.n (.n .e (some .u8) .e) (some .u8) .e) (some .u8) (.n (.n .e (some .u16) .e) (some .i64) .e)) none (.n (.n (.n .e (some .u8) .e) (some .i64) .e) (some .i64) (.n (.n .e (some .u8) .e) (some .u8) .e))))) (some .i64) (.n (.n (.n (.n (.n (.n .e (some .u8) .e) (some .u16) .e) (some .u8) (.n (.n .e (some .u8) .e) (some .u8) .e)) none (.n (.n (.n .e (some .u8) .e) (some .u8) .e) (some .u8) (.n (.n .e (some .u8) .e) (some .i32) .e))) (some .u8) (.n (.n (.n (.n .e none .e) (some .u16) .e) (some .u8) (.n (.n .e (some .u8) .e) (some .u8) .e)) none (.n (.n (.n .e (some .i32) .e) (some .u8) .e) (some .u8) (.n (.n .e (some .u8) .e) (some .u8) .e)))) (some .u8) (.n (.n (.n (.n (.n .e (some .u8) .e) (some .u16) .e) (some .u8) (.n (.n .e (some .u8) .e) (some .u8) .e)) (some .i64) (.n (.n (.n .e (some .i32) .e) (some .u8) .e) none (.n (.n .e (some .u8) .e) (some .u8) .e))) (some .u16) (.n (.n (.n (.n .e (some .u8) .e) (some .i32) .e) (some .u8) (.n (.n .e (some .u8) .e) (some .u8) .e)) (some .u8) (.n (.n (.n .e (some .u8) .e) (some .u8) .e) (some .u8) (.n (.n .e (some .u8) .e) none .e))))))) (some .i64) (.n (.n (.n (.n (.n (.n (.n (.n .e (some .u8) .e) (some .u8) (.n .e none .e)) (some .u8) (.n (.n .e (some .u8) .e) (some .u8) .e)) (some .u8) (.n (.n (.n .e (some .i64) .e) (some .i32) .e) (some .u8) (.n (.n .e (some .u8) .e) (some .u8) .e))) (some .u8) (.n (.n (.n (.n .e (some .u8) .e) (some .u16) .e) (some .u8) (.n (.n .e (some .u8) .e) (some .i64) .e)) none (.n (.n (.n .e (some .i32) .e) (some .u8) .e) (some .i64) (.n (.n .e (some .u8) .e) (some .u8) .e)))) (some .u8) (.n (.n (.n (.n (.n .e (some .i64) .e) (some .u16) .e) (some .u8) (.n (.n .e (some .i64) .e) (some .u8) .e)) (some .u8) (.n (.n (.n .e (some .u8) .e) (some .u8) .e) (some .u8) (.n (.n .e (some .u8) .e) (some .i64) .e))) (some .u8) (.n (.n (.n (.n .e (some .u8) .e) (some .u8) .e) none (.n (.n .e (some .u8) .e) (some .u8) .e)) none (.n (.n (.n .e (some .u8) .e) none .e) (some .u8) (.n (.n .e (some .u8) .e) (some .u8) .e))))) (some .u8) (.n (.n (.n (.n (.n (.n .e (some .u8) .e) (some .u8) (.n .e (some .u8) .e)) (some .u8) (.n (.n .e (some .u8) .e) (some .u8) .e)) (some .i32) (.n (.n (.n .e (some .u8) .e) (some .u8) .e) (some .i64) (.n (.n .e none .e) (some .u8) .e))) (some .u8) (.n (.n (.n (.n .e (some .i32) .e) (some .u16) .e) (some .u8) (.n (.n .e none .e) (some .u8) .e)) none (.n (.n (.n .e (some .i32) .e) (some .u8) .e) (some .u8) (.n (.n .e (some .u8) .e) (some .u8) .e)))) (some .u8) (.n (.n (.n (.n (.n .e (some .u8) .e) (some .u16) .e) (some .u8) (.n (.n .e (some .u8) .e) (some .u8) .e)) none (.n (.n (.n .e none .e) (some .u8) .e) (some .u8) (.n (.n .e (some .u8) .e) (some .u8) .e))) (some .u16) (.n (.n (.n (.n .e (some .u8) .e) (some .u8) .e) (some .u8) (.n (.n .e none .e) (some .u8) .e)) (some .u8) (.n (.n (.n .e (some .u8) .e) (some .u8) .e) (some .u8) (.n (.n .e (some .u8) .e) (some .u8) .e)))))) (some .u8) (.n (.n (.n (.n (.n (.n (.n .e (some .u8) .e) none (.n .e (some .u8) .e)) (some .u8) (.n (.n .e (some .u8) .e) (some .i64) .e)) (some .u8) (.n (.n (.n .e (some .u8) .e) (some .u8) .e) (some .u8) (.n (.n .e (some .u16) .e) none .e))) (some .u8) (.n (.n (.n (.n .e (some .u8) .e) (some .u16) .e) (some .u8) (.n (.n .e (some .u8) .e) (some .u8) .e)) none (.n (.n (.n .e (some .i32) .e) (some .u8) .e) (some .u8) (.n (.n .e (some .i64) .e) (some .u8) .e)))) (some .u8) (.n (.n (.n (.n (.n .e (some .u8) .e) (some .u16) .e) (some .u8) (.n (.n .e (some .u8) .e) (some .u8) .e)) none (.n (.n (.n .e (some .u8) .e) (some .i64) .e) (some .u8) (.n (.n .e (some .u8) .e) (some .u8) .e))) (some .u16) (.n (.n (.n (.n .e (some .u8) .e) (some .u8) .e) (some .u8) (.n (.n .e (some .u16) .e) (some .u8) .e)) none (.n (.n (.n .e none .e) (some .u8) .e) (some .u8) (.n (.n .e (some .u8) .e) none .e))))) (some .u8) (.n (.n (.n (.n (.n (.n .e (some .u8) .e) (some .u16) .e) (some .i64) (.n (.n .e (some .u8) .e) (some .u8) .e)) none (.n (.n (.n .e (some .u8) .e) (some .u8) .e) (some .u8) (.n (.n .e (some .u8) .e) none .e))) (some .u8) (.n (.n (.n (.n .e none .e) (some .u16) .e) (some .u8) (.n (.n .e (some .u8) .e) (some .u8) .e)) none (.n (.n (.n .e (some .u8) .e) (some .i32) .e) (some .u8) (.n (.n .e (some .u8) .e) (some .u8) .e)))) (some .i64) (.n (.n (.n (.n (.n .e (some .u8) .e) (some .u16) .e) (some .u8) (.n (.n .e (some .u8) .e) none .e)) none (.n (.n (.n .e (some .i32) .e) (some .u8) .e) (some .u8) (.n (.n .e (some .u8) .e) (some .u8) .e))) (some .u16) (.n (.n (.n (.n .e (some .u8) .e) (some .i32) .e) (some .u8) (.n (.n .e (some .u8) .e) (some .u8) .e)) (some .u8) (.n (.n (.n .e (some .u8) .e) (some .u8) .e) (some .u8) (.n (.n .e (some .u8) .e) (some .i32) .e)))))))
set_option maxRecDepth 100000 in
def blCG : List SDef := []

def blCT : LT := .e

set_option maxRecDepth 100000 in
def blCW : Sw := .run (.leaf .ret blSE [] [(0, .bool true)] [])
def blCKd : KdT := .e
def blA0 (ov : List (Nat × Nat × Nat)) : Asg := (0, .symi .i64 63) :: (asgAt (cellsAt ov b32c 0) 2 ++ asgAt (cellsAt ov b32c 0) 2)
def blL (ov : List (Nat × Nat × Nat)) : Sv := .leaf .normal blS1 [(0, 0), (1, 0)] (blA0 ov) [(1, .symi .i64 1)]
def blP : List (Int × Sw) → Sw → Sw
  | [], r => r
  | (k, s) :: l, r => .pick 45 k s (blP l r)
def blO : Sw := .node 46 (.node 48 (.dead) (.node 49 (.dead) (.node 50 (.dead) (.node 51 (.dead) (.node 52 (.dead) (.node 53 (.dead) (.node 54 (.node 55 (.dead) (.node 56 (.node 57 (.dead) (.node 58 (.node 59 (.dead) (.run (blL []))) (.dead))) (.dead))) (.dead)))))))) (.node 54 (.dead) (.node 56 (.dead) (.node 58 (.dead) (.run (blL [])))))
def blWl : List (Int × Sw) := [(0, .run (blL [(0, 3, 60)])), (1, .run (blL [(0, 3, 64)])), (2, .run (blL [(0, 3, 67)])), (3, .run (blL [(3, 21, 70)])), (4, .run (blL [(3, 21, 91)])), (5, .run (blL [(3, 21, 112)])), (6, .run (blL [(24, 3, 133)])), (7, .run (blL [(24, 3, 136)])), (8, .run (blL [(24, 3, 139)])), (9, .run (blL [(27, 3, 142)])), (10, .run (blL [(27, 3, 145)])), (11, .run (blL [(27, 3, 148)])), (12, .run (blL [(30, 2, 151)])), (13, .run (blL [(30, 2, 153)])), (14, .run (blL [(30, 2, 155)]))]
def blRl : List (Int × Sw) := [(0, .run (blL [])), (1, .run (blL [])), (2, .run (blL [])), (3, .run (.node 206 (.dead) (blL [(3, 21, 185)]))), (4, .run (.node 253 (.dead) (blL [(3, 21, 232)]))), (5, .run (.node 300 (.dead) (blL [(3, 21, 279)]))), (6, .run (blL [])), (7, .run (blL [])), (8, .run (blL [])), (9, .run (blL [])), (10, .run (blL [])), (11, .run (blL [])), (12, .run (blL [])), (13, .run (blL [])), (14, .run (blL []))]
def blY : Sw := .node 42 (blP blRl blO) (.node 43 (.run (blL [(0, 3, 311), (30, 2, 317)])) (.node 44 (.run (blL [(3, 21, 319), (30, 2, 343)])) (.run (blL [(3, 21, 361), (24, 3, 345), (27, 3, 353), (30, 2, 387)]))))
def blX : Sw := .run (.leaf (.exit 0) blS2 [] [] [])
def blBW : Sw := .node 37 (.node 38 (.node 39 (.node 41 (blP blWl blO) blY) .dead) blX) blX
def blAX : Ing := { kb := 1, kt := blAKd, m := 1, ins := [some .i64], G := blAG, T := blAT, hook := orHook (dupHook 39 b32c) (orHook (trueHook blTru) (tblHook (tabOf blFs) blTbl)), tab := tabOf blFs, rows := [⟨.symi .i64 0, []⟩] }
set_option maxRecDepth 100000 in
theorem blA_ok : okG blAG 1 = true := by kernel_rfl
set_option maxRecDepth 100000 in
theorem blA_lt : okLT 1 blAG blAT = true := by kernel_rfl
def blBX : Ing := { kb := 389, kt := blBKd, m := 37, ins := blK ++ ([.i .u8, .i .i8, .i .i32] : List Cl).map kindC, G := blBG, T := blBT, hook := orHook (dupHook 39 b32c) (orHook (trueHook blTru) (tblHook (tabOf blFs) blTbl)), tab := tabOf blFs, rows := [⟨.symi .i64 1, [(.symi .i64 0, elCells 34 [.i .u8, .i .i8, .i .i32])]⟩] }
set_option maxRecDepth 100000 in
theorem blB_ok : okG blBG 37 = true := by kernel_rfl
set_option maxRecDepth 100000 in
theorem blB_lt : okLT 37 blBG blBT = true := by kernel_rfl
def blCX : Ing := { kb := 0, kt := blCKd, m := 0, ins := [], G := blCG, T := blCT, hook := orHook (dupHook 39 b32c) (orHook (trueHook blTru) (tblHook (tabOf blFs) blTbl)), tab := tabOf blFs, rows := [] }
set_option maxRecDepth 100000 in
theorem blC_ok : okG blCG 0 = true := by kernel_rfl
set_option maxRecDepth 100000 in
theorem blC_lt : okLT 0 blCG blCT = true := by kernel_rfl
set_option maxRecDepth 100000 in
theorem blA_seg : SegOk Try.prog (tabOf blFs) 29 (preOf (bodyOf Try.f10)) blS0 blAX blAW where
  lt := blA_lt
  ok := blA_ok
  hook := fun F => dup_or_hooks blA_lt rfl rfl alike_dup bl_tru bl_all F
  n0 := rfl
  id := by kernel_rfl
  reck := by kernel_rfl
  tab := rfl
  cuts := rfl
  kt := by kernel_rfl
set_option maxRecDepth 100000 in
theorem blC_seg : SegOk Try.prog (tabOf blFs) 29 (postOf (bodyOf Try.f10)) blS2 blCX blCW where
  lt := blC_lt
  ok := blC_ok
  hook := fun F => dup_or_hooks blC_lt rfl rfl alike_dup bl_tru bl_all F
  n0 := rfl
  id := by kernel_rfl
  reck := by kernel_rfl
  tab := rfl
  cuts := rfl
  kt := by kernel_rfl

theorem bl_x7 : okSw (runOf Try.prog blBX ([loopOf (bodyOf Try.f10)]) blS1 29) blX [.tru 37 false] = true := by kernel_rfl
theorem bl_x8 : okSw (runOf Try.prog blBX ([loopOf (bodyOf Try.f10)]) blS1 29) blX [.tru 38 false, .tru 37 true] = true := by kernel_rfl
theorem bl_w : okSw (runOf Try.prog blBX ([loopOf (bodyOf Try.f10)]) blS1 29) (blP blWl blO) [.tru 41 true, .tru 39 true, .tru 38 true, .tru 37 true] = true := by kernel_rfl
theorem bl_y : okSw (runOf Try.prog blBX ([loopOf (bodyOf Try.f10)]) blS1 29) blY [.tru 41 false, .tru 39 true, .tru 38 true, .tru 37 true] = true := by kernel_rfl
theorem blB_reck : okSw (runOf Try.prog blBX ([loopOf (bodyOf Try.f10)]) blS1 29) blBW [] = true := by
  show ((((okSw (runOf Try.prog blBX ([loopOf (bodyOf Try.f10)]) blS1 29) (blP blWl blO) [.tru 41 true, .tru 39 true, .tru 38 true, .tru 37 true] && okSw (runOf Try.prog blBX ([loopOf (bodyOf Try.f10)]) blS1 29) blY [.tru 41 false, .tru 39 true, .tru 38 true, .tru 37 true]) && true) && okSw (runOf Try.prog blBX ([loopOf (bodyOf Try.f10)]) blS1 29) blX [.tru 38 false, .tru 37 true]) && okSw (runOf Try.prog blBX ([loopOf (bodyOf Try.f10)]) blS1 29) blX [.tru 37 false]) = true
  rw [bl_w, bl_y, bl_x8, bl_x7]; rfl
set_option maxRecDepth 100000 in
theorem blB_seg : SegOk Try.prog (tabOf blFs) 29 ([loopOf (bodyOf Try.f10)]) blS1 blBX blBW where
  lt := blB_lt
  ok := blB_ok
  hook := fun F => dup_or_hooks blB_lt rfl rfl alike_dup bl_tru bl_all F
  n0 := rfl
  id := by kernel_rfl
  reck := blB_reck
  tab := rfl
  cuts := rfl
  kt := by kernel_rfl
end Go.Proofs.Ytgifnmiggloclab.bl
