/-
  BankApart is true: the bank behind the acts is any bank (a contract of 'played', by the row); one register is written, or read, with unknown cells.
  No conditions.
-/
import Derived.Test.YtgifnmiggloclabRows
import Derived.WalkKit
import Derived.ProofKit
import Derived.OpenShut
import Derived.Below
import Derived.ChangeSame
import Derived.Test.YtgifnmiggloclabPl
import Derived.Test.YtgifnmiggloclabEwZi
namespace Go.Proofs.Ytgifnmiggloclab.bankApart
open Go.ChangeShapes Go.WideShapes Go.ChangeAt Go.RowKit
open Go.Ev Go.Proofs.Ytgifnmiggloclab.fc Go.Proofs.Ytgifnmiggloclab.uc Go.Proofs.Ytgifnmiggloclab.bd Go.Proofs.Ytgifnmiggloclab.bp Go.Proofs.Ytgifnmiggloclab.pl
set_option linter.unusedVariables false
set_option linter.unusedSimpArgs false

theorem own : ownKnob Try.prog.godebug = none := by kernel_rfl

theorem works_run : isTrue ((evD Try.prog (cxOf noIng) true 1000 40).1 [] 29 [] ⟨[], []⟩) = true := by kernel_rfl
theorem works_contract : FnOk Try.prog 29 [] [.one .b] (fun _ => [1]) := fun l hl w => closed_hook ⟨rfl, rfl, rfl, rfl, rfl, rfl⟩ (hm := fc.mixed) (hh := fun F => no_hooks rfl F) (h := works_run) (w := w)

def kpTru : List Ent := [⟨29, [], [.one .b], 0⟩]
def apSE : Shape := ⟨[(6, .symb 0)], []⟩
def apInK : List (Option IntKind) := [some .i8, some .i32, some .u8, some .u8, some .u8, some .i64, some .u8, some .u8, some .u8, some .u8, some .u8, some .u8, some .u8, some .u8, some .i64, some .u8, some .u8, some .u8, some .u8, some .u8, some .u8, some .u8, some .u8, none, some .u8, some .u8, some .u16, some .u16, some .u16, some .u16, some .u16, some .u16, some .u8, some .u8]
theorem kp_tru : ∀ e, e ∈ kpTru → FnOk Try.prog e.f e.ins [.one .b] (fun _ => [1]) := by
  intro e he
  simp only [kpTru, List.mem_singleton] at he
  subst he
  exact works_contract

def apL0 : List AVal := [.symi .i64 5, .symi .u8 6, .symi .u8 7, .symi .u8 8, .symi .u8 9, .symi .u8 10, .symi .u8 11, .symi .u8 12, .symi .u8 13, .symi .i64 14, .symi .u8 15, .symi .u8 16, .symi .u8 17, .symi .u8 18, .symi .u8 19, .symi .u8 20, .symi .u8 21, .symi .u8 22, .symb 23, .symi .u8 24, .symi .u8 25, .int .i64 3]
def apL1 : List AVal := [.symi .i64 5, .symi .u8 6, .symi .u8 7, .symi .u8 8, .symi .u8 9, .symi .u8 10, .symi .u8 11, .symi .u8 12, .symi .u8 13, .symi .i64 14, .symi .u8 15, .symi .u8 16, .symi .u8 17, .symi .u8 18, .symi .u8 19, .symi .u8 20, .symi .u8 21, .symi .u8 22, .symb 23, .symi .u8 24, .symi .u8 25, .int .i64 4]
def apL2 : List AVal := [.symi .i64 5, .symi .u8 6, .symi .u8 7, .symi .u8 8, .symi .u8 9, .symi .u8 10, .symi .u8 11, .symi .u8 12, .symi .u8 13, .symi .i64 14, .symi .u8 15, .symi .u8 16, .symi .u8 17, .symi .u8 18, .symi .u8 19, .symi .u8 20, .symi .u8 21, .symi .u8 22, .symb 23, .symi .u8 24, .symi .u8 25, .int .i64 5]
def apL3 : List AVal := [.symi .u8 2, .symi .u8 3, .symi .u8 4, .int .i64 0, .symi .i32 1]
def apL4 : List AVal := [.symi .u8 2, .symi .u8 3, .symi .u8 4, .int .i64 1, .symi .i32 1]
def apL5 : List AVal := [.symi .u8 2, .symi .u8 3, .symi .u8 4, .int .i64 2, .symi .i32 1]
def apL6 : List AVal := [.symi .i64 5, .symi .u8 6, .symi .u8 7, .symi .u8 8, .symi .u8 9, .symi .u8 10, .symi .u8 11, .symi .u8 12, .symi .u8 13, .symi .i64 14, .symi .u8 15, .symi .u8 16, .symi .u8 17, .symi .u8 18, .symi .u8 19, .symi .u8 20, .symi .u8 21, .symi .u8 22, .symb 23, .symi .u8 24, .symi .u8 25, .int .i64 3, .symi .i32 1]
def apL7 : List AVal := [.symi .i64 70, .symi .u8 71, .symi .u8 72, .symi .u8 73, .symi .u8 74, .symi .u8 75, .symi .u8 76, .symi .u8 77, .symi .u8 78, .symi .i64 79, .symi .u8 80, .symi .u8 81, .symi .u8 82, .symi .u8 83, .symi .u8 84, .symi .u8 85, .symi .u8 86, .symi .u8 87, .symb 88, .symi .u8 89, .symi .u8 90, .int .i64 3]
def apL8 : List AVal := [.symi .i64 70, .symi .u8 71, .symi .u8 72, .symi .u8 73, .symi .u8 74, .symi .u8 75, .symi .u8 76, .symi .u8 77, .symi .u8 78, .symi .i64 79, .symi .u8 80, .symi .u8 81, .symi .u8 82, .symi .u8 83, .symi .u8 84, .symi .u8 85, .symi .u8 86, .symi .u8 87, .symb 88, .symi .u8 89, .symi .u8 90, .int .i64 4]
def apL9 : List AVal := [.symi .i64 70, .symi .u8 71, .symi .u8 72, .symi .u8 73, .symi .u8 74, .symi .u8 75, .symi .u8 76, .symi .u8 77, .symi .u8 78, .symi .i64 79, .symi .u8 80, .symi .u8 81, .symi .u8 82, .symi .u8 83, .symi .u8 84, .symi .u8 85, .symi .u8 86, .symi .u8 87, .symb 88, .symi .u8 89, .symi .u8 90, .int .i64 5]
def apL10 : List AVal := [.symi .i64 95, .symi .u8 96, .symi .u8 97, .symi .u8 98, .symi .u8 99, .symi .u8 100, .symi .u8 101, .symi .u8 102, .symi .u8 103, .symi .i64 104, .symi .u8 105, .symi .u8 106, .symi .u8 107, .symi .u8 108, .symi .u8 109, .symi .u8 110, .symi .u8 111, .symi .u8 112, .symb 113, .symi .u8 114, .symi .u8 115, .int .i64 3]
def apL11 : List AVal := [.symi .i64 95, .symi .u8 96, .symi .u8 97, .symi .u8 98, .symi .u8 99, .symi .u8 100, .symi .u8 101, .symi .u8 102, .symi .u8 103, .symi .i64 104, .symi .u8 105, .symi .u8 106, .symi .u8 107, .symi .u8 108, .symi .u8 109, .symi .u8 110, .symi .u8 111, .symi .u8 112, .symb 113, .symi .u8 114, .symi .u8 115, .int .i64 4]
def apL12 : List AVal := [.symi .i64 95, .symi .u8 96, .symi .u8 97, .symi .u8 98, .symi .u8 99, .symi .u8 100, .symi .u8 101, .symi .u8 102, .symi .u8 103, .symi .i64 104, .symi .u8 105, .symi .u8 106, .symi .u8 107, .symi .u8 108, .symi .u8 109, .symi .u8 110, .symi .u8 111, .symi .u8 112, .symb 113, .symi .u8 114, .symi .u8 115, .int .i64 5]
def apL13 : List AVal := [.symi .i64 5, .symi .u8 6, .symi .u8 7, .symi .u8 8, .symi .u8 9, .symi .u8 10, .symi .u8 11, .symi .u8 12, .symi .u8 13, .symi .i64 14, .symi .u8 15, .symi .u8 16, .symi .u8 17, .symi .u8 18, .symi .u8 19, .symi .u8 20, .symi .u8 21, .symi .u8 22, .symb 23, .symi .u8 24, .symi .u8 25, .int .i64 4, .symi .i32 1]
def apL14 : List AVal := [.symi .i64 120, .symi .u8 121, .symi .u8 122, .symi .u8 123, .symi .u8 124, .symi .u8 125, .symi .u8 126, .symi .u8 127, .symi .u8 128, .symi .i64 129, .symi .u8 130, .symi .u8 131, .symi .u8 132, .symi .u8 133, .symi .u8 134, .symi .u8 135, .symi .u8 136, .symi .u8 137, .symb 138, .symi .u8 139, .symi .u8 140, .int .i64 3]
def apL15 : List AVal := [.symi .i64 120, .symi .u8 121, .symi .u8 122, .symi .u8 123, .symi .u8 124, .symi .u8 125, .symi .u8 126, .symi .u8 127, .symi .u8 128, .symi .i64 129, .symi .u8 130, .symi .u8 131, .symi .u8 132, .symi .u8 133, .symi .u8 134, .symi .u8 135, .symi .u8 136, .symi .u8 137, .symb 138, .symi .u8 139, .symi .u8 140, .int .i64 4]
def apL16 : List AVal := [.symi .i64 120, .symi .u8 121, .symi .u8 122, .symi .u8 123, .symi .u8 124, .symi .u8 125, .symi .u8 126, .symi .u8 127, .symi .u8 128, .symi .i64 129, .symi .u8 130, .symi .u8 131, .symi .u8 132, .symi .u8 133, .symi .u8 134, .symi .u8 135, .symi .u8 136, .symi .u8 137, .symb 138, .symi .u8 139, .symi .u8 140, .int .i64 5]
def apL17 : List AVal := [.symi .i64 145, .symi .u8 146, .symi .u8 147, .symi .u8 148, .symi .u8 149, .symi .u8 150, .symi .u8 151, .symi .u8 152, .symi .u8 153, .symi .i64 154, .symi .u8 155, .symi .u8 156, .symi .u8 157, .symi .u8 158, .symi .u8 159, .symi .u8 160, .symi .u8 161, .symi .u8 162, .symb 163, .symi .u8 164, .symi .u8 165, .int .i64 3]
def apL18 : List AVal := [.symi .i64 145, .symi .u8 146, .symi .u8 147, .symi .u8 148, .symi .u8 149, .symi .u8 150, .symi .u8 151, .symi .u8 152, .symi .u8 153, .symi .i64 154, .symi .u8 155, .symi .u8 156, .symi .u8 157, .symi .u8 158, .symi .u8 159, .symi .u8 160, .symi .u8 161, .symi .u8 162, .symb 163, .symi .u8 164, .symi .u8 165, .int .i64 4]
def apL19 : List AVal := [.symi .i64 145, .symi .u8 146, .symi .u8 147, .symi .u8 148, .symi .u8 149, .symi .u8 150, .symi .u8 151, .symi .u8 152, .symi .u8 153, .symi .i64 154, .symi .u8 155, .symi .u8 156, .symi .u8 157, .symi .u8 158, .symi .u8 159, .symi .u8 160, .symi .u8 161, .symi .u8 162, .symb 163, .symi .u8 164, .symi .u8 165, .int .i64 5]
def apL20 : List AVal := [.symi .i64 5, .symi .u8 6, .symi .u8 7, .symi .u8 8, .symi .u8 9, .symi .u8 10, .symi .u8 11, .symi .u8 12, .symi .u8 13, .symi .i64 14, .symi .u8 15, .symi .u8 16, .symi .u8 17, .symi .u8 18, .symi .u8 19, .symi .u8 20, .symi .u8 21, .symi .u8 22, .symb 23, .symi .u8 24, .symi .u8 25, .int .i64 5, .symi .i32 1]
def apL21 : List AVal := [.symi .i64 170, .symi .u8 171, .symi .u8 172, .symi .u8 173, .symi .u8 174, .symi .u8 175, .symi .u8 176, .symi .u8 177, .symi .u8 178, .symi .i64 179, .symi .u8 180, .symi .u8 181, .symi .u8 182, .symi .u8 183, .symi .u8 184, .symi .u8 185, .symi .u8 186, .symi .u8 187, .symb 188, .symi .u8 189, .symi .u8 190, .int .i64 3]
def apL22 : List AVal := [.symi .i64 170, .symi .u8 171, .symi .u8 172, .symi .u8 173, .symi .u8 174, .symi .u8 175, .symi .u8 176, .symi .u8 177, .symi .u8 178, .symi .i64 179, .symi .u8 180, .symi .u8 181, .symi .u8 182, .symi .u8 183, .symi .u8 184, .symi .u8 185, .symi .u8 186, .symi .u8 187, .symb 188, .symi .u8 189, .symi .u8 190, .int .i64 4]
def apL23 : List AVal := [.symi .i64 170, .symi .u8 171, .symi .u8 172, .symi .u8 173, .symi .u8 174, .symi .u8 175, .symi .u8 176, .symi .u8 177, .symi .u8 178, .symi .i64 179, .symi .u8 180, .symi .u8 181, .symi .u8 182, .symi .u8 183, .symi .u8 184, .symi .u8 185, .symi .u8 186, .symi .u8 187, .symb 188, .symi .u8 189, .symi .u8 190, .int .i64 5]
def apL24 : List AVal := [.symi .i64 195, .symi .u8 196, .symi .u8 197, .symi .u8 198, .symi .u8 199, .symi .u8 200, .symi .u8 201, .symi .u8 202, .symi .u8 203, .symi .i64 204, .symi .u8 205, .symi .u8 206, .symi .u8 207, .symi .u8 208, .symi .u8 209, .symi .u8 210, .symi .u8 211, .symi .u8 212, .symb 213, .symi .u8 214, .symi .u8 215, .int .i64 3]
def apL25 : List AVal := [.symi .i64 195, .symi .u8 196, .symi .u8 197, .symi .u8 198, .symi .u8 199, .symi .u8 200, .symi .u8 201, .symi .u8 202, .symi .u8 203, .symi .i64 204, .symi .u8 205, .symi .u8 206, .symi .u8 207, .symi .u8 208, .symi .u8 209, .symi .u8 210, .symi .u8 211, .symi .u8 212, .symb 213, .symi .u8 214, .symi .u8 215, .int .i64 4]
def apL26 : List AVal := [.symi .i64 195, .symi .u8 196, .symi .u8 197, .symi .u8 198, .symi .u8 199, .symi .u8 200, .symi .u8 201, .symi .u8 202, .symi .u8 203, .symi .i64 204, .symi .u8 205, .symi .u8 206, .symi .u8 207, .symi .u8 208, .symi .u8 209, .symi .u8 210, .symi .u8 211, .symi .u8 212, .symb 213, .symi .u8 214, .symi .u8 215, .int .i64 5]
def apL27 : List AVal := [.symi .u16 26, .symi .u16 27, .symi .u16 28, .int .i64 0, .symi .i32 1]
def apL28 : List AVal := [.symi .u16 26, .symi .u16 27, .symi .u16 28, .int .i64 1, .symi .i32 1]
def apL29 : List AVal := [.symi .u16 26, .symi .u16 27, .symi .u16 28, .int .i64 2, .symi .i32 1]
def apL30 : List AVal := [.symi .u16 29, .symi .u16 30, .symi .u16 31, .int .i64 0, .symi .i32 1]
def apL31 : List AVal := [.symi .u16 29, .symi .u16 30, .symi .u16 31, .int .i64 1, .symi .i32 1]
def apL32 : List AVal := [.symi .u16 29, .symi .u16 30, .symi .u16 31, .int .i64 2, .symi .i32 1]
def apL33 : List AVal := [.symi .u8 2, .symi .u8 3, .symi .u8 4, .symi .i64 34, .symi .i32 1]
def apL34 : List AVal := [.symi .i64 5, .symi .u8 6, .symi .u8 7, .symi .u8 8, .symi .u8 9, .symi .u8 10, .symi .u8 11, .symi .u8 12, .symi .u8 13, .symi .i64 14, .symi .u8 15, .symi .u8 16, .symi .u8 17, .symi .u8 18, .symi .u8 19, .symi .u8 20, .symi .u8 21, .symi .u8 22, .symb 23, .symi .u8 24, .symi .u8 25, .symi .i64 34, .symi .i32 1]
def apL35 : List AVal := [.symi .u16 26, .symi .u16 27, .symi .u16 28, .symi .i64 290, .symi .i32 1]
def apL36 : List AVal := [.symi .u16 29, .symi .u16 30, .symi .u16 31, .symi .i64 294, .symi .i32 1]
def apL37 : List AVal := [.symi .i64 384, .symi .u8 385, .symi .u8 386, .symi .u8 387, .symi .u8 388, .symi .u8 389, .symi .u8 390, .symi .u8 391, .symi .u8 392, .symi .i64 393, .symi .u8 394, .symi .u8 395, .symi .u8 396, .symi .u8 397, .symi .u8 398, .symi .u8 399, .symi .u8 400, .symi .u8 401, .symb 402, .symi .u8 403, .symi .u8 404, .int .i64 3]
def apL38 : List AVal := [.symi .i64 384, .symi .u8 385, .symi .u8 386, .symi .u8 387, .symi .u8 388, .symi .u8 389, .symi .u8 390, .symi .u8 391, .symi .u8 392, .symi .i64 393, .symi .u8 394, .symi .u8 395, .symi .u8 396, .symi .u8 397, .symi .u8 398, .symi .u8 399, .symi .u8 400, .symi .u8 401, .symb 402, .symi .u8 403, .symi .u8 404, .int .i64 4]
def apL39 : List AVal := [.symi .i64 384, .symi .u8 385, .symi .u8 386, .symi .u8 387, .symi .u8 388, .symi .u8 389, .symi .u8 390, .symi .u8 391, .symi .u8 392, .symi .i64 393, .symi .u8 394, .symi .u8 395, .symi .u8 396, .symi .u8 397, .symi .u8 398, .symi .u8 399, .symi .u8 400, .symi .u8 401, .symb 402, .symi .u8 403, .symi .u8 404, .int .i64 5]
def apL40 : List AVal := [.symi .i64 5, .symi .u8 6, .symi .u8 7, .symi .u8 8, .symi .u8 9, .symi .u8 10, .symi .u8 11, .symi .u8 12, .symi .u8 13, .symi .i64 14, .symi .u8 15, .symi .u8 16, .symi .u8 17, .symi .u8 18, .symi .u8 19, .symi .u8 20, .symi .u8 21, .symi .u8 22, .symb 23, .symi .u8 24, .symi .u8 25, .symi .i64 34]
def apL41 : List AVal := [.symi .i64 507, .symi .u8 508, .symi .u8 509, .symi .u8 510, .symi .u8 511, .symi .u8 512, .symi .u8 513, .symi .u8 514, .symi .u8 515, .symi .i64 516, .symi .u8 517, .symi .u8 518, .symi .u8 519, .symi .u8 520, .symi .u8 521, .symi .u8 522, .symi .u8 523, .symi .u8 524, .symb 525, .symi .u8 526, .symi .u8 527, .int .i64 3]
def apL42 : List AVal := [.symi .i64 507, .symi .u8 508, .symi .u8 509, .symi .u8 510, .symi .u8 511, .symi .u8 512, .symi .u8 513, .symi .u8 514, .symi .u8 515, .symi .i64 516, .symi .u8 517, .symi .u8 518, .symi .u8 519, .symi .u8 520, .symi .u8 521, .symi .u8 522, .symi .u8 523, .symi .u8 524, .symb 525, .symi .u8 526, .symi .u8 527, .int .i64 4]
def apL43 : List AVal := [.symi .i64 507, .symi .u8 508, .symi .u8 509, .symi .u8 510, .symi .u8 511, .symi .u8 512, .symi .u8 513, .symi .u8 514, .symi .u8 515, .symi .i64 516, .symi .u8 517, .symi .u8 518, .symi .u8 519, .symi .u8 520, .symi .u8 521, .symi .u8 522, .symi .u8 523, .symi .u8 524, .symb 525, .symi .u8 526, .symi .u8 527, .int .i64 5]
def apL44 : List AVal := [.symi .i64 596, .symi .u8 597, .symi .u8 598, .symi .u8 599, .symi .u8 600, .symi .u8 601, .symi .u8 602, .symi .u8 603, .symi .u8 604, .symi .i64 605, .symi .u8 606, .symi .u8 607, .symi .u8 608, .symi .u8 609, .symi .u8 610, .symi .u8 611, .symi .u8 612, .symi .u8 613, .symb 614, .symi .u8 615, .symi .u8 616, .int .i64 3]
def apL45 : List AVal := [.symi .i64 596, .symi .u8 597, .symi .u8 598, .symi .u8 599, .symi .u8 600, .symi .u8 601, .symi .u8 602, .symi .u8 603, .symi .u8 604, .symi .i64 605, .symi .u8 606, .symi .u8 607, .symi .u8 608, .symi .u8 609, .symi .u8 610, .symi .u8 611, .symi .u8 612, .symi .u8 613, .symb 614, .symi .u8 615, .symi .u8 616, .int .i64 4]
def apL46 : List AVal := [.symi .i64 596, .symi .u8 597, .symi .u8 598, .symi .u8 599, .symi .u8 600, .symi .u8 601, .symi .u8 602, .symi .u8 603, .symi .u8 604, .symi .i64 605, .symi .u8 606, .symi .u8 607, .symi .u8 608, .symi .u8 609, .symi .u8 610, .symi .u8 611, .symi .u8 612, .symi .u8 613, .symb 614, .symi .u8 615, .symi .u8 616, .int .i64 5]
def apL47 : List AVal := [.symi .i64 685, .symi .u8 686, .symi .u8 687, .symi .u8 688, .symi .u8 689, .symi .u8 690, .symi .u8 691, .symi .u8 692, .symi .u8 693, .symi .i64 694, .symi .u8 695, .symi .u8 696, .symi .u8 697, .symi .u8 698, .symi .u8 699, .symi .u8 700, .symi .u8 701, .symi .u8 702, .symb 703, .symi .u8 704, .symi .u8 705, .int .i64 3]
def apL48 : List AVal := [.symi .i64 685, .symi .u8 686, .symi .u8 687, .symi .u8 688, .symi .u8 689, .symi .u8 690, .symi .u8 691, .symi .u8 692, .symi .u8 693, .symi .i64 694, .symi .u8 695, .symi .u8 696, .symi .u8 697, .symi .u8 698, .symi .u8 699, .symi .u8 700, .symi .u8 701, .symi .u8 702, .symb 703, .symi .u8 704, .symi .u8 705, .int .i64 4]
def apL49 : List AVal := [.symi .i64 685, .symi .u8 686, .symi .u8 687, .symi .u8 688, .symi .u8 689, .symi .u8 690, .symi .u8 691, .symi .u8 692, .symi .u8 693, .symi .i64 694, .symi .u8 695, .symi .u8 696, .symi .u8 697, .symi .u8 698, .symi .u8 699, .symi .u8 700, .symi .u8 701, .symi .u8 702, .symb 703, .symi .u8 704, .symi .u8 705, .int .i64 5]
set_option maxRecDepth 100000 in
def apG : List SDef := [.conv .i64 (.symi .i8 0),
  .fn 320 .i32 [.symi .u8 2, .symi .u8 3, .symi .u8 4, .int .i64 0],
  .conv .i32 (.symi .u8 32),
  .conv .i32 (.symi .u8 33),
  .fn 320 .i32 [.symi .u8 2, .symi .u8 3, .symi .u8 4, .int .i64 1],
  .fn 320 .i32 [.symi .u8 2, .symi .u8 3, .symi .u8 4, .int .i64 2],
  .fn 0 .i32 apL0,
  .fn 0 .i32 apL1,
  .fn 0 .i32 apL2,
  .fn 448 .i32 [.symi .u16 26, .symi .u16 27, .symi .u16 28, .int .i64 0],
  .fn 448 .i32 [.symi .u16 26, .symi .u16 27, .symi .u16 28, .int .i64 1],
  .fn 448 .i32 [.symi .u16 26, .symi .u16 27, .symi .u16 28, .int .i64 2],
  .fn 448 .i32 [.symi .u16 29, .symi .u16 30, .symi .u16 31, .int .i64 0],
  .fn 448 .i32 [.symi .u16 29, .symi .u16 30, .symi .u16 31, .int .i64 1],
  .fn 448 .i32 [.symi .u16 29, .symi .u16 30, .symi .u16 31, .int .i64 2],
  .fn 384 .u8 apL3,
  .fn 385 .u8 apL3,
  .fn 386 .u8 apL3,
  .conv .u8 (.symi .i32 1),
  .bin .or (.symi .u8 33) (.symi .u8 52),
  .bin .andNot (.symi .u8 33) (.symi .u8 52),
  .fn 320 .i32 [.symi .u8 49, .symi .u8 50, .symi .u8 51, .int .i64 0],
  .fn 320 .i32 [.symi .u8 49, .symi .u8 50, .symi .u8 51, .int .i64 1],
  .fn 320 .i32 [.symi .u8 49, .symi .u8 50, .symi .u8 51, .int .i64 2],
  .fn 384 .u8 apL4,
  .fn 385 .u8 apL4,
  .fn 386 .u8 apL4,
  .fn 320 .i32 [.symi .u8 58, .symi .u8 59, .symi .u8 60, .int .i64 0],
  .fn 320 .i32 [.symi .u8 58, .symi .u8 59, .symi .u8 60, .int .i64 1],
  .fn 320 .i32 [.symi .u8 58, .symi .u8 59, .symi .u8 60, .int .i64 2],
  .fn 384 .u8 apL5,
  .fn 385 .u8 apL5,
  .fn 386 .u8 apL5,
  .fn 320 .i32 [.symi .u8 64, .symi .u8 65, .symi .u8 66, .int .i64 0],
  .fn 320 .i32 [.symi .u8 64, .symi .u8 65, .symi .u8 66, .int .i64 1],
  .fn 320 .i32 [.symi .u8 64, .symi .u8 65, .symi .u8 66, .int .i64 2],
  .fn 128 .i64 apL6,
  .fn 129 .u8 apL6,
  .fn 130 .u8 apL6,
  .fn 131 .u8 apL6,
  .fn 132 .u8 apL6,
  .fn 133 .u8 apL6,
  .fn 134 .u8 apL6,
  .fn 135 .u8 apL6,
  .fn 136 .u8 apL6,
  .fn 137 .i64 apL6,
  .fn 138 .u8 apL6,
  .fn 139 .u8 apL6,
  .fn 140 .u8 apL6,
  .fn 141 .u8 apL6,
  .fn 142 .u8 apL6,
  .fn 143 .u8 apL6,
  .fn 144 .u8 apL6,
  .fn 145 .u8 apL6,
  .fnb 146 apL6,
  .fn 147 .u8 apL6,
  .fn 148 .u8 apL6,
  .fn 0 .i32 apL7,
  .fn 0 .i32 apL8,
  .fn 0 .i32 apL9,
  .fn 64 .i32 apL0,
  .fn 65 .i64 apL0,
  .fn 66 .u8 apL0,
  .fn 67 .u8 apL0,
  .fn 68 .u8 apL0,
  .fn 69 .u8 apL0,
  .fn 70 .u8 apL0,
  .fn 71 .u8 apL0,
  .fn 72 .u8 apL0,
  .fn 73 .u8 apL0,
  .fn 74 .i64 apL0,
  .fn 75 .u8 apL0,
  .fn 76 .u8 apL0,
  .fn 77 .u8 apL0,
  .fn 78 .u8 apL0,
  .fn 79 .u8 apL0,
  .fn 80 .u8 apL0,
  .fn 81 .u8 apL0,
  .fn 82 .u8 apL0,
  .fnb 83 apL0,
  .fn 84 .u8 apL0,
  .fn 85 .u8 apL0,
  .fn 0 .i32 apL10,
  .fn 0 .i32 apL11,
  .fn 0 .i32 apL12,
  .bin .neq (.symi .i32 94) (.symi .i32 40),
  .fn 128 .i64 apL13,
  .fn 129 .u8 apL13,
  .fn 130 .u8 apL13,
  .fn 131 .u8 apL13,
  .fn 132 .u8 apL13,
  .fn 133 .u8 apL13,
  .fn 134 .u8 apL13,
  .fn 135 .u8 apL13,
  .fn 136 .u8 apL13,
  .fn 137 .i64 apL13,
  .fn 138 .u8 apL13,
  .fn 139 .u8 apL13,
  .fn 140 .u8 apL13,
  .fn 141 .u8 apL13,
  .fn 142 .u8 apL13,
  .fn 143 .u8 apL13,
  .fn 144 .u8 apL13,
  .fn 145 .u8 apL13,
  .fnb 146 apL13,
  .fn 147 .u8 apL13,
  .fn 148 .u8 apL13,
  .fn 0 .i32 apL14,
  .fn 0 .i32 apL15,
  .fn 0 .i32 apL16,
  .fn 64 .i32 apL1,
  .fn 65 .i64 apL1,
  .fn 66 .u8 apL1,
  .fn 67 .u8 apL1,
  .fn 68 .u8 apL1,
  .fn 69 .u8 apL1,
  .fn 70 .u8 apL1,
  .fn 71 .u8 apL1,
  .fn 72 .u8 apL1,
  .fn 73 .u8 apL1,
  .fn 74 .i64 apL1,
  .fn 75 .u8 apL1,
  .fn 76 .u8 apL1,
  .fn 77 .u8 apL1,
  .fn 78 .u8 apL1,
  .fn 79 .u8 apL1,
  .fn 80 .u8 apL1,
  .fn 81 .u8 apL1,
  .fn 82 .u8 apL1,
  .fnb 83 apL1,
  .fn 84 .u8 apL1,
  .fn 85 .u8 apL1,
  .fn 0 .i32 apL17,
  .fn 0 .i32 apL18,
  .fn 0 .i32 apL19,
  .bin .neq (.symi .i32 144) (.symi .i32 41),
  .fn 128 .i64 apL20,
  .fn 129 .u8 apL20,
  .fn 130 .u8 apL20,
  .fn 131 .u8 apL20,
  .fn 132 .u8 apL20,
  .fn 133 .u8 apL20,
  .fn 134 .u8 apL20,
  .fn 135 .u8 apL20,
  .fn 136 .u8 apL20,
  .fn 137 .i64 apL20,
  .fn 138 .u8 apL20,
  .fn 139 .u8 apL20,
  .fn 140 .u8 apL20,
  .fn 141 .u8 apL20,
  .fn 142 .u8 apL20,
  .fn 143 .u8 apL20,
  .fn 144 .u8 apL20,
  .fn 145 .u8 apL20,
  .fnb 146 apL20,
  .fn 147 .u8 apL20,
  .fn 148 .u8 apL20,
  .fn 0 .i32 apL21,
  .fn 0 .i32 apL22,
  .fn 0 .i32 apL23,
  .fn 64 .i32 apL2,
  .fn 65 .i64 apL2,
  .fn 66 .u8 apL2,
  .fn 67 .u8 apL2,
  .fn 68 .u8 apL2,
  .fn 69 .u8 apL2,
  .fn 70 .u8 apL2,
  .fn 71 .u8 apL2,
  .fn 72 .u8 apL2,
  .fn 73 .u8 apL2,
  .fn 74 .i64 apL2,
  .fn 75 .u8 apL2,
  .fn 76 .u8 apL2,
  .fn 77 .u8 apL2,
  .fn 78 .u8 apL2,
  .fn 79 .u8 apL2,
  .fn 80 .u8 apL2,
  .fn 81 .u8 apL2,
  .fn 82 .u8 apL2,
  .fnb 83 apL2,
  .fn 84 .u8 apL2,
  .fn 85 .u8 apL2,
  .fn 0 .i32 apL24,
  .fn 0 .i32 apL25,
  .fn 0 .i32 apL26,
  .bin .neq (.symi .i32 194) (.symi .i32 42),
  .fn 512 .u16 apL27,
  .fn 513 .u16 apL27,
  .fn 514 .u16 apL27,
  .fn 448 .i32 [.symi .u16 220, .symi .u16 221, .symi .u16 222, .int .i64 0],
  .fn 448 .i32 [.symi .u16 220, .symi .u16 221, .symi .u16 222, .int .i64 1],
  .fn 448 .i32 [.symi .u16 220, .symi .u16 221, .symi .u16 222, .int .i64 2],
  .fn 512 .u16 apL28,
  .fn 513 .u16 apL28,
  .fn 514 .u16 apL28,
  .fn 448 .i32 [.symi .u16 226, .symi .u16 227, .symi .u16 228, .int .i64 0],
  .fn 448 .i32 [.symi .u16 226, .symi .u16 227, .symi .u16 228, .int .i64 1],
  .fn 448 .i32 [.symi .u16 226, .symi .u16 227, .symi .u16 228, .int .i64 2],
  .fn 512 .u16 apL29,
  .fn 513 .u16 apL29,
  .fn 514 .u16 apL29,
  .fn 448 .i32 [.symi .u16 232, .symi .u16 233, .symi .u16 234, .int .i64 0],
  .fn 448 .i32 [.symi .u16 232, .symi .u16 233, .symi .u16 234, .int .i64 1],
  .fn 448 .i32 [.symi .u16 232, .symi .u16 233, .symi .u16 234, .int .i64 2],
  .fn 512 .u16 apL30,
  .fn 513 .u16 apL30,
  .fn 514 .u16 apL30,
  .fn 448 .i32 [.symi .u16 238, .symi .u16 239, .symi .u16 240, .int .i64 0],
  .fn 448 .i32 [.symi .u16 238, .symi .u16 239, .symi .u16 240, .int .i64 1],
  .fn 448 .i32 [.symi .u16 238, .symi .u16 239, .symi .u16 240, .int .i64 2],
  .fn 512 .u16 apL31,
  .fn 513 .u16 apL31,
  .fn 514 .u16 apL31,
  .fn 448 .i32 [.symi .u16 244, .symi .u16 245, .symi .u16 246, .int .i64 0],
  .fn 448 .i32 [.symi .u16 244, .symi .u16 245, .symi .u16 246, .int .i64 1],
  .fn 448 .i32 [.symi .u16 244, .symi .u16 245, .symi .u16 246, .int .i64 2],
  .fn 512 .u16 apL32,
  .fn 513 .u16 apL32,
  .fn 514 .u16 apL32,
  .fn 448 .i32 [.symi .u16 250, .symi .u16 251, .symi .u16 252, .int .i64 0],
  .fn 448 .i32 [.symi .u16 250, .symi .u16 251, .symi .u16 252, .int .i64 1],
  .fn 448 .i32 [.symi .u16 250, .symi .u16 251, .symi .u16 252, .int .i64 2],
  .conv .i32 (.symi .u8 52),
  .conv .i32 (.symi .u8 53),
  .conv .i32 (.symi .u8 54),
  .bin .quo (.symi .i64 34) (.int .i64 3),
  .bin .eql (.symi .i64 259) (.int .i64 0),
  .bin .eql (.symi .i64 259) (.int .i64 1),
  .bin .eql (.symi .i64 259) (.int .i64 2),
  .bin .eql (.symi .i64 259) (.int .i64 3),
  .bin .eql (.symi .i64 259) (.int .i64 4),
  .bin .geq (.symi .i64 34) (.int .i64 0),
  .fn 384 .u8 apL33,
  .fn 385 .u8 apL33,
  .fn 386 .u8 apL33,
  .fn 128 .i64 apL34,
  .fn 129 .u8 apL34,
  .fn 130 .u8 apL34,
  .fn 131 .u8 apL34,
  .fn 132 .u8 apL34,
  .fn 133 .u8 apL34,
  .fn 134 .u8 apL34,
  .fn 135 .u8 apL34,
  .fn 136 .u8 apL34,
  .fn 137 .i64 apL34,
  .fn 138 .u8 apL34,
  .fn 139 .u8 apL34,
  .fn 140 .u8 apL34,
  .fn 141 .u8 apL34,
  .fn 142 .u8 apL34,
  .fn 143 .u8 apL34,
  .fn 144 .u8 apL34,
  .fn 145 .u8 apL34,
  .fnb 146 apL34,
  .fn 147 .u8 apL34,
  .fn 148 .u8 apL34,
  .bin .sub (.symi .i64 34) (.int .i64 6),
  .fn 512 .u16 apL35,
  .fn 513 .u16 apL35,
  .fn 514 .u16 apL35,
  .bin .sub (.symi .i64 34) (.int .i64 9),
  .fn 512 .u16 apL36,
  .fn 513 .u16 apL36,
  .fn 514 .u16 apL36,
  .bin .eql (.symi .i64 34) (.int .i64 12),
  .bin .eql (.symi .i64 34) (.int .i64 13),
  .bin .eql (.symi .i64 34) (.int .i64 14),
  .ite (.symb 300) (.symi .u8 54) (.symi .u8 33),
  .ite (.symb 299) (.symi .u8 53) (.symi .u8 301),
  .ite (.symb 298) (.symi .u8 52) (.symi .u8 32),
  .ite (.symb 298) (.symi .u8 33) (.symi .u8 302),
  .ite (.symb 265) (.symi .u8 266) (.symi .u8 2),
  .ite (.symb 265) (.symi .u8 267) (.symi .u8 3),
  .ite (.symb 265) (.symi .u8 268) (.symi .u8 4),
  .ite (.symb 265) (.symi .i64 269) (.symi .i64 5),
  .ite (.symb 265) (.symi .u8 270) (.symi .u8 6),
  .ite (.symb 265) (.symi .u8 271) (.symi .u8 7),
  .ite (.symb 265) (.symi .u8 272) (.symi .u8 8),
  .ite (.symb 265) (.symi .u8 273) (.symi .u8 9),
  .ite (.symb 265) (.symi .u8 274) (.symi .u8 10),
  .ite (.symb 265) (.symi .u8 275) (.symi .u8 11),
  .ite (.symb 265) (.symi .u8 276) (.symi .u8 12),
  .ite (.symb 265) (.symi .u8 277) (.symi .u8 13),
  .ite (.symb 265) (.symi .i64 278) (.symi .i64 14),
  .ite (.symb 265) (.symi .u8 279) (.symi .u8 15),
  .ite (.symb 265) (.symi .u8 280) (.symi .u8 16),
  .ite (.symb 265) (.symi .u8 281) (.symi .u8 17),
  .ite (.symb 265) (.symi .u8 282) (.symi .u8 18),
  .ite (.symb 265) (.symi .u8 283) (.symi .u8 19),
  .ite (.symb 265) (.symi .u8 284) (.symi .u8 20),
  .ite (.symb 265) (.symi .u8 285) (.symi .u8 21),
  .ite (.symb 265) (.symi .u8 286) (.symi .u8 22),
  .ite (.symb 265) (.symb 287) (.symb 23),
  .ite (.symb 265) (.symi .u8 288) (.symi .u8 24),
  .ite (.symb 265) (.symi .u8 289) (.symi .u8 25),
  .ite (.symb 265) (.symi .u16 291) (.symi .u16 26),
  .ite (.symb 265) (.symi .u16 292) (.symi .u16 27),
  .ite (.symb 265) (.symi .u16 293) (.symi .u16 28),
  .ite (.symb 265) (.symi .u16 295) (.symi .u16 29),
  .ite (.symb 265) (.symi .u16 296) (.symi .u16 30),
  .ite (.symb 265) (.symi .u16 297) (.symi .u16 31),
  .ite (.symb 265) (.symi .u8 303) (.symi .u8 32),
  .ite (.symb 265) (.symi .u8 304) (.symi .u8 33),
  .ite (.symb 264) (.symi .u8 335) (.symi .u8 32),
  .ite (.symb 264) (.symi .u8 336) (.symi .u8 33),
  .ite (.symb 263) (.symi .u16 332) (.symi .u16 29),
  .ite (.symb 263) (.symi .u16 333) (.symi .u16 30),
  .ite (.symb 263) (.symi .u16 334) (.symi .u16 31),
  .ite (.symb 263) (.symi .u8 32) (.symi .u8 337),
  .ite (.symb 263) (.symi .u8 33) (.symi .u8 338),
  .ite (.symb 262) (.symi .u16 329) (.symi .u16 26),
  .ite (.symb 262) (.symi .u16 330) (.symi .u16 27),
  .ite (.symb 262) (.symi .u16 331) (.symi .u16 28),
  .ite (.symb 262) (.symi .u16 29) (.symi .u16 339),
  .ite (.symb 262) (.symi .u16 30) (.symi .u16 340),
  .ite (.symb 262) (.symi .u16 31) (.symi .u16 341),
  .ite (.symb 262) (.symi .u8 32) (.symi .u8 342),
  .ite (.symb 262) (.symi .u8 33) (.symi .u8 343),
  .ite (.symb 261) (.symi .i64 308) (.symi .i64 5),
  .ite (.symb 261) (.symi .u8 309) (.symi .u8 6),
  .ite (.symb 261) (.symi .u8 310) (.symi .u8 7),
  .ite (.symb 261) (.symi .u8 311) (.symi .u8 8),
  .ite (.symb 261) (.symi .u8 312) (.symi .u8 9),
  .ite (.symb 261) (.symi .u8 313) (.symi .u8 10),
  .ite (.symb 261) (.symi .u8 314) (.symi .u8 11),
  .ite (.symb 261) (.symi .u8 315) (.symi .u8 12),
  .ite (.symb 261) (.symi .u8 316) (.symi .u8 13),
  .ite (.symb 261) (.symi .i64 317) (.symi .i64 14),
  .ite (.symb 261) (.symi .u8 318) (.symi .u8 15),
  .ite (.symb 261) (.symi .u8 319) (.symi .u8 16),
  .ite (.symb 261) (.symi .u8 320) (.symi .u8 17),
  .ite (.symb 261) (.symi .u8 321) (.symi .u8 18),
  .ite (.symb 261) (.symi .u8 322) (.symi .u8 19),
  .ite (.symb 261) (.symi .u8 323) (.symi .u8 20),
  .ite (.symb 261) (.symi .u8 324) (.symi .u8 21),
  .ite (.symb 261) (.symi .u8 325) (.symi .u8 22),
  .ite (.symb 261) (.symb 326) (.symb 23),
  .ite (.symb 261) (.symi .u8 327) (.symi .u8 24),
  .ite (.symb 261) (.symi .u8 328) (.symi .u8 25),
  .ite (.symb 261) (.symi .u16 26) (.symi .u16 344),
  .ite (.symb 261) (.symi .u16 27) (.symi .u16 345),
  .ite (.symb 261) (.symi .u16 28) (.symi .u16 346),
  .ite (.symb 261) (.symi .u16 29) (.symi .u16 347),
  .ite (.symb 261) (.symi .u16 30) (.symi .u16 348),
  .ite (.symb 261) (.symi .u16 31) (.symi .u16 349),
  .ite (.symb 261) (.symi .u8 32) (.symi .u8 350),
  .ite (.symb 261) (.symi .u8 33) (.symi .u8 351),
  .ite (.symb 260) (.symi .u8 305) (.symi .u8 2),
  .ite (.symb 260) (.symi .u8 306) (.symi .u8 3),
  .ite (.symb 260) (.symi .u8 307) (.symi .u8 4),
  .ite (.symb 260) (.symi .i64 5) (.symi .i64 352),
  .ite (.symb 260) (.symi .u8 6) (.symi .u8 353),
  .ite (.symb 260) (.symi .u8 7) (.symi .u8 354),
  .ite (.symb 260) (.symi .u8 8) (.symi .u8 355),
  .ite (.symb 260) (.symi .u8 9) (.symi .u8 356),
  .ite (.symb 260) (.symi .u8 10) (.symi .u8 357),
  .ite (.symb 260) (.symi .u8 11) (.symi .u8 358),
  .ite (.symb 260) (.symi .u8 12) (.symi .u8 359),
  .ite (.symb 260) (.symi .u8 13) (.symi .u8 360),
  .ite (.symb 260) (.symi .i64 14) (.symi .i64 361),
  .ite (.symb 260) (.symi .u8 15) (.symi .u8 362),
  .ite (.symb 260) (.symi .u8 16) (.symi .u8 363),
  .ite (.symb 260) (.symi .u8 17) (.symi .u8 364),
  .ite (.symb 260) (.symi .u8 18) (.symi .u8 365),
  .ite (.symb 260) (.symi .u8 19) (.symi .u8 366),
  .ite (.symb 260) (.symi .u8 20) (.symi .u8 367),
  .ite (.symb 260) (.symi .u8 21) (.symi .u8 368),
  .ite (.symb 260) (.symi .u8 22) (.symi .u8 369),
  .ite (.symb 260) (.symb 23) (.symb 370),
  .ite (.symb 260) (.symi .u8 24) (.symi .u8 371),
  .ite (.symb 260) (.symi .u8 25) (.symi .u8 372),
  .ite (.symb 260) (.symi .u16 26) (.symi .u16 373),
  .ite (.symb 260) (.symi .u16 27) (.symi .u16 374),
  .ite (.symb 260) (.symi .u16 28) (.symi .u16 375),
  .ite (.symb 260) (.symi .u16 29) (.symi .u16 376),
  .ite (.symb 260) (.symi .u16 30) (.symi .u16 377),
  .ite (.symb 260) (.symi .u16 31) (.symi .u16 378),
  .ite (.symb 260) (.symi .u8 32) (.symi .u8 379),
  .ite (.symb 260) (.symi .u8 33) (.symi .u8 380),
  .fn 320 .i32 [.symi .u8 381, .symi .u8 382, .symi .u8 383, .int .i64 0],
  .conv .i32 (.symi .u8 411),
  .conv .i32 (.symi .u8 412),
  .fn 320 .i32 [.symi .u8 381, .symi .u8 382, .symi .u8 383, .int .i64 1],
  .fn 320 .i32 [.symi .u8 381, .symi .u8 382, .symi .u8 383, .int .i64 2],
  .fn 0 .i32 apL37,
  .fn 0 .i32 apL38,
  .fn 0 .i32 apL39,
  .fn 448 .i32 [.symi .u16 405, .symi .u16 406, .symi .u16 407, .int .i64 0],
  .fn 448 .i32 [.symi .u16 405, .symi .u16 406, .symi .u16 407, .int .i64 1],
  .fn 448 .i32 [.symi .u16 405, .symi .u16 406, .symi .u16 407, .int .i64 2],
  .fn 448 .i32 [.symi .u16 408, .symi .u16 409, .symi .u16 410, .int .i64 0],
  .fn 448 .i32 [.symi .u16 408, .symi .u16 409, .symi .u16 410, .int .i64 1],
  .fn 448 .i32 [.symi .u16 408, .symi .u16 409, .symi .u16 410, .int .i64 2],
  .un .not (.symb 265),
  .fn 320 .i32 [.symi .u8 2, .symi .u8 3, .symi .u8 4, .symi .i64 34],
  .fn 64 .i32 apL40,
  .fn 65 .i64 apL40,
  .fn 66 .u8 apL40,
  .fn 67 .u8 apL40,
  .fn 68 .u8 apL40,
  .fn 69 .u8 apL40,
  .fn 70 .u8 apL40,
  .fn 71 .u8 apL40,
  .fn 72 .u8 apL40,
  .fn 73 .u8 apL40,
  .fn 74 .i64 apL40,
  .fn 75 .u8 apL40,
  .fn 76 .u8 apL40,
  .fn 77 .u8 apL40,
  .fn 78 .u8 apL40,
  .fn 79 .u8 apL40,
  .fn 80 .u8 apL40,
  .fn 81 .u8 apL40,
  .fn 82 .u8 apL40,
  .fnb 83 apL40,
  .fn 84 .u8 apL40,
  .fn 85 .u8 apL40,
  .fn 448 .i32 [.symi .u16 26, .symi .u16 27, .symi .u16 28, .symi .i64 290],
  .fn 448 .i32 [.symi .u16 29, .symi .u16 30, .symi .u16 31, .symi .i64 294],
  .ite (.symb 299) (.symi .i32 37) (.int .i32 0),
  .ite (.symb 298) (.symi .i32 36) (.symi .i32 453),
  .ite (.symb 427) (.int .i32 0) (.symi .i32 428),
  .ite (.symb 427) (.int .i32 0) (.symi .i32 429),
  .ite (.symb 427) (.symi .i64 5) (.symi .i64 430),
  .ite (.symb 427) (.symi .u8 6) (.symi .u8 431),
  .ite (.symb 427) (.symi .u8 7) (.symi .u8 432),
  .ite (.symb 427) (.symi .u8 8) (.symi .u8 433),
  .ite (.symb 427) (.symi .u8 9) (.symi .u8 434),
  .ite (.symb 427) (.symi .u8 10) (.symi .u8 435),
  .ite (.symb 427) (.symi .u8 11) (.symi .u8 436),
  .ite (.symb 427) (.symi .u8 12) (.symi .u8 437),
  .ite (.symb 427) (.symi .u8 13) (.symi .u8 438),
  .ite (.symb 427) (.symi .i64 14) (.symi .i64 439),
  .ite (.symb 427) (.symi .u8 15) (.symi .u8 440),
  .ite (.symb 427) (.symi .u8 16) (.symi .u8 441),
  .ite (.symb 427) (.symi .u8 17) (.symi .u8 442),
  .ite (.symb 427) (.symi .u8 18) (.symi .u8 443),
  .ite (.symb 427) (.symi .u8 19) (.symi .u8 444),
  .ite (.symb 427) (.symi .u8 20) (.symi .u8 445),
  .ite (.symb 427) (.symi .u8 21) (.symi .u8 446),
  .ite (.symb 427) (.symi .u8 22) (.symi .u8 447),
  .ite (.symb 427) (.symb 23) (.symb 448),
  .ite (.symb 427) (.symi .u8 24) (.symi .u8 449),
  .ite (.symb 427) (.symi .u8 25) (.symi .u8 450),
  .ite (.symb 427) (.int .i32 0) (.symi .i32 451),
  .ite (.symb 427) (.int .i32 0) (.symi .i32 452),
  .ite (.symb 427) (.int .i32 0) (.symi .i32 454),
  .ite (.symb 264) (.symi .i32 480) (.int .i32 0),
  .ite (.symb 263) (.symi .i32 479) (.symi .i32 481),
  .ite (.symb 262) (.symi .i32 478) (.symi .i32 482),
  .ite (.symb 261) (.symi .i32 456) (.symi .i32 483),
  .ite (.symb 261) (.symi .i64 457) (.symi .i64 5),
  .ite (.symb 261) (.symi .u8 458) (.symi .u8 6),
  .ite (.symb 261) (.symi .u8 459) (.symi .u8 7),
  .ite (.symb 261) (.symi .u8 460) (.symi .u8 8),
  .ite (.symb 261) (.symi .u8 461) (.symi .u8 9),
  .ite (.symb 261) (.symi .u8 462) (.symi .u8 10),
  .ite (.symb 261) (.symi .u8 463) (.symi .u8 11),
  .ite (.symb 261) (.symi .u8 464) (.symi .u8 12),
  .ite (.symb 261) (.symi .u8 465) (.symi .u8 13),
  .ite (.symb 261) (.symi .i64 466) (.symi .i64 14),
  .ite (.symb 261) (.symi .u8 467) (.symi .u8 15),
  .ite (.symb 261) (.symi .u8 468) (.symi .u8 16),
  .ite (.symb 261) (.symi .u8 469) (.symi .u8 17),
  .ite (.symb 261) (.symi .u8 470) (.symi .u8 18),
  .ite (.symb 261) (.symi .u8 471) (.symi .u8 19),
  .ite (.symb 261) (.symi .u8 472) (.symi .u8 20),
  .ite (.symb 261) (.symi .u8 473) (.symi .u8 21),
  .ite (.symb 261) (.symi .u8 474) (.symi .u8 22),
  .ite (.symb 261) (.symb 475) (.symb 23),
  .ite (.symb 261) (.symi .u8 476) (.symi .u8 24),
  .ite (.symb 261) (.symi .u8 477) (.symi .u8 25),
  .ite (.symb 260) (.symi .i32 455) (.symi .i32 484),
  .ite (.symb 260) (.symi .i64 5) (.symi .i64 485),
  .ite (.symb 260) (.symi .u8 6) (.symi .u8 486),
  .ite (.symb 260) (.symi .u8 7) (.symi .u8 487),
  .ite (.symb 260) (.symi .u8 8) (.symi .u8 488),
  .ite (.symb 260) (.symi .u8 9) (.symi .u8 489),
  .ite (.symb 260) (.symi .u8 10) (.symi .u8 490),
  .ite (.symb 260) (.symi .u8 11) (.symi .u8 491),
  .ite (.symb 260) (.symi .u8 12) (.symi .u8 492),
  .ite (.symb 260) (.symi .u8 13) (.symi .u8 493),
  .ite (.symb 260) (.symi .i64 14) (.symi .i64 494),
  .ite (.symb 260) (.symi .u8 15) (.symi .u8 495),
  .ite (.symb 260) (.symi .u8 16) (.symi .u8 496),
  .ite (.symb 260) (.symi .u8 17) (.symi .u8 497),
  .ite (.symb 260) (.symi .u8 18) (.symi .u8 498),
  .ite (.symb 260) (.symi .u8 19) (.symi .u8 499),
  .ite (.symb 260) (.symi .u8 20) (.symi .u8 500),
  .ite (.symb 260) (.symi .u8 21) (.symi .u8 501),
  .ite (.symb 260) (.symi .u8 22) (.symi .u8 502),
  .ite (.symb 260) (.symb 23) (.symb 503),
  .ite (.symb 260) (.symi .u8 24) (.symi .u8 504),
  .ite (.symb 260) (.symi .u8 25) (.symi .u8 505),
  .fn 0 .i32 apL41,
  .fn 0 .i32 apL42,
  .fn 0 .i32 apL43,
  .bin .leq (.symi .i64 34) (.int .i64 14),
  .bin .neq (.symi .i32 506) (.symi .i32 35),
  .bin .neq (.symi .i32 506) (.symi .i32 38),
  .bin .neq (.symi .i32 506) (.symi .i32 39),
  .bin .neq (.symi .i32 506) (.symi .i32 40),
  .bin .neq (.symi .i32 506) (.symi .i32 41),
  .bin .neq (.symi .i32 506) (.symi .i32 42),
  .bin .neq (.symi .i32 506) (.symi .i32 43),
  .bin .neq (.symi .i32 506) (.symi .i32 44),
  .bin .neq (.symi .i32 506) (.symi .i32 45),
  .bin .neq (.symi .i32 506) (.symi .i32 46),
  .bin .neq (.symi .i32 506) (.symi .i32 47),
  .bin .neq (.symi .i32 506) (.symi .i32 48),
  .bin .neq (.symi .i32 506) (.symi .i32 36),
  .bin .neq (.symi .i32 506) (.symi .i32 37),
  .bin .neq (.symi .i32 506) (.int .i32 0),
  .all [(.symi .i64 507, .symi .i64 5), (.symi .u8 508, .symi .u8 6), (.symi .u8 509, .symi .u8 7), (.symi .u8 510, .symi .u8 8), (.symi .u8 511, .symi .u8 9), (.symi .u8 512, .symi .u8 10), (.symi .u8 513, .symi .u8 11), (.symi .u8 514, .symi .u8 12), (.symi .u8 515, .symi .u8 13), (.symi .i64 516, .symi .i64 14), (.symi .u8 517, .symi .u8 15), (.symi .u8 518, .symi .u8 16), (.symi .u8 519, .symi .u8 17), (.symi .u8 520, .symi .u8 18), (.symi .u8 521, .symi .u8 19), (.symi .u8 522, .symi .u8 20), (.symi .u8 523, .symi .u8 21), (.symi .u8 524, .symi .u8 22), (.symb 525, .symb 23), (.symi .u8 526, .symi .u8 24), (.symi .u8 527, .symi .u8 25)],
  .un .not (.symb 547),
  .ite (.symb 264) (.symi .u8 303) (.symi .u8 32),
  .ite (.symb 264) (.symi .u8 304) (.symi .u8 33),
  .ite (.symb 263) (.symi .u16 295) (.symi .u16 29),
  .ite (.symb 263) (.symi .u16 296) (.symi .u16 30),
  .ite (.symb 263) (.symi .u16 297) (.symi .u16 31),
  .ite (.symb 263) (.symi .u8 32) (.symi .u8 549),
  .ite (.symb 263) (.symi .u8 33) (.symi .u8 550),
  .ite (.symb 262) (.symi .u16 291) (.symi .u16 26),
  .ite (.symb 262) (.symi .u16 292) (.symi .u16 27),
  .ite (.symb 262) (.symi .u16 293) (.symi .u16 28),
  .ite (.symb 262) (.symi .u16 29) (.symi .u16 551),
  .ite (.symb 262) (.symi .u16 30) (.symi .u16 552),
  .ite (.symb 262) (.symi .u16 31) (.symi .u16 553),
  .ite (.symb 262) (.symi .u8 32) (.symi .u8 554),
  .ite (.symb 262) (.symi .u8 33) (.symi .u8 555),
  .ite (.symb 261) (.symi .i64 269) (.symi .i64 5),
  .ite (.symb 261) (.symi .u8 270) (.symi .u8 6),
  .ite (.symb 261) (.symi .u8 271) (.symi .u8 7),
  .ite (.symb 261) (.symi .u8 272) (.symi .u8 8),
  .ite (.symb 261) (.symi .u8 273) (.symi .u8 9),
  .ite (.symb 261) (.symi .u8 274) (.symi .u8 10),
  .ite (.symb 261) (.symi .u8 275) (.symi .u8 11),
  .ite (.symb 261) (.symi .u8 276) (.symi .u8 12),
  .ite (.symb 261) (.symi .u8 277) (.symi .u8 13),
  .ite (.symb 261) (.symi .i64 278) (.symi .i64 14),
  .ite (.symb 261) (.symi .u8 279) (.symi .u8 15),
  .ite (.symb 261) (.symi .u8 280) (.symi .u8 16),
  .ite (.symb 261) (.symi .u8 281) (.symi .u8 17),
  .ite (.symb 261) (.symi .u8 282) (.symi .u8 18),
  .ite (.symb 261) (.symi .u8 283) (.symi .u8 19),
  .ite (.symb 261) (.symi .u8 284) (.symi .u8 20),
  .ite (.symb 261) (.symi .u8 285) (.symi .u8 21),
  .ite (.symb 261) (.symi .u8 286) (.symi .u8 22),
  .ite (.symb 261) (.symb 287) (.symb 23),
  .ite (.symb 261) (.symi .u8 288) (.symi .u8 24),
  .ite (.symb 261) (.symi .u8 289) (.symi .u8 25),
  .ite (.symb 261) (.symi .u16 26) (.symi .u16 556),
  .ite (.symb 261) (.symi .u16 27) (.symi .u16 557),
  .ite (.symb 261) (.symi .u16 28) (.symi .u16 558),
  .ite (.symb 261) (.symi .u16 29) (.symi .u16 559),
  .ite (.symb 261) (.symi .u16 30) (.symi .u16 560),
  .ite (.symb 261) (.symi .u16 31) (.symi .u16 561),
  .ite (.symb 261) (.symi .u8 32) (.symi .u8 562),
  .ite (.symb 261) (.symi .u8 33) (.symi .u8 563),
  .ite (.symb 260) (.symi .u8 266) (.symi .u8 2),
  .ite (.symb 260) (.symi .u8 267) (.symi .u8 3),
  .ite (.symb 260) (.symi .u8 268) (.symi .u8 4),
  .ite (.symb 260) (.symi .i64 5) (.symi .i64 564),
  .ite (.symb 260) (.symi .u8 6) (.symi .u8 565),
  .ite (.symb 260) (.symi .u8 7) (.symi .u8 566),
  .ite (.symb 260) (.symi .u8 8) (.symi .u8 567),
  .ite (.symb 260) (.symi .u8 9) (.symi .u8 568),
  .ite (.symb 260) (.symi .u8 10) (.symi .u8 569),
  .ite (.symb 260) (.symi .u8 11) (.symi .u8 570),
  .ite (.symb 260) (.symi .u8 12) (.symi .u8 571),
  .ite (.symb 260) (.symi .u8 13) (.symi .u8 572),
  .ite (.symb 260) (.symi .i64 14) (.symi .i64 573),
  .ite (.symb 260) (.symi .u8 15) (.symi .u8 574),
  .ite (.symb 260) (.symi .u8 16) (.symi .u8 575),
  .ite (.symb 260) (.symi .u8 17) (.symi .u8 576),
  .ite (.symb 260) (.symi .u8 18) (.symi .u8 577),
  .ite (.symb 260) (.symi .u8 19) (.symi .u8 578),
  .ite (.symb 260) (.symi .u8 20) (.symi .u8 579),
  .ite (.symb 260) (.symi .u8 21) (.symi .u8 580),
  .ite (.symb 260) (.symi .u8 22) (.symi .u8 581),
  .ite (.symb 260) (.symb 23) (.symb 582),
  .ite (.symb 260) (.symi .u8 24) (.symi .u8 583),
  .ite (.symb 260) (.symi .u8 25) (.symi .u8 584),
  .ite (.symb 260) (.symi .u16 26) (.symi .u16 585),
  .ite (.symb 260) (.symi .u16 27) (.symi .u16 586),
  .ite (.symb 260) (.symi .u16 28) (.symi .u16 587),
  .ite (.symb 260) (.symi .u16 29) (.symi .u16 588),
  .ite (.symb 260) (.symi .u16 30) (.symi .u16 589),
  .ite (.symb 260) (.symi .u16 31) (.symi .u16 590),
  .ite (.symb 260) (.symi .u8 32) (.symi .u8 591),
  .ite (.symb 260) (.symi .u8 33) (.symi .u8 592),
  .all [(.symi .u8 593, .symi .u8 2), (.symi .u8 594, .symi .u8 3), (.symi .u8 595, .symi .u8 4), (.symi .i64 596, .symi .i64 5), (.symi .u8 597, .symi .u8 6), (.symi .u8 598, .symi .u8 7), (.symi .u8 599, .symi .u8 8), (.symi .u8 600, .symi .u8 9), (.symi .u8 601, .symi .u8 10), (.symi .u8 602, .symi .u8 11), (.symi .u8 603, .symi .u8 12), (.symi .u8 604, .symi .u8 13), (.symi .i64 605, .symi .i64 14), (.symi .u8 606, .symi .u8 15), (.symi .u8 607, .symi .u8 16), (.symi .u8 608, .symi .u8 17), (.symi .u8 609, .symi .u8 18), (.symi .u8 610, .symi .u8 19), (.symi .u8 611, .symi .u8 20), (.symi .u8 612, .symi .u8 21), (.symi .u8 613, .symi .u8 22), (.symb 614, .symb 23), (.symi .u8 615, .symi .u8 24), (.symi .u8 616, .symi .u8 25), (.symi .u16 617, .symi .u16 26), (.symi .u16 618, .symi .u16 27), (.symi .u16 619, .symi .u16 28), (.symi .u16 620, .symi .u16 29), (.symi .u16 621, .symi .u16 30), (.symi .u16 622, .symi .u16 31), (.symi .u8 623, .symi .u8 32), (.symi .u8 624, .symi .u8 33)],
  .un .not (.symb 625),
  .bin .neq (.symi .i32 418) (.symi .i32 40),
  .bin .neq (.symi .i32 528) (.symi .i32 40),
  .bin .neq (.symi .i32 419) (.symi .i32 41),
  .bin .neq (.symi .i32 529) (.symi .i32 41),
  .bin .neq (.symi .i32 420) (.symi .i32 42),
  .bin .neq (.symi .i32 530) (.symi .i32 42),
  .bin .neq (.symi .i32 421) (.symi .i32 43),
  .bin .neq (.symi .i32 422) (.symi .i32 44),
  .bin .neq (.symi .i32 423) (.symi .i32 45),
  .bin .neq (.symi .i32 424) (.symi .i32 46),
  .bin .neq (.symi .i32 425) (.symi .i32 47),
  .bin .neq (.symi .i32 426) (.symi .i32 48),
  .bin .neq (.symi .i32 414) (.symi .i32 36),
  .bin .neq (.symi .i32 415) (.symi .i32 37),
  .bin .neq (.symi .i32 413) (.symi .i32 35),
  .bin .neq (.symi .i32 416) (.symi .i32 38),
  .bin .neq (.symi .i32 417) (.symi .i32 39),
  .bin .neq (.symi .i64 259) (.int .i64 1),
  .fn 320 .i32 [.symi .u8 593, .symi .u8 594, .symi .u8 595, .int .i64 0],
  .conv .i32 (.symi .u8 623),
  .conv .i32 (.symi .u8 624),
  .fn 320 .i32 [.symi .u8 593, .symi .u8 594, .symi .u8 595, .int .i64 1],
  .fn 320 .i32 [.symi .u8 593, .symi .u8 594, .symi .u8 595, .int .i64 2],
  .fn 0 .i32 apL44,
  .fn 0 .i32 apL45,
  .fn 0 .i32 apL46,
  .fn 448 .i32 [.symi .u16 617, .symi .u16 618, .symi .u16 619, .int .i64 0],
  .fn 448 .i32 [.symi .u16 617, .symi .u16 618, .symi .u16 619, .int .i64 1],
  .fn 448 .i32 [.symi .u16 617, .symi .u16 618, .symi .u16 619, .int .i64 2],
  .fn 448 .i32 [.symi .u16 620, .symi .u16 621, .symi .u16 622, .int .i64 0],
  .fn 448 .i32 [.symi .u16 620, .symi .u16 621, .symi .u16 622, .int .i64 1],
  .fn 448 .i32 [.symi .u16 620, .symi .u16 621, .symi .u16 622, .int .i64 2],
  .ite (.symb 264) (.symi .i32 454) (.int .i32 0),
  .ite (.symb 263) (.symi .i32 452) (.symi .i32 659),
  .ite (.symb 262) (.symi .i32 451) (.symi .i32 660),
  .ite (.symb 261) (.symi .i32 429) (.symi .i32 661),
  .ite (.symb 261) (.symi .i64 430) (.symi .i64 5),
  .ite (.symb 261) (.symi .u8 431) (.symi .u8 6),
  .ite (.symb 261) (.symi .u8 432) (.symi .u8 7),
  .ite (.symb 261) (.symi .u8 433) (.symi .u8 8),
  .ite (.symb 261) (.symi .u8 434) (.symi .u8 9),
  .ite (.symb 261) (.symi .u8 435) (.symi .u8 10),
  .ite (.symb 261) (.symi .u8 436) (.symi .u8 11),
  .ite (.symb 261) (.symi .u8 437) (.symi .u8 12),
  .ite (.symb 261) (.symi .u8 438) (.symi .u8 13),
  .ite (.symb 261) (.symi .i64 439) (.symi .i64 14),
  .ite (.symb 261) (.symi .u8 440) (.symi .u8 15),
  .ite (.symb 261) (.symi .u8 441) (.symi .u8 16),
  .ite (.symb 261) (.symi .u8 442) (.symi .u8 17),
  .ite (.symb 261) (.symi .u8 443) (.symi .u8 18),
  .ite (.symb 261) (.symi .u8 444) (.symi .u8 19),
  .ite (.symb 261) (.symi .u8 445) (.symi .u8 20),
  .ite (.symb 261) (.symi .u8 446) (.symi .u8 21),
  .ite (.symb 261) (.symi .u8 447) (.symi .u8 22),
  .ite (.symb 261) (.symb 448) (.symb 23),
  .ite (.symb 261) (.symi .u8 449) (.symi .u8 24),
  .ite (.symb 261) (.symi .u8 450) (.symi .u8 25),
  .ite (.symb 260) (.symi .i32 428) (.symi .i32 662),
  .ite (.symb 260) (.symi .i64 5) (.symi .i64 663),
  .ite (.symb 260) (.symi .u8 6) (.symi .u8 664),
  .ite (.symb 260) (.symi .u8 7) (.symi .u8 665),
  .ite (.symb 260) (.symi .u8 8) (.symi .u8 666),
  .ite (.symb 260) (.symi .u8 9) (.symi .u8 667),
  .ite (.symb 260) (.symi .u8 10) (.symi .u8 668),
  .ite (.symb 260) (.symi .u8 11) (.symi .u8 669),
  .ite (.symb 260) (.symi .u8 12) (.symi .u8 670),
  .ite (.symb 260) (.symi .u8 13) (.symi .u8 671),
  .ite (.symb 260) (.symi .i64 14) (.symi .i64 672),
  .ite (.symb 260) (.symi .u8 15) (.symi .u8 673),
  .ite (.symb 260) (.symi .u8 16) (.symi .u8 674),
  .ite (.symb 260) (.symi .u8 17) (.symi .u8 675),
  .ite (.symb 260) (.symi .u8 18) (.symi .u8 676),
  .ite (.symb 260) (.symi .u8 19) (.symi .u8 677),
  .ite (.symb 260) (.symi .u8 20) (.symi .u8 678),
  .ite (.symb 260) (.symi .u8 21) (.symi .u8 679),
  .ite (.symb 260) (.symi .u8 22) (.symi .u8 680),
  .ite (.symb 260) (.symb 23) (.symb 681),
  .ite (.symb 260) (.symi .u8 24) (.symi .u8 682),
  .ite (.symb 260) (.symi .u8 25) (.symi .u8 683),
  .fn 0 .i32 apL47,
  .fn 0 .i32 apL48,
  .fn 0 .i32 apL49,
  .bin .neq (.symi .i32 684) (.symi .i32 35),
  .bin .neq (.symi .i32 684) (.symi .i32 38),
  .bin .neq (.symi .i32 684) (.symi .i32 39),
  .bin .neq (.symi .i32 684) (.symi .i32 40),
  .bin .neq (.symi .i32 684) (.symi .i32 41),
  .bin .neq (.symi .i32 684) (.symi .i32 42),
  .bin .neq (.symi .i32 684) (.symi .i32 43),
  .bin .neq (.symi .i32 684) (.symi .i32 44),
  .bin .neq (.symi .i32 684) (.symi .i32 45),
  .bin .neq (.symi .i32 684) (.symi .i32 46),
  .bin .neq (.symi .i32 684) (.symi .i32 47),
  .bin .neq (.symi .i32 684) (.symi .i32 48),
  .bin .neq (.symi .i32 684) (.symi .i32 36),
  .bin .neq (.symi .i32 684) (.symi .i32 37),
  .bin .neq (.symi .i32 684) (.int .i32 0),
  .all [(.symi .i64 685, .symi .i64 5), (.symi .u8 686, .symi .u8 6), (.symi .u8 687, .symi .u8 7), (.symi .u8 688, .symi .u8 8), (.symi .u8 689, .symi .u8 9), (.symi .u8 690, .symi .u8 10), (.symi .u8 691, .symi .u8 11), (.symi .u8 692, .symi .u8 12), (.symi .u8 693, .symi .u8 13), (.symi .i64 694, .symi .i64 14), (.symi .u8 695, .symi .u8 15), (.symi .u8 696, .symi .u8 16), (.symi .u8 697, .symi .u8 17), (.symi .u8 698, .symi .u8 18), (.symi .u8 699, .symi .u8 19), (.symi .u8 700, .symi .u8 20), (.symi .u8 701, .symi .u8 21), (.symi .u8 702, .symi .u8 22), (.symb 703, .symb 23), (.symi .u8 704, .symi .u8 24), (.symi .u8 705, .symi .u8 25)],
  .un .not (.symb 724),
  .bin .neq (.symi .i32 650) (.symi .i32 40),
  .bin .neq (.symi .i32 706) (.symi .i32 40),
  .bin .neq (.symi .i32 651) (.symi .i32 41),
  .bin .neq (.symi .i32 707) (.symi .i32 41),
  .bin .neq (.symi .i32 652) (.symi .i32 42),
  .bin .neq (.symi .i32 708) (.symi .i32 42),
  .bin .neq (.symi .i32 653) (.symi .i32 43),
  .bin .neq (.symi .i32 654) (.symi .i32 44),
  .bin .neq (.symi .i32 655) (.symi .i32 45),
  .bin .neq (.symi .i32 656) (.symi .i32 46),
  .bin .neq (.symi .i32 657) (.symi .i32 47),
  .bin .neq (.symi .i32 658) (.symi .i32 48),
  .bin .neq (.symi .i32 646) (.symi .i32 36),
  .bin .neq (.symi .i32 647) (.symi .i32 37),
  .bin .neq (.symi .i32 645) (.symi .i32 35),
  .bin .neq (.symi .i32 648) (.symi .i32 38),
  .bin .neq (.symi .i32 649) (.symi .i32 39)]

set_option maxRecDepth 100000 in
def apT : LT := .n (.n (.n (.n (.n (.n (.n (.n (.n (.n (.e) 332 34 (.conv .i64 (.symi .i8 0)) (.e)) 376219 69 (.fn 320 .i32 [.symi .u8 64, .symi .u8 65, .symi .u8 66, .int .i64 2]) (.e)) 1611615 406 (.ite (.symb 260) (.symi .u16 27) (.symi .u16 374)) (.n (.n (.e) 1761038 734 (.bin .neq (.symi .i32 655) (.symi .i32 45)) (.e)) 2365649 459 (.ite (.symb 427) (.symi .u8 7) (.symi .u8 432)) (.e))) 3275752 550 (.ite (.symb 264) (.symi .u8 304) (.symi .u8 33)) (.n (.n (.n (.e) 6976871 637 (.bin .neq (.symi .i32 425) (.symi .i32 47)) (.e)) 11956297 579 (.ite (.symb 261) (.symi .u8 284) (.symi .u8 20)) (.e)) 13058784 242 (.fn 448 .i32 [.symi .u16 238, .symi .u16 239, .symi .u16 240, .int .i64 1]) (.n (.n (.e) 14099608 423 (.fn 448 .i32 [.symi .u16 405, .symi .u16 406, .symi .u16 407, .int .i64 2]) (.e)) 15450199 314 (.ite (.symb 265) (.symi .u8 275) (.symi .u8 11)) (.e)))) 22669322 608 (.ite (.symb 260) (.symi .u8 17) (.symi .u8 576)) (.n (.n (.n (.n (.e) 27968412 489 (.ite (.symb 261) (.symi .u8 461) (.symi .u8 9)) (.e)) 28001922 362 (.ite (.symb 261) (.symi .u8 318) (.symi .u8 15)) (.e)) 28782562 537 (.bin .neq (.symi .i32 506) (.symi .i32 42)) (.n (.n (.e) 29749055 731 (.bin .neq (.symi .i32 708) (.symi .i32 42)) (.e)) 30205832 625 (.all [(.symi .u8 593, .symi .u8 2), (.symi .u8 594, .symi .u8 3), (.symi .u8 595, .symi .u8 4), (.symi .i64 596, .symi .i64 5), (.symi .u8 597, .symi .u8 6), (.symi .u8 598, .symi .u8 7), (.symi .u8 599, .symi .u8 8), (.symi .u8 600, .symi .u8 9), (.symi .u8 601, .symi .u8 10), (.symi .u8 602, .symi .u8 11), (.symi .u8 603, .symi .u8 12), (.symi .u8 604, .symi .u8 13), (.symi .i64 605, .symi .i64 14), (.symi .u8 606, .symi .u8 15), (.symi .u8 607, .symi .u8 16), (.symi .u8 608, .symi .u8 17), (.symi .u8 609, .symi .u8 18), (.symi .u8 610, .symi .u8 19), (.symi .u8 611, .symi .u8 20), (.symi .u8 612, .symi .u8 21), (.symi .u8 613, .symi .u8 22), (.symb 614, .symb 23), (.symi .u8 615, .symi .u8 24), (.symi .u8 616, .symi .u8 25), (.symi .u16 617, .symi .u16 26), (.symi .u16 618, .symi .u16 27), (.symi .u16 619, .symi .u16 28), (.symi .u16 620, .symi .u16 29), (.symi .u16 621, .symi .u16 30), (.symi .u16 622, .symi .u16 31), (.symi .u8 623, .symi .u8 32), (.symi .u8 624, .symi .u8 33)]) (.e))) 31055405 523 (.ite (.symb 260) (.symi .u8 21) (.symi .u8 501)) (.n (.n (.n (.e) 32571889 243 (.fn 448 .i32 [.symi .u16 238, .symi .u16 239, .symi .u16 240, .int .i64 2]) (.e)) 33672714 477 (.ite (.symb 427) (.symi .u8 25) (.symi .u8 450)) (.e)) 35008804 483 (.ite (.symb 262) (.symi .i32 478) (.symi .i32 482)) (.n (.e) 43439434 641 (.bin .neq (.symi .i32 413) (.symi .i32 35)) (.e))))) 49088969 399 (.ite (.symb 260) (.symi .u8 20) (.symi .u8 367)) (.n (.n (.n (.n (.n (.e) 52897922 718 (.bin .neq (.symi .i32 684) (.symi .i32 46)) (.e)) 56570373 374 (.ite (.symb 261) (.symi .u16 27) (.symi .u16 345)) (.e)) 59173717 452 (.fn 448 .i32 [.symi .u16 29, .symi .u16 30, .symi .u16 31, .symi .i64 294]) (.n (.n (.e) 59433651 572 (.ite (.symb 261) (.symi .u8 277) (.symi .u8 13)) (.e)) 62927553 307 (.ite (.symb 265) (.symi .u8 268) (.symi .u8 4)) (.e))) 64363309 266 (.fn 384 .u8 apL33) (.n (.n (.n (.e) 64363352 267 (.fn 385 .u8 apL33) (.e)) 64363395 268 (.fn 386 .u8 apL33) (.e)) 65590364 701 (.ite (.symb 260) (.symi .u8 21) (.symi .u8 679)) (.n (.e) 66748984 551 (.ite (.symb 263) (.symi .u16 295) (.symi .u16 29)) (.e)))) 70146676 601 (.ite (.symb 260) (.symi .u8 10) (.symi .u8 569)) (.n (.n (.n (.n (.e) 71316744 61 (.fn 320 .i32 [.symi .u8 58, .symi .u8 59, .symi .u8 60, .int .i64 0]) (.e)) 72463655 534 (.bin .neq (.symi .i32 506) (.symi .i32 39)) (.e)) 74784739 36 (.conv .i32 (.symi .u8 32)) (.n (.n (.e) 75479276 355 (.ite (.symb 261) (.symi .u8 311) (.symi .u8 8)) (.e)) 78532759 516 (.ite (.symb 260) (.symi .i64 14) (.symi .i64 494)) (.e))) 78707170 677 (.ite (.symb 261) (.symi .u8 444) (.symi .u8 19)) (.n (.n (.n (.e) 78798692 218 (.fn 0 .i32 apL26) (.e)) 81150068 470 (.ite (.symb 427) (.symi .u8 18) (.symi .u8 443)) (.e)) 85109202 269 (.fn 128 .i64 apL34) (.n (.e) 85109245 270 (.fn 129 .u8 apL34) (.e)))))) 85109288 271 (.fn 130 .u8 apL34) (.n (.n (.n (.n (.n (.n (.e) 85109331 272 (.fn 131 .u8 apL34) (.e)) 85109374 273 (.fn 132 .u8 apL34) (.e)) 85109417 274 (.fn 133 .u8 apL34) (.n (.n (.e) 85109460 275 (.fn 134 .u8 apL34) (.e)) 85109503 276 (.fn 135 .u8 apL34) (.e))) 85109546 277 (.fn 136 .u8 apL34) (.n (.n (.n (.e) 85109589 278 (.fn 137 .i64 apL34) (.e)) 85109632 279 (.fn 138 .u8 apL34) (.e)) 85109675 280 (.fn 139 .u8 apL34) (.n (.e) 85109718 281 (.fn 140 .u8 apL34) (.e)))) 85109761 282 (.fn 141 .u8 apL34) (.n (.n (.n (.n (.e) 85109804 283 (.fn 142 .u8 apL34) (.e)) 85109847 284 (.fn 143 .u8 apL34) (.e)) 85109890 285 (.fn 144 .u8 apL34) (.n (.n (.e) 85109933 286 (.fn 145 .u8 apL34) (.e)) 85110019 288 (.fn 147 .u8 apL34) (.e))) 85110062 289 (.fn 148 .u8 apL34) (.n (.n (.n (.e) 86950988 652 (.fn 0 .i32 apL46) (.e)) 90307574 257 (.conv .i32 (.symi .u8 53)) (.e)) 90829849 62 (.fn 320 .i32 [.symi .u8 58, .symi .u8 59, .symi .u8 60, .int .i64 1]) (.n (.e) 94234618 325 (.ite (.symb 265) (.symi .u8 286) (.symi .u8 22)) (.e))))) 96566323 392 (.ite (.symb 260) (.symi .u8 13) (.symi .u8 360)) (.n (.n (.n (.n (.n (.e) 96579015 715 (.bin .neq (.symi .i32 684) (.symi .i32 43)) (.e)) 101453741 619 (.ite (.symb 260) (.symi .u16 28) (.symi .u16 587)) (.e)) 103000641 52 (.conv .u8 (.symi .i32 1)) (.n (.n (.e) 103512414 235 (.fn 448 .i32 [.symi .u16 232, .symi .u16 233, .symi .u16 234, .int .i64 0]) (.e)) 106752831 500 (.ite (.symb 261) (.symi .u8 472) (.symi .u8 20)) (.e))) 106911005 565 (.ite (.symb 261) (.symi .u8 270) (.symi .u8 6)) (.n (.n (.n (.e) 108582954 645 (.fn 320 .i32 [.symi .u8 593, .symi .u8 594, .symi .u8 595, .int .i64 0]) (.e)) 110342954 63 (.fn 320 .i32 [.symi .u8 58, .symi .u8 59, .symi .u8 60, .int .i64 2]) (.e)) 111969582 725 (.un .not (.symb 724)) (.n (.e) 112509352 741 (.bin .neq (.symi .i32 648) (.symi .i32 38)) (.e)))) 113067718 694 (.ite (.symb 260) (.symi .i64 14) (.symi .i64 672)) (.n (.n (.n (.n (.e) 116144748 544 (.bin .neq (.symi .i32 506) (.symi .i32 36)) (.e)) 117725185 627 (.bin .neq (.symi .i32 418) (.symi .i32 40)) (.e)) 123025519 236 (.fn 448 .i32 [.symi .u16 232, .symi .u16 233, .symi .u16 234, .int .i64 1]) (.n (.n (.e) 126010113 509 (.ite (.symb 260) (.symi .u8 7) (.symi .u8 487)) (.e)) 126184524 670 (.ite (.symb 261) (.symi .u8 437) (.symi .u8 12)) (.e))) 127873388 410 (.ite (.symb 260) (.symi .u16 31) (.symi .u16 378)) (.n (.n (.n (.e) 128096059 648 (.fn 320 .i32 [.symi .u8 593, .symi .u8 594, .symi .u8 595, .int .i64 1]) (.e)) 128627422 463 (.ite (.symb 427) (.symi .u8 11) (.symi .u8 436)) (.e)) 130445979 167 (.fn 0 .i32 apL18) (.n (.e) 133888534 480 (.ite (.symb 427) (.int .i32 0) (.symi .i32 454)) (.e))))))) 138218070 583 (.ite (.symb 261) (.symi .u8 288) (.symi .u8 24)) (.n (.n (.n (.n (.n (.n (.n (.e) 139770724 418 (.fn 0 .i32 apL37) (.e)) 140260108 712 (.bin .neq (.symi .i32 684) (.symi .i32 40)) (.e)) 141645545 594 (.ite (.symb 260) (.symi .u8 267) (.symi .u8 3)) (.n (.n (.e) 141711972 318 (.ite (.symb 265) (.symi .u8 279) (.symi .u8 15)) (.e)) 142280339 336 (.ite (.symb 265) (.symi .u8 304) (.symi .u8 33)) (.e))) 142538624 237 (.fn 448 .i32 [.symi .u16 232, .symi .u16 233, .symi .u16 234, .int .i64 2]) (.n (.n (.n (.e) 144043677 385 (.ite (.symb 260) (.symi .u8 6) (.symi .u8 353)) (.e)) 147609164 649 (.fn 320 .i32 [.symi .u8 593, .symi .u8 594, .symi .u8 595, .int .i64 2]) (.e)) 148931095 612 (.ite (.symb 260) (.symi .u8 21) (.symi .u8 580)) (.n (.n (.e) 150609064 656 (.fn 448 .i32 [.symi .u16 620, .symi .u16 621, .symi .u16 622, .int .i64 0]) (.e)) 154230185 493 (.ite (.symb 261) (.symi .u8 465) (.symi .u8 13)) (.e)))) 154263695 366 (.ite (.symb 261) (.symi .u8 322) (.symi .u8 19)) (.n (.n (.n (.n (.e) 156412499 587 (.ite (.symb 261) (.symi .u16 28) (.symi .u16 558)) (.e)) 157317178 527 (.ite (.symb 260) (.symi .u8 25) (.symi .u8 505)) (.e)) 159705934 684 (.ite (.symb 260) (.symi .i32 428) (.symi .i32 662)) (.n (.n (.e) 160545072 687 (.ite (.symb 260) (.symi .u8 7) (.symi .u8 665)) (.e)) 170122169 657 (.fn 448 .i32 [.symi .u16 620, .symi .u16 621, .symi .u16 622, .int .i64 1]) (.e))) 171579058 343 (.ite (.symb 263) (.symi .u8 33) (.symi .u8 338)) (.n (.n (.n (.e) 172013385 482 (.ite (.symb 263) (.symi .i32 479) (.symi .i32 481)) (.e)) 173661878 663 (.ite (.symb 261) (.symi .i64 430) (.symi .i64 5)) (.e)) 175350742 403 (.ite (.symb 260) (.symi .u8 24) (.symi .u8 371)) (.n (.e) 176321848 337 (.ite (.symb 264) (.symi .u8 335) (.symi .u8 32)) (.e))))) 177785048 37 (.conv .i32 (.symi .u8 33)) (.n (.n (.n (.n (.n (.e) 178877472 451 (.fn 448 .i32 [.symi .u16 26, .symi .u16 27, .symi .u16 28, .symi .i64 290]) (.e)) 182093266 116 (.fn 0 .i32 apL10) (.e)) 182832146 378 (.ite (.symb 261) (.symi .u16 31) (.symi .u16 349)) (.n (.n (.e) 183941201 722 (.bin .neq (.symi .i32 684) (.symi .i32 37)) (.e)) 185695424 576 (.ite (.symb 261) (.symi .u8 281) (.symi .u8 17)) (.e))) 186795103 732 (.bin .neq (.symi .i32 653) (.symi .i32 43)) (.n (.n (.n (.e) 187574936 349 (.ite (.symb 262) (.symi .u16 31) (.symi .u16 341)) (.e)) 189189326 311 (.ite (.symb 265) (.symi .u8 272) (.symi .u8 8)) (.e)) 189635274 658 (.fn 448 .i32 [.symi .u16 620, .symi .u16 621, .symi .u16 622, .int .i64 2]) (.n (.e) 190458319 659 (.ite (.symb 264) (.symi .i32 454) (.int .i32 0)) (.e)))) 191852137 705 (.ite (.symb 260) (.symi .u8 25) (.symi .u8 683)) (.n (.n (.n (.n (.e) 192010936 635 (.bin .neq (.symi .i32 423) (.symi .i32 45)) (.e)) 193307883 258 (.conv .i32 (.symi .u8 54)) (.e)) 196408449 605 (.ite (.symb 260) (.symi .i64 14) (.symi .i64 573)) (.n (.n (.e) 201707539 486 (.ite (.symb 261) (.symi .u8 458) (.symi .u8 6)) (.e)) 201741049 359 (.ite (.symb 261) (.symi .u8 315) (.symi .u8 12)) (.e))) 204794532 520 (.ite (.symb 260) (.symi .u8 18) (.symi .u8 498)) (.n (.n (.n (.e) 207076893 681 (.ite (.symb 261) (.symb 448) (.symb 23)) (.e)) 207411841 474 (.ite (.symb 427) (.symi .u8 22) (.symi .u8 447)) (.e)) 211056388 339 (.ite (.symb 263) (.symi .u16 332) (.symi .u16 29)) (.n (.e) 212795250 265 (.bin .geq (.symi .i64 34) (.int .i64 0)) (.e)))))) 212945264 259 (.bin .quo (.symi .i64 34) (.int .i64 3)) (.n (.n (.n (.n (.n (.n (.e) 213095355 290 (.bin .sub (.symi .i64 34) (.int .i64 6)) (.e)) 213245460 294 (.bin .sub (.symi .i64 34) (.int .i64 9)) (.e)) 213395635 298 (.bin .eql (.symi .i64 34) (.int .i64 12)) (.n (.n (.e) 213445670 299 (.bin .eql (.symi .i64 34) (.int .i64 13)) (.e)) 213479149 229 (.fn 448 .i32 [.symi .u16 226, .symi .u16 227, .symi .u16 228, .int .i64 0]) (.e))) 213495705 300 (.bin .eql (.symi .i64 34) (.int .i64 14)) (.n (.n (.n (.e) 213495726 531 (.bin .leq (.symi .i64 34) (.int .i64 14)) (.e)) 214783120 727 (.bin .neq (.symi .i32 706) (.symi .i32 40)) (.e)) 222828096 396 (.ite (.symb 260) (.symi .u8 17) (.symi .u8 364)) (.n (.e) 227715514 623 (.ite (.symb 260) (.symi .u8 32) (.symi .u8 591)) (.e)))) 232992254 230 (.fn 448 .i32 [.symi .u16 226, .symi .u16 227, .symi .u16 228, .int .i64 1]) (.n (.n (.n (.n (.e) 233014604 504 (.ite (.symb 261) (.symi .u8 476) (.symi .u8 24)) (.e)) 233172778 569 (.ite (.symb 261) (.symi .u8 274) (.symi .u8 10)) (.e)) 239329491 698 (.ite (.symb 260) (.symi .u8 18) (.symi .u8 676)) (.n (.n (.e) 243885803 598 (.ite (.symb 260) (.symi .u8 7) (.symi .u8 566)) (.e)) 245790928 344 (.ite (.symb 262) (.symi .u16 329) (.symi .u16 26)) (.e))) 249218403 352 (.ite (.symb 261) (.symi .i64 308) (.symi .i64 5)) (.n (.n (.n (.e) 252271886 513 (.ite (.symb 260) (.symi .u8 11) (.symi .u8 491)) (.e)) 252446297 674 (.ite (.symb 261) (.symi .u8 441) (.symi .u8 16)) (.e)) 252483977 557 (.ite (.symb 262) (.symi .u16 292) (.symi .u16 27)) (.n (.e) 252505359 231 (.fn 448 .i32 [.symi .u16 226, .symi .u16 227, .symi .u16 228, .int .i64 2]) (.e))))) 254889195 467 (.ite (.symb 427) (.symi .u8 15) (.symi .u8 440)) (.n (.n (.n (.n (.n (.e) 261080854 737 (.bin .neq (.symi .i32 658) (.symi .i32 48)) (.e)) 267973745 322 (.ite (.symb 265) (.symi .u8 283) (.symi .u8 19)) (.e)) 268023156 217 (.fn 0 .i32 apL25) (.n (.n (.e) 270305450 389 (.ite (.symb 260) (.symi .u8 10) (.symi .u8 357)) (.e)) 271726663 93 (.fn 0 .i32 apL9) (.e))) 275192868 616 (.ite (.symb 260) (.symi .u8 25) (.symi .u8 584)) (.n (.n (.n (.e) 276175452 651 (.fn 0 .i32 apL45) (.e)) 280491958 497 (.ite (.symb 261) (.symi .u8 469) (.symi .u8 17)) (.e)) 282088078 370 (.ite (.symb 261) (.symb 326) (.symb 23)) (.n (.e) 282674272 591 (.ite (.symb 261) (.symi .u8 32) (.symi .u8 562)) (.e)))) 283952943 381 (.ite (.symb 260) (.symi .u8 305) (.symi .u8 2)) (.n (.n (.n (.n (.e) 286806845 691 (.ite (.symb 260) (.symi .u8 11) (.symi .u8 669)) (.e)) 287417062 562 (.ite (.symb 262) (.symi .u8 32) (.symi .u8 554)) (.e)) 296710515 662 (.ite (.symb 261) (.symi .i32 429) (.symi .i32 661)) (.n (.n (.e) 297543417 738 (.bin .neq (.symi .i32 646) (.symi .i32 36)) (.e)) 299897559 43 (.fn 448 .i32 [.symi .u16 26, .symi .u16 27, .symi .u16 28, .int .i64 0]) (.e))) 299923651 667 (.ite (.symb 261) (.symi .u8 434) (.symi .u8 9)) (.n (.n (.n (.e) 300214672 454 (.ite (.symb 298) (.symi .i32 36) (.symi .i32 453)) (.e)) 301612515 407 (.ite (.symb 260) (.symi .u16 28) (.symi .u16 375)) (.e)) 302366549 460 (.ite (.symb 427) (.symi .u8 8) (.symi .u8 433)) (.n (.e) 302759250 642 (.bin .neq (.symi .i32 416) (.symi .i32 38)) (.e)))))))) 305306180 632 (.bin .neq (.symi .i32 530) (.symi .i32 42)) (.n (.n (.n (.n (.n (.n (.n (.n (.e) 311957197 580 (.ite (.symb 261) (.symi .u8 285) (.symi .u8 21)) (.e)) 315451099 315 (.ite (.symb 265) (.symi .u8 276) (.symi .u8 12)) (.e)) 316315250 303 (.ite (.symb 298) (.symi .u8 52) (.symi .u8 32)) (.n (.n (.e) 319410664 44 (.fn 448 .i32 [.symi .u16 26, .symi .u16 27, .symi .u16 28, .int .i64 1]) (.e)) 319670443 166 (.fn 0 .i32 apL17) (.e))) 322286602 88 (.fnb 146 apL6) (.n (.n (.n (.e) 322670222 609 (.ite (.symb 260) (.symi .u8 18) (.symi .u8 577)) (.e)) 323445884 223 (.fn 448 .i32 [.symi .u16 220, .symi .u16 221, .symi .u16 222, .int .i64 0]) (.e)) 327969312 490 (.ite (.symb 261) (.symi .u8 462) (.symi .u8 10)) (.n (.n (.e) 328002822 363 (.ite (.symb 261) (.symi .u8 319) (.symi .u8 16)) (.e)) 328455047 541 (.bin .neq (.symi .i32 506) (.symi .i32 46)) (.e)))) 331056305 524 (.ite (.symb 260) (.symi .u8 22) (.symi .u8 502)) (.n (.n (.n (.n (.e) 338245904 49 (.fn 384 .u8 apL3) (.e)) 338245947 50 (.fn 385 .u8 apL3) (.e)) 338245990 51 (.fn 386 .u8 apL3) (.n (.n (.e) 338923769 45 (.fn 448 .i32 [.symi .u16 26, .symi .u16 27, .symi .u16 28, .int .i64 2]) (.e)) 341499002 661 (.ite (.symb 262) (.symi .i32 451) (.symi .i32 660)) (.e))) 342958989 224 (.fn 448 .i32 [.symi .u16 220, .symi .u16 221, .symi .u16 222, .int .i64 1]) (.n (.n (.n (.e) 344758158 332 (.ite (.symb 265) (.symi .u16 295) (.symi .u16 29)) (.e)) 345691884 547 (.all [(.symi .i64 507, .symi .i64 5), (.symi .u8 508, .symi .u8 6), (.symi .u8 509, .symi .u8 7), (.symi .u8 510, .symi .u8 8), (.symi .u8 511, .symi .u8 9), (.symi .u8 512, .symi .u8 10), (.symi .u8 513, .symi .u8 11), (.symi .u8 514, .symi .u8 12), (.symi .u8 515, .symi .u8 13), (.symi .i64 516, .symi .i64 14), (.symi .u8 517, .symi .u8 15), (.symi .u8 518, .symi .u8 16), (.symi .u8 519, .symi .u8 17), (.symi .u8 520, .symi .u8 18), (.symi .u8 521, .symi .u8 19), (.symi .u8 522, .symi .u8 20), (.symi .u8 523, .symi .u8 21), (.symi .u8 524, .symi .u8 22), (.symb 525, .symb 23), (.symi .u8 526, .symi .u8 24), (.symi .u8 527, .symi .u8 25)]) (.e)) 349089869 400 (.ite (.symb 260) (.symi .u8 21) (.symi .u8 368)) (.n (.e) 356571273 375 (.ite (.symb 261) (.symi .u16 28) (.symi .u16 346)) (.e))))) 357759009 58 (.fn 384 .u8 apL4) (.n (.n (.n (.n (.n (.e) 357759052 59 (.fn 385 .u8 apL4) (.e)) 357759095 60 (.fn 386 .u8 apL4) (.e)) 359434551 573 (.ite (.symb 261) (.symi .i64 278) (.symi .i64 14)) (.n (.n (.e) 362472094 225 (.fn 448 .i32 [.symi .u16 220, .symi .u16 221, .symi .u16 222, .int .i64 2]) (.e)) 362928453 308 (.ite (.symb 265) (.symi .i64 269) (.symi .i64 5)) (.e))) 364740725 723 (.bin .neq (.symi .i32 684) (.int .i32 0)) (.n (.n (.n (.e) 365591264 702 (.ite (.symb 260) (.symi .u8 22) (.symi .u8 680)) (.e)) 366749884 552 (.ite (.symb 263) (.symi .u16 296) (.symi .u16 30)) (.e)) 369496838 329 (.ite (.symb 265) (.symi .u16 291) (.symi .u16 26)) (.n (.e) 370147576 602 (.ite (.symb 260) (.symi .u8 11) (.symi .u8 570)) (.e)))) 371829168 728 (.bin .neq (.symi .i32 651) (.symi .i32 41)) (.n (.n (.n (.n (.e) 372136140 538 (.bin .neq (.symi .i32 506) (.symi .i32 43)) (.e)) 375480176 356 (.ite (.symb 261) (.symi .u8 312) (.symi .u8 9)) (.e)) 377045001 633 (.bin .neq (.symi .i32 421) (.symi .i32 43)) (.n (.n (.e) 377272114 64 (.fn 384 .u8 apL5) (.e)) 377272157 65 (.fn 385 .u8 apL5) (.e))) 377272200 66 (.fn 386 .u8 apL5) (.n (.n (.n (.e) 378533659 517 (.ite (.symb 260) (.symi .u8 15) (.symi .u8 495)) (.e)) 378708070 678 (.ite (.symb 261) (.symi .u8 445) (.symi .u8 20)) (.e)) 380272014 238 (.fn 512 .u16 apL30) (.n (.e) 380272057 239 (.fn 513 .u16 apL30) (.e)))))) 380272100 240 (.fn 514 .u16 apL30) (.n (.n (.n (.n (.n (.n (.e) 381150968 471 (.ite (.symb 427) (.symi .u8 19) (.symi .u8 444)) (.e)) 389285023 260 (.bin .eql (.symi .i64 259) (.int .i64 0)) (.e)) 389335058 261 (.bin .eql (.symi .i64 259) (.int .i64 1)) (.n (.n (.e) 389335065 644 (.bin .neq (.symi .i64 259) (.int .i64 1)) (.e)) 389385093 262 (.bin .eql (.symi .i64 259) (.int .i64 2)) (.e))) 389435128 263 (.bin .eql (.symi .i64 259) (.int .i64 3)) (.n (.n (.n (.e) 389485163 264 (.bin .eql (.symi .i64 259) (.int .i64 4)) (.e)) 395623798 326 (.ite (.symb 265) (.symb 287) (.symb 23)) (.e)) 396251500 719 (.bin .neq (.symi .i32 684) (.symi .i32 47)) (.n (.e) 396567223 393 (.ite (.symb 260) (.symi .i64 14) (.symi .i64 361)) (.e)))) 399785119 244 (.fn 512 .u16 apL31) (.n (.n (.n (.n (.e) 399785162 245 (.fn 513 .u16 apL31) (.e)) 399785205 246 (.fn 514 .u16 apL31) (.e)) 400476420 287 (.fnb 146 apL34) (.n (.n (.e) 401454641 620 (.ite (.symb 260) (.symi .u16 29) (.symi .u16 588)) (.e)) 406753731 501 (.ite (.symb 261) (.symi .u8 473) (.symi .u8 21)) (.e))) 406911905 566 (.ite (.symb 261) (.symi .u8 271) (.symi .u8 7)) (.n (.n (.n (.e) 409303840 143 (.fn 0 .i32 apL16) (.e)) 413068618 695 (.ite (.symb 260) (.symi .u8 15) (.symi .u8 673)) (.e)) 414934834 413 (.fn 320 .i32 [.symi .u8 381, .symi .u8 382, .symi .u8 383, .int .i64 0]) (.n (.e) 414998881 42 (.fn 0 .i32 apL2) (.e))))) 415001633 194 (.fn 64 .i32 apL2) (.n (.n (.n (.n (.n (.e) 415001676 195 (.fn 65 .i64 apL2) (.e)) 415001719 196 (.fn 66 .u8 apL2) (.e)) 415001762 197 (.fn 67 .u8 apL2) (.n (.n (.e) 415001805 198 (.fn 68 .u8 apL2) (.e)) 415001848 199 (.fn 69 .u8 apL2) (.e))) 415001891 200 (.fn 70 .u8 apL2) (.n (.n (.n (.e) 415001934 201 (.fn 71 .u8 apL2) (.e)) 415001977 202 (.fn 72 .u8 apL2) (.e)) 415002020 203 (.fn 73 .u8 apL2) (.n (.e) 415002063 204 (.fn 74 .i64 apL2) (.e)))) 415002106 205 (.fn 75 .u8 apL2) (.n (.n (.n (.n (.e) 415002149 206 (.fn 76 .u8 apL2) (.e)) 415002192 207 (.fn 77 .u8 apL2) (.e)) 415002235 208 (.fn 78 .u8 apL2) (.n (.n (.e) 415002278 209 (.fn 79 .u8 apL2) (.e)) 415002321 210 (.fn 80 .u8 apL2) (.e))) 415002364 211 (.fn 81 .u8 apL2) (.n (.n (.n (.e) 415002407 212 (.fn 82 .u8 apL2) (.e)) 415002493 214 (.fn 84 .u8 apL2) (.e)) 415002536 215 (.fn 85 .u8 apL2) (.n (.e) 415817233 535 (.bin .neq (.symi .i32 506) (.symi .i32 40)) (.e))))))) 419298224 250 (.fn 512 .u16 apL32) (.n (.n (.n (.n (.n (.n (.n (.e) 419298267 251 (.fn 513 .u16 apL32) (.e)) 419298310 252 (.fn 514 .u16 apL32) (.e)) 421252715 302 (.ite (.symb 299) (.symi .u8 53) (.symi .u8 301)) (.n (.n (.e) 426011013 510 (.ite (.symb 260) (.symi .u8 8) (.symi .u8 488)) (.e)) 426185424 671 (.ite (.symb 261) (.symi .u8 438) (.symi .u8 13)) (.e))) 427874288 411 (.ite (.symb 260) (.symi .u8 32) (.symi .u8 379)) (.n (.n (.n (.e) 428628322 464 (.ite (.symb 427) (.symi .u8 12) (.symi .u8 437)) (.e)) 434447939 416 (.fn 320 .i32 [.symi .u8 381, .symi .u8 382, .symi .u8 383, .int .i64 1]) (.e)) 438218970 584 (.ite (.symb 261) (.symi .u8 289) (.symi .u8 25)) (.n (.e) 439932593 716 (.bin .neq (.symi .i32 684) (.symi .i32 44)) (.e)))) 441646445 595 (.ite (.symb 260) (.symi .u8 268) (.symi .u8 4)) (.n (.n (.n (.n (.e) 441712872 319 (.ite (.symb 265) (.symi .u8 280) (.symi .u8 16)) (.e)) 444044577 386 (.ite (.symb 260) (.symi .u8 7) (.symi .u8 354)) (.e)) 446114919 735 (.bin .neq (.symi .i32 656) (.symi .i32 46)) (.n (.n (.e) 448931995 613 (.ite (.symb 260) (.symi .u8 22) (.symi .u8 581)) (.e)) 451330752 638 (.bin .neq (.symi .i32 426) (.symi .i32 48)) (.e))) 453961044 417 (.fn 320 .i32 [.symi .u8 381, .symi .u8 382, .symi .u8 383, .int .i64 2]) (.n (.n (.n (.e) 454231085 494 (.ite (.symb 261) (.symi .i64 466) (.symi .i64 14)) (.e)) 454264595 367 (.ite (.symb 261) (.symi .u8 323) (.symi .u8 20)) (.e)) 456413399 588 (.ite (.symb 261) (.symi .u16 29) (.symi .u16 559)) (.n (.e) 456960944 424 (.fn 448 .i32 [.symi .u16 408, .symi .u16 409, .symi .u16 410, .int .i64 0]) (.e))))) 457196078 414 (.conv .i32 (.symi .u8 411)) (.n (.n (.n (.n (.n (.e) 457247620 216 (.fn 0 .i32 apL24) (.e)) 459498326 545 (.bin .neq (.symi .i32 506) (.symi .i32 37)) (.e)) 460451971 138 (.fnb 146 apL13) (.n (.n (.e) 460545972 688 (.ite (.symb 260) (.symi .u8 8) (.symi .u8 666)) (.e)) 460951127 92 (.fn 0 .i32 apL8) (.e))) 461156189 559 (.ite (.symb 262) (.symi .u16 29) (.symi .u16 551)) (.n (.n (.n (.e) 465399916 650 (.fn 0 .i32 apL44) (.e)) 465876400 428 (.fn 320 .i32 [.symi .u8 2, .symi .u8 3, .symi .u8 4, .symi .i64 34]) (.e)) 473662778 664 (.ite (.symb 261) (.symi .u8 431) (.symi .u8 6)) (.n (.e) 475351642 404 (.ite (.symb 260) (.symi .u8 25) (.symi .u8 372)) (.e)))) 476105676 457 (.ite (.symb 427) (.symi .i64 5) (.symi .i64 430)) (.n (.n (.n (.n (.e) 476322748 338 (.ite (.symb 264) (.symi .u8 336) (.symi .u8 33)) (.e)) 476474049 425 (.fn 448 .i32 [.symi .u16 408, .symi .u16 409, .symi .u16 410, .int .i64 1]) (.e)) 478503583 660 (.ite (.symb 263) (.symi .i32 452) (.symi .i32 659)) (.n (.n (.e) 482833046 379 (.ite (.symb 261) (.symi .u8 32) (.symi .u8 350)) (.e)) 483613686 713 (.bin .neq (.symi .i32 684) (.symi .i32 41)) (.e))) 485696324 577 (.ite (.symb 261) (.symi .u8 282) (.symi .u8 18)) (.n (.n (.n (.e) 487575836 350 (.ite (.symb 262) (.symi .u8 32) (.symi .u8 342)) (.e)) 487793315 639 (.bin .neq (.symi .i32 414) (.symi .i32 36)) (.e)) 487990700 548 (.un .not (.symb 547)) (.n (.e) 489190226 312 (.ite (.symb 265) (.symi .u8 273) (.symi .u8 9)) (.e)))))) 490340245 628 (.bin .neq (.symi .i32 528) (.symi .i32 40)) (.n (.n (.n (.n (.n (.n (.e) 495987154 426 (.fn 448 .i32 [.symi .u16 408, .symi .u16 409, .symi .u16 410, .int .i64 2]) (.e)) 496409349 606 (.ite (.symb 260) (.symi .u8 15) (.symi .u8 574)) (.e)) 501708439 487 (.ite (.symb 261) (.symi .u8 459) (.symi .u8 7)) (.n (.n (.e) 501741949 360 (.ite (.symb 261) (.symi .u8 316) (.symi .u8 13)) (.e)) 502844064 455 (.ite (.symb 427) (.int .i32 0) (.symi .i32 428)) (.e))) 504795432 521 (.ite (.symb 260) (.symi .u8 19) (.symi .u8 499)) (.n (.n (.n (.e) 504969843 682 (.ite (.symb 261) (.symi .u8 449) (.symi .u8 24)) (.e)) 509546191 475 (.ite (.symb 427) (.symb 23) (.symb 448)) (.e)) 511057288 340 (.ite (.symb 263) (.symi .u16 333) (.symi .u16 30)) (.n (.e) 522828996 397 (.ite (.symb 260) (.symi .u8 18) (.symi .u8 365)) (.e)))) 527294779 710 (.bin .neq (.symi .i32 684) (.symi .i32 38)) (.n (.n (.n (.n (.e) 527716414 624 (.ite (.symb 260) (.symi .u8 33) (.symi .u8 592)) (.e)) 533015504 505 (.ite (.symb 261) (.symi .u8 477) (.symi .u8 25)) (.e)) 533173678 570 (.ite (.symb 261) (.symi .u8 275) (.symi .u8 11)) (.n (.n (.e) 536667580 305 (.ite (.symb 265) (.symi .u8 266) (.symi .u8 2)) (.e)) 539330391 699 (.ite (.symb 260) (.symi .u8 19) (.symi .u8 677)) (.e))) 543886703 599 (.ite (.symb 260) (.symi .u8 8) (.symi .u8 567)) (.n (.n (.n (.e) 545791828 345 (.ite (.symb 262) (.symi .u16 330) (.symi .u16 27)) (.e)) 546881017 193 (.fn 0 .i32 apL23) (.e)) 549219303 353 (.ite (.symb 261) (.symi .u8 309) (.symi .u8 6)) (.n (.e) 551112254 113 (.fnb 83 apL0) (.e))))) 552272786 514 (.ite (.symb 260) (.symi .u8 12) (.symi .u8 492)) (.n (.n (.n (.n (.n (.e) 552447197 675 (.ite (.symb 261) (.symi .u8 442) (.symi .u8 17)) (.e)) 552484877 558 (.ite (.symb 262) (.symi .u16 293) (.symi .u16 28)) (.e)) 554890095 468 (.ite (.symb 427) (.symi .u8 16) (.symi .u8 441)) (.n (.n (.e) 556863233 742 (.bin .neq (.symi .i32 649) (.symi .i32 39)) (.e)) 560196387 415 (.conv .i32 (.symi .u8 412)) (.e))) 562079066 629 (.bin .neq (.symi .i32 419) (.symi .i32 41)) (.n (.n (.n (.e) 567974645 323 (.ite (.symb 265) (.symi .u8 284) (.symi .u8 20)) (.e)) 568061565 708 (.fn 0 .i32 apL49) (.e)) 570306350 390 (.ite (.symb 260) (.symi .u8 11) (.symi .u8 358)) (.n (.e) 570975872 709 (.bin .neq (.symi .i32 684) (.symi .i32 35)) (.e)))) 575193768 617 (.ite (.symb 260) (.symi .u16 26) (.symi .u16 585)) (.n (.n (.n (.n (.e) 580492858 498 (.ite (.symb 261) (.symi .u8 470) (.symi .u8 18)) (.e)) 580526368 371 (.ite (.symb 261) (.symi .u8 327) (.symi .u8 24)) (.e)) 582675172 592 (.ite (.symb 261) (.symi .u8 33) (.symi .u8 563)) (.n (.n (.e) 583953843 382 (.ite (.symb 260) (.symi .u8 306) (.symi .u8 3)) (.e)) 586807745 692 (.ite (.symb 260) (.symi .u8 12) (.symi .u8 670)) (.e))) 587417962 563 (.ite (.symb 262) (.symi .u8 33) (.symi .u8 555)) (.n (.n (.n (.e) 598528304 142 (.fn 0 .i32 apL15) (.e)) 598617340 188 (.fnb 146 apL20) (.e)) 599750140 507 (.ite (.symb 260) (.symi .i64 5) (.symi .i64 485)) (.n (.e) 599924551 668 (.ite (.symb 261) (.symi .u8 435) (.symi .u8 10)) (.e))))))))) 601613415 408 (.ite (.symb 260) (.symi .u16 29) (.symi .u16 376)) (.n (.n (.n (.n (.n (.n (.n (.n (.n (.e) 602367449 461 (.ite (.symb 427) (.symi .u8 9) (.symi .u8 434)) (.e)) 603748744 170 (.fn 128 .i64 apL20) (.e)) 603748787 171 (.fn 129 .u8 apL20) (.n (.n (.e) 603748830 172 (.fn 130 .u8 apL20) (.e)) 603748873 173 (.fn 131 .u8 apL20) (.e))) 603748916 174 (.fn 132 .u8 apL20) (.n (.n (.n (.e) 603748959 175 (.fn 133 .u8 apL20) (.e)) 603749002 176 (.fn 134 .u8 apL20) (.e)) 603749045 177 (.fn 135 .u8 apL20) (.n (.n (.e) 603749088 178 (.fn 136 .u8 apL20) (.e)) 603749131 179 (.fn 137 .i64 apL20) (.e)))) 603749174 180 (.fn 138 .u8 apL20) (.n (.n (.n (.n (.e) 603749217 181 (.fn 139 .u8 apL20) (.e)) 603749260 182 (.fn 140 .u8 apL20) (.e)) 603749303 183 (.fn 141 .u8 apL20) (.n (.n (.e) 603749346 184 (.fn 142 .u8 apL20) (.e)) 603749389 185 (.fn 143 .u8 apL20) (.e))) 603749432 186 (.fn 144 .u8 apL20) (.n (.n (.n (.e) 603749475 187 (.fn 145 .u8 apL20) (.e)) 603749561 189 (.fn 147 .u8 apL20) (.e)) 603749604 190 (.fn 148 .u8 apL20) (.n (.e) 604223345 41 (.fn 0 .i32 apL1) (.e))))) 604226097 144 (.fn 64 .i32 apL1) (.n (.n (.n (.n (.n (.e) 604226140 145 (.fn 65 .i64 apL1) (.e)) 604226183 146 (.fn 66 .u8 apL1) (.e)) 604226226 147 (.fn 67 .u8 apL1) (.n (.n (.e) 604226269 148 (.fn 68 .u8 apL1) (.e)) 604226312 149 (.fn 69 .u8 apL1) (.e))) 604226355 150 (.fn 70 .u8 apL1) (.n (.n (.n (.e) 604226398 151 (.fn 71 .u8 apL1) (.e)) 604226441 152 (.fn 72 .u8 apL1) (.e)) 604226484 153 (.fn 73 .u8 apL1) (.n (.e) 604226527 154 (.fn 74 .i64 apL1) (.e)))) 604226570 155 (.fn 75 .u8 apL1) (.n (.n (.n (.n (.e) 604226613 156 (.fn 76 .u8 apL1) (.e)) 604226656 157 (.fn 77 .u8 apL1) (.e)) 604226699 158 (.fn 78 .u8 apL1) (.n (.n (.e) 604226742 159 (.fn 79 .u8 apL1) (.e)) 604226785 160 (.fn 80 .u8 apL1) (.e))) 604226828 161 (.fn 81 .u8 apL1) (.n (.n (.n (.e) 604226871 162 (.fn 82 .u8 apL1) (.e)) 604226957 164 (.fn 84 .u8 apL1) (.e)) 604227000 165 (.fn 85 .u8 apL1) (.n (.e) 611958097 581 (.ite (.symb 261) (.symi .u8 286) (.symi .u8 22)) (.e)))))) 615451999 316 (.ite (.symb 265) (.symi .u8 277) (.symi .u8 13)) (.n (.n (.n (.n (.n (.n (.e) 622671122 610 (.ite (.symb 260) (.symi .u8 19) (.symi .u8 578)) (.e)) 627970212 491 (.ite (.symb 261) (.symi .u8 463) (.symi .u8 11)) (.e)) 628003722 364 (.ite (.symb 261) (.symi .u8 320) (.symi .u8 17)) (.n (.n (.e) 629302072 448 (.fnb 83 apL40) (.e)) 630152526 585 (.ite (.symb 261) (.symi .u16 26) (.symi .u16 556)) (.e))) 631148984 733 (.bin .neq (.symi .i32 654) (.symi .i32 44)) (.n (.n (.n (.e) 633439805 525 (.ite (.symb 260) (.symb 23) (.symb 503)) (.e)) 634285099 685 (.ite (.symb 260) (.symi .i64 5) (.symi .i64 663)) (.e)) 636364817 636 (.bin .neq (.symi .i32 424) (.symi .i32 46)) (.n (.e) 640297850 546 (.bin .neq (.symi .i32 506) (.int .i32 0)) (.e)))) 644759058 333 (.ite (.symb 265) (.symi .u16 296) (.symi .u16 30)) (.n (.n (.n (.n (.e) 649090769 401 (.ite (.symb 260) (.symi .u8 22) (.symi .u8 369)) (.e)) 650175591 91 (.fn 0 .i32 apL7) (.e)) 653844517 456 (.ite (.symb 427) (.int .i32 0) (.symi .i32 429)) (.n (.n (.e) 656572173 376 (.ite (.symb 261) (.symi .u16 29) (.symi .u16 347)) (.e)) 659137001 729 (.bin .neq (.symi .i32 707) (.symi .i32 41)) (.e))) 659435451 574 (.ite (.symb 261) (.symi .u8 279) (.symi .u8 15)) (.n (.n (.n (.e) 661314963 347 (.ite (.symb 262) (.symi .u16 29) (.symi .u16 339)) (.e)) 662929353 309 (.ite (.symb 265) (.symi .u8 270) (.symi .u8 6)) (.e)) 666750784 553 (.ite (.symb 263) (.symi .u16 297) (.symi .u16 31)) (.n (.e) 668781104 703 (.ite (.symb 260) (.symb 23) (.symb 681)) (.e))))) 669497738 330 (.ite (.symb 265) (.symi .u16 292) (.symi .u16 27)) (.n (.n (.n (.n (.n (.e) 670148476 603 (.ite (.symb 260) (.symi .u8 12) (.symi .u8 571)) (.e)) 671808625 542 (.bin .neq (.symi .i32 506) (.symi .i32 47)) (.e)) 674465122 304 (.ite (.symb 298) (.symi .u8 33) (.symi .u8 302)) (.n (.n (.e) 675481076 357 (.ite (.symb 261) (.symi .u8 313) (.symi .u8 10)) (.e)) 678534559 518 (.ite (.symb 260) (.symi .u8 16) (.symi .u8 496)) (.e))) 678708970 679 (.ite (.symb 261) (.symi .u8 446) (.symi .u8 21)) (.n (.n (.n (.e) 679582238 530 (.fn 0 .i32 apL43) (.e)) 679623650 119 (.bin .neq (.symi .i32 94) (.symi .i32 40)) (.e)) 681151868 472 (.ite (.symb 427) (.symi .u8 20) (.symi .u8 445)) (.n (.e) 689277623 163 (.fnb 83 apL1) (.e)))) 694236418 327 (.ite (.symb 265) (.symi .u8 288) (.symi .u8 24)) (.n (.n (.n (.n (.e) 696568123 394 (.ite (.symb 260) (.symi .u8 15) (.symi .u8 362)) (.e)) 701455541 621 (.ite (.symb 260) (.symi .u16 30) (.symi .u16 589)) (.e)) 704283243 169 (.bin .neq (.symi .i32 144) (.symi .i32 41)) (.n (.n (.e) 706754631 502 (.ite (.symb 261) (.symi .u8 474) (.symi .u8 22)) (.e)) 706912805 567 (.ite (.symb 261) (.symi .u8 272) (.symi .u8 8)) (.e))) 713069518 696 (.ite (.symb 260) (.symi .u8 16) (.symi .u8 674)) (.n (.n (.n (.e) 715489718 539 (.bin .neq (.symi .i32 506) (.symi .i32 44)) (.e)) 717625830 596 (.ite (.symb 260) (.symi .i64 5) (.symi .i64 564)) (.e)) 726011913 511 (.ite (.symb 260) (.symi .u8 9) (.symi .u8 489)) (.n (.e) 726186324 672 (.ite (.symb 261) (.symi .i64 439) (.symi .i64 14)) (.e))))))) 727875188 412 (.ite (.symb 260) (.symi .u8 33) (.symi .u8 380)) (.n (.n (.n (.n (.n (.n (.n (.e) 728629222 465 (.ite (.symb 427) (.symi .u8 13) (.symi .u8 438)) (.e)) 728942836 219 (.bin .neq (.symi .i32 194) (.symi .i32 42)) (.e)) 731402453 295 (.fn 512 .u16 apL36) (.n (.n (.e) 731402496 296 (.fn 513 .u16 apL36) (.e)) 731402539 297 (.fn 514 .u16 apL36) (.e))) 736105481 192 (.fn 0 .i32 apL22) (.n (.n (.n (.e) 739605078 720 (.bin .neq (.symi .i32 684) (.symi .i32 48)) (.e)) 739758995 35 (.fn 320 .i32 [.symi .u8 2, .symi .u8 3, .symi .u8 4, .int .i64 0]) (.e)) 741713772 320 (.ite (.symb 265) (.symi .u8 281) (.symi .u8 17)) (.n (.n (.e) 741897298 739 (.bin .neq (.symi .i32 647) (.symi .i32 37)) (.e)) 742463345 653 (.fn 448 .i32 [.symi .u16 617, .symi .u16 618, .symi .u16 619, .int .i64 0]) (.e)))) 744045477 387 (.ite (.symb 260) (.symi .u8 8) (.symi .u8 355)) (.n (.n (.n (.n (.e) 745161211 554 (.ite (.symb 263) (.symi .u8 32) (.symi .u8 549)) (.e)) 747113131 643 (.bin .neq (.symi .i32 417) (.symi .i32 39)) (.e)) 751673365 614 (.ite (.symb 260) (.symb 23) (.symb 582)) (.n (.n (.e) 754231985 495 (.ite (.symb 261) (.symi .u8 467) (.symi .u8 15)) (.e)) 754265495 368 (.ite (.symb 261) (.symi .u8 324) (.symi .u8 21)) (.e))) 754629002 478 (.ite (.symb 427) (.int .i32 0) (.symi .i32 451)) (.n (.n (.n (.e) 756414299 589 (.ite (.symb 261) (.symi .u16 30) (.symi .u16 560)) (.e)) 757286029 707 (.fn 0 .i32 apL48) (.e)) 759170811 536 (.bin .neq (.symi .i32 506) (.symi .i32 41)) (.n (.e) 759272100 38 (.fn 320 .i32 [.symi .u8 2, .symi .u8 3, .symi .u8 4, .int .i64 1]) (.e))))) 760546872 689 (.ite (.symb 260) (.symi .u8 9) (.symi .u8 667)) (.n (.n (.n (.n (.n (.e) 761157089 560 (.ite (.symb 262) (.symi .u16 30) (.symi .u16 552)) (.e)) 761976450 654 (.fn 448 .i32 [.symi .u16 617, .symi .u16 618, .symi .u16 619, .int .i64 1]) (.e)) 773137760 55 (.fn 320 .i32 [.symi .u8 49, .symi .u8 50, .symi .u8 51, .int .i64 0]) (.n (.n (.e) 773663678 665 (.ite (.symb 261) (.symi .u8 432) (.symi .u8 7)) (.e)) 775352542 405 (.ite (.symb 260) (.symi .u16 26) (.symi .u16 373)) (.e))) 776106576 458 (.ite (.symb 427) (.symi .u8 6) (.symi .u8 431)) (.n (.n (.n (.e) 777016679 549 (.ite (.symb 264) (.symi .u8 303) (.symi .u8 32)) (.e)) 778785205 39 (.fn 320 .i32 [.symi .u8 2, .symi .u8 3, .symi .u8 4, .int .i64 2]) (.e)) 781489555 655 (.fn 448 .i32 [.symi .u16 617, .symi .u16 618, .symi .u16 619, .int .i64 2]) (.n (.e) 781785105 46 (.fn 448 .i32 [.symi .u16 29, .symi .u16 30, .symi .u16 31, .int .i64 0]) (.e)))) 782833946 380 (.ite (.symb 261) (.symi .u8 33) (.symi .u8 351)) (.n (.n (.n (.n (.e) 783286171 717 (.bin .neq (.symi .i32 684) (.symi .i32 45)) (.e)) 785697224 578 (.ite (.symb 261) (.symi .u8 283) (.symi .u8 19)) (.e)) 786331715 53 (.bin .or (.symi .u8 33) (.symi .u8 52)) (.n (.n (.e) 786331743 54 (.bin .andNot (.symi .u8 33) (.symi .u8 52)) (.e)) 787576736 351 (.ite (.symb 262) (.symi .u8 33) (.symi .u8 343)) (.e))) 787752768 141 (.fn 0 .i32 apL14) (.n (.n (.n (.e) 789191126 313 (.ite (.symb 265) (.symi .u8 274) (.symi .u8 10)) (.e)) 790463827 724 (.all [(.symi .i64 685, .symi .i64 5), (.symi .u8 686, .symi .u8 6), (.symi .u8 687, .symi .u8 7), (.symi .u8 688, .symi .u8 8), (.symi .u8 689, .symi .u8 9), (.symi .u8 690, .symi .u8 10), (.symi .u8 691, .symi .u8 11), (.symi .u8 692, .symi .u8 12), (.symi .u8 693, .symi .u8 13), (.symi .i64 694, .symi .i64 14), (.symi .u8 695, .symi .u8 15), (.symi .u8 696, .symi .u8 16), (.symi .u8 697, .symi .u8 17), (.symi .u8 698, .symi .u8 18), (.symi .u8 699, .symi .u8 19), (.symi .u8 700, .symi .u8 20), (.symi .u8 701, .symi .u8 21), (.symi .u8 702, .symi .u8 22), (.symb 703, .symb 23), (.symi .u8 704, .symi .u8 24), (.symi .u8 705, .symi .u8 25)]) (.e)) 792650865 56 (.fn 320 .i32 [.symi .u8 49, .symi .u8 50, .symi .u8 51, .int .i64 1]) (.n (.e) 792973208 120 (.fn 128 .i64 apL13) (.e)))))) 792973251 121 (.fn 129 .u8 apL13) (.n (.n (.n (.n (.n (.n (.e) 792973294 122 (.fn 130 .u8 apL13) (.e)) 792973337 123 (.fn 131 .u8 apL13) (.e)) 792973380 124 (.fn 132 .u8 apL13) (.n (.n (.e) 792973423 125 (.fn 133 .u8 apL13) (.e)) 792973466 126 (.fn 134 .u8 apL13) (.e))) 792973509 127 (.fn 135 .u8 apL13) (.n (.n (.n (.e) 792973552 128 (.fn 136 .u8 apL13) (.e)) 792973595 129 (.fn 137 .i64 apL13) (.e)) 792973638 130 (.fn 138 .u8 apL13) (.n (.e) 792973681 131 (.fn 139 .u8 apL13) (.e)))) 792973724 132 (.fn 140 .u8 apL13) (.n (.n (.n (.n (.e) 792973767 133 (.fn 141 .u8 apL13) (.e)) 792973810 134 (.fn 142 .u8 apL13) (.e)) 792973853 135 (.fn 143 .u8 apL13) (.n (.n (.e) 792973896 136 (.fn 144 .u8 apL13) (.e)) 792973939 137 (.fn 145 .u8 apL13) (.e))) 792974025 139 (.fn 147 .u8 apL13) (.n (.n (.n (.e) 792974068 140 (.fn 148 .u8 apL13) (.e)) 793447809 40 (.fn 0 .i32 apL0) (.e)) 793450561 94 (.fn 64 .i32 apL0) (.n (.e) 793450604 95 (.fn 65 .i64 apL0) (.e))))) 793450647 96 (.fn 66 .u8 apL0) (.n (.n (.n (.n (.n (.e) 793450690 97 (.fn 67 .u8 apL0) (.e)) 793450733 98 (.fn 68 .u8 apL0) (.e)) 793450776 99 (.fn 69 .u8 apL0) (.n (.n (.e) 793450819 100 (.fn 70 .u8 apL0) (.e)) 793450862 101 (.fn 71 .u8 apL0) (.e))) 793450905 102 (.fn 72 .u8 apL0) (.n (.n (.n (.e) 793450948 103 (.fn 73 .u8 apL0) (.e)) 793450991 104 (.fn 74 .i64 apL0) (.e)) 793451034 105 (.fn 75 .u8 apL0) (.n (.e) 793451077 106 (.fn 76 .u8 apL0) (.e)))) 793451120 107 (.fn 77 .u8 apL0) (.n (.n (.n (.n (.e) 793451163 108 (.fn 78 .u8 apL0) (.e)) 793451206 109 (.fn 79 .u8 apL0) (.e)) 793451249 110 (.fn 80 .u8 apL0) (.n (.n (.e) 793451292 111 (.fn 81 .u8 apL0) (.e)) 793451335 112 (.fn 82 .u8 apL0) (.e))) 793451421 114 (.fn 84 .u8 apL0) (.n (.n (.n (.e) 793451464 115 (.fn 85 .u8 apL0) (.e)) 796410249 607 (.ite (.symb 260) (.symi .u8 16) (.symi .u8 575)) (.e)) 801298210 47 (.fn 448 .i32 [.symi .u16 29, .symi .u16 30, .symi .u16 31, .int .i64 1]) (.n (.e) 801709339 488 (.ite (.symb 261) (.symi .u8 460) (.symi .u8 8)) (.e)))))))) 801742849 361 (.ite (.symb 261) (.symi .i64 317) (.symi .i64 14)) (.n (.n (.n (.n (.n (.n (.n (.n (.e) 802851904 533 (.bin .neq (.symi .i32 506) (.symi .i32 38)) (.e)) 804796332 522 (.ite (.symb 260) (.symi .u8 20) (.symi .u8 500)) (.e)) 804970743 683 (.ite (.symb 261) (.symi .u8 450) (.symi .u8 25)) (.n (.n (.e) 807413641 476 (.ite (.symb 427) (.symi .u8 24) (.symi .u8 449)) (.e)) 811058188 341 (.ite (.symb 263) (.symi .u16 334) (.symi .u16 31)) (.e))) 812163970 57 (.fn 320 .i32 [.symi .u8 49, .symi .u8 50, .symi .u8 51, .int .i64 2]) (.n (.n (.n (.e) 816183049 730 (.bin .neq (.symi .i32 652) (.symi .i32 42)) (.e)) 818425046 646 (.conv .i32 (.symi .u8 623)) (.e)) 820811315 48 (.fn 448 .i32 [.symi .u16 29, .symi .u16 30, .symi .u16 31, .int .i64 2]) (.n (.n (.e) 821398882 634 (.bin .neq (.symi .i32 422) (.symi .i32 44)) (.e)) 822829896 398 (.ite (.symb 260) (.symi .u8 19) (.symi .u8 366)) (.e)))) 826967264 714 (.bin .neq (.symi .i32 684) (.symi .i32 42)) (.n (.n (.n (.n (.e) 827442992 213 (.fnb 83 apL2) (.e)) 830311300 373 (.ite (.symb 261) (.symi .u16 26) (.symi .u16 344)) (.e)) 833174578 571 (.ite (.symb 261) (.symi .u8 276) (.symi .u8 12)) (.n (.n (.e) 835063623 420 (.fn 0 .i32 apL39) (.e)) 836668480 306 (.ite (.symb 265) (.symi .u8 267) (.symi .u8 3)) (.e))) 839331291 700 (.ite (.symb 260) (.symi .u8 20) (.symi .u8 678)) (.n (.n (.n (.e) 843244460 481 (.ite (.symb 264) (.symi .i32 480) (.int .i32 0)) (.e)) 843887603 600 (.ite (.symb 260) (.symi .u8 9) (.symi .u8 568)) (.e)) 845792728 346 (.ite (.symb 262) (.symi .u16 331) (.symi .u16 28)) (.n (.e) 846532997 532 (.bin .neq (.symi .i32 506) (.symi .i32 35)) (.e))))) 847354036 253 (.fn 448 .i32 [.symi .u16 250, .symi .u16 251, .symi .u16 252, .int .i64 0]) (.n (.n (.n (.n (.n (.e) 849220203 354 (.ite (.symb 261) (.symi .u8 310) (.symi .u8 7)) (.e)) 850057885 626 (.un .not (.symb 625)) (.e)) 851106208 291 (.fn 512 .u16 apL35) (.n (.n (.e) 851106251 292 (.fn 513 .u16 apL35) (.e)) 851106294 293 (.fn 514 .u16 apL35) (.e))) 852273686 515 (.ite (.symb 260) (.symi .u8 13) (.symi .u8 493)) (.n (.n (.n (.e) 852448097 676 (.ite (.symb 261) (.symi .u8 443) (.symi .u8 18)) (.e)) 854890995 469 (.ite (.symb 427) (.symi .u8 17) (.symi .u8 442)) (.e)) 866867141 254 (.fn 448 .i32 [.symi .u16 250, .symi .u16 251, .symi .u16 252, .int .i64 1]) (.n (.e) 867975545 324 (.ite (.symb 265) (.symi .u8 285) (.symi .u8 21)) (.e)))) 868806702 529 (.fn 0 .i32 apL42) (.n (.n (.n (.n (.e) 870307250 391 (.ite (.symb 260) (.symi .u8 12) (.symi .u8 359)) (.e)) 870648357 711 (.bin .neq (.symi .i32 684) (.symi .i32 39)) (.e)) 875194668 618 (.ite (.symb 260) (.symi .u16 27) (.symi .u16 586)) (.n (.n (.e) 877386165 118 (.fn 0 .i32 apL12) (.e)) 880493758 499 (.ite (.symb 261) (.symi .u8 471) (.symi .u8 19)) (.e))) 880527268 372 (.ite (.symb 261) (.symi .u8 328) (.symi .u8 25)) (.n (.n (.n (.e) 880651932 564 (.ite (.symb 261) (.symi .i64 269) (.symi .i64 5)) (.e)) 883954743 383 (.ite (.symb 260) (.symi .u8 307) (.symi .u8 4)) (.e)) 886380246 255 (.fn 448 .i32 [.symi .u16 250, .symi .u16 251, .symi .u16 252, .int .i64 2]) (.n (.e) 886808645 693 (.ite (.symb 260) (.symi .u8 13) (.symi .u8 671)) (.e)))))) 890468800 736 (.bin .neq (.symi .i32 657) (.symi .i32 47)) (.n (.n (.n (.n (.n (.n (.e) 899751040 508 (.ite (.symb 260) (.symi .u8 6) (.symi .u8 486)) (.e)) 899925451 669 (.ite (.symb 261) (.symi .u8 436) (.symi .u8 11)) (.e)) 901614315 409 (.ite (.symb 260) (.symi .u16 30) (.symi .u16 377)) (.n (.n (.e) 902368349 462 (.ite (.symb 427) (.symi .u8 10) (.symi .u8 435)) (.e)) 904491123 453 (.ite (.symb 299) (.symi .i32 37) (.int .i32 0)) (.e))) 905629455 479 (.ite (.symb 427) (.int .i32 0) (.symi .i32 452)) (.n (.n (.n (.e) 913347277 582 (.ite (.symb 261) (.symb 287) (.symb 23)) (.e)) 914329450 721 (.bin .neq (.symi .i32 684) (.symi .i32 36)) (.e)) 915386472 593 (.ite (.symb 260) (.symi .u8 266) (.symi .u8 2)) (.n (.e) 915452899 317 (.ite (.symb 265) (.symi .i64 278) (.symi .i64 14)) (.e)))) 916021266 335 (.ite (.symb 265) (.symi .u8 303) (.symi .u8 32)) (.n (.n (.n (.n (.e) 917784604 384 (.ite (.symb 260) (.symi .i64 5) (.symi .i64 352)) (.e)) 921425355 647 (.conv .i32 (.symi .u8 624)) (.e)) 922672022 611 (.ite (.symb 260) (.symi .u8 20) (.symi .u8 579)) (.n (.n (.e) 925329945 191 (.fn 0 .i32 apL21) (.e)) 926931363 740 (.bin .neq (.symi .i32 645) (.symi .i32 35)) (.e))) 926957563 506 (.ite (.symb 260) (.symi .i32 455) (.symi .i32 484)) (.n (.n (.n (.e) 927971112 492 (.ite (.symb 261) (.symi .u8 464) (.symi .u8 12)) (.e)) 928004622 365 (.ite (.symb 261) (.symi .u8 321) (.symi .u8 18)) (.e)) 930153426 586 (.ite (.symb 261) (.symi .u16 27) (.symi .u16 557)) (.n (.e) 931058105 526 (.ite (.symb 260) (.symi .u8 24) (.symi .u8 504)) (.e))))) 932147196 640 (.bin .neq (.symi .i32 415) (.symi .i32 37)) (.n (.n (.n (.n (.n (.e) 934285999 686 (.ite (.symb 260) (.symi .u8 6) (.symi .u8 664)) (.e)) 934694126 630 (.bin .neq (.symi .i32 529) (.symi .i32 41)) (.e)) 944759958 334 (.ite (.symb 265) (.symi .u16 297) (.symi .u16 31)) (.n (.n (.e) 945319985 342 (.ite (.symb 263) (.symi .u8 32) (.symi .u8 337)) (.e)) 946510493 706 (.fn 0 .i32 apL47) (.e))) 950871779 402 (.ite (.symb 260) (.symb 23) (.symb 370)) (.n (.n (.n (.e) 956573073 377 (.ite (.symb 261) (.symi .u16 30) (.symi .u16 348)) (.e)) 957320771 247 (.fn 448 .i32 [.symi .u16 244, .symi .u16 245, .symi .u16 246, .int .i64 0]) (.e)) 959436351 575 (.ite (.symb 261) (.symi .u8 280) (.symi .u8 16)) (.n (.e) 961315863 348 (.ite (.symb 262) (.symi .u16 30) (.symi .u16 340)) (.e)))) 962930253 310 (.ite (.symb 265) (.symi .u8 271) (.symi .u8 7)) (.n (.n (.n (.n (.e) 965593064 704 (.ite (.symb 260) (.symi .u8 24) (.symi .u8 682)) (.e)) 969498638 331 (.ite (.symb 265) (.symi .u16 293) (.symi .u16 28)) (.e)) 970103918 429 (.fn 64 .i32 apL40) (.n (.n (.e) 970103961 430 (.fn 65 .i64 apL40) (.e)) 970104004 431 (.fn 66 .u8 apL40) (.e))) 970104047 432 (.fn 67 .u8 apL40) (.n (.n (.n (.e) 970104090 433 (.fn 68 .u8 apL40) (.e)) 970104133 434 (.fn 69 .u8 apL40) (.e)) 970104176 435 (.fn 70 .u8 apL40) (.n (.e) 970104219 436 (.fn 71 .u8 apL40) (.e))))))) 970104262 437 (.fn 72 .u8 apL40) (.n (.n (.n (.n (.n (.n (.n (.e) 970104305 438 (.fn 73 .u8 apL40) (.e)) 970104348 439 (.fn 74 .i64 apL40) (.e)) 970104391 440 (.fn 75 .u8 apL40) (.n (.n (.e) 970104434 441 (.fn 76 .u8 apL40) (.e)) 970104477 442 (.fn 77 .u8 apL40) (.e))) 970104520 443 (.fn 78 .u8 apL40) (.n (.n (.n (.e) 970104563 444 (.fn 79 .u8 apL40) (.e)) 970104606 445 (.fn 80 .u8 apL40) (.e)) 970104649 446 (.fn 81 .u8 apL40) (.n (.e) 970104692 447 (.fn 82 .u8 apL40) (.e)))) 970104778 449 (.fn 84 .u8 apL40) (.n (.n (.n (.n (.e) 970104821 450 (.fn 85 .u8 apL40) (.e)) 970149376 604 (.ite (.symb 260) (.symi .u8 13) (.symi .u8 572)) (.e)) 972126295 220 (.fn 512 .u16 apL27) (.n (.n (.e) 972126338 221 (.fn 513 .u16 apL27) (.e)) 972126381 222 (.fn 514 .u16 apL27) (.e))) 975448466 485 (.ite (.symb 261) (.symi .i64 457) (.symi .i64 5)) (.n (.n (.n (.e) 975481976 358 (.ite (.symb 261) (.symi .u8 314) (.symi .u8 11)) (.e)) 976833876 248 (.fn 448 .i32 [.symi .u16 244, .symi .u16 245, .symi .u16 246, .int .i64 1]) (.e)) 978535459 519 (.ite (.symb 260) (.symi .u8 17) (.symi .u8 497)) (.n (.e) 978709870 680 (.ite (.symb 261) (.symi .u8 447) (.symi .u8 22)) (.e))))) 981152768 473 (.ite (.symb 427) (.symi .u8 21) (.symi .u8 446)) (.n (.n (.n (.n (.n (.e) 982197672 70 (.fn 128 .i64 apL6) (.e)) 982197715 71 (.fn 129 .u8 apL6) (.e)) 982197758 72 (.fn 130 .u8 apL6) (.n (.n (.e) 982197801 73 (.fn 131 .u8 apL6) (.e)) 982197844 74 (.fn 132 .u8 apL6) (.e))) 982197887 75 (.fn 133 .u8 apL6) (.n (.n (.n (.e) 982197930 76 (.fn 134 .u8 apL6) (.e)) 982197973 77 (.fn 135 .u8 apL6) (.e)) 982198016 78 (.fn 136 .u8 apL6) (.n (.e) 982198059 79 (.fn 137 .i64 apL6) (.e)))) 982198102 80 (.fn 138 .u8 apL6) (.n (.n (.n (.n (.e) 982198145 81 (.fn 139 .u8 apL6) (.e)) 982198188 82 (.fn 140 .u8 apL6) (.e)) 982198231 83 (.fn 141 .u8 apL6) (.n (.n (.e) 982198274 84 (.fn 142 .u8 apL6) (.e)) 982198317 85 (.fn 143 .u8 apL6) (.e))) 982198360 86 (.fn 144 .u8 apL6) (.n (.n (.n (.e) 982198403 87 (.fn 145 .u8 apL6) (.e)) 982198489 89 (.fn 147 .u8 apL6) (.e)) 982198532 90 (.fn 148 .u8 apL6) (.n (.e) 991639400 226 (.fn 512 .u16 apL28) (.e)))))) 991639443 227 (.fn 513 .u16 apL28) (.n (.n (.n (.n (.n (.n (.e) 991639486 228 (.fn 514 .u16 apL28) (.e)) 994237318 328 (.ite (.symb 265) (.symi .u8 289) (.symi .u8 25)) (.e)) 996080123 427 (.un .not (.symb 265)) (.n (.n (.e) 996346981 249 (.fn 448 .i32 [.symi .u16 244, .symi .u16 245, .symi .u16 246, .int .i64 2]) (.e)) 996569023 395 (.ite (.symb 260) (.symi .u8 16) (.symi .u8 363)) (.e))) 1001217114 726 (.bin .neq (.symi .i32 650) (.symi .i32 40)) (.n (.n (.n (.e) 1001456441 622 (.ite (.symb 260) (.symi .u16 31) (.symi .u16 590)) (.e)) 1006432947 631 (.bin .neq (.symi .i32 420) (.symi .i32 42)) (.e)) 1006913705 568 (.ite (.symb 261) (.symi .u8 273) (.symi .u8 9)) (.n (.e) 1008984171 503 (.ite (.symb 261) (.symb 475) (.symb 23)) (.e)))) 1011152505 232 (.fn 512 .u16 apL29) (.n (.n (.n (.n (.e) 1011152548 233 (.fn 513 .u16 apL29) (.e)) 1011152591 234 (.fn 514 .u16 apL29) (.e)) 1013070418 697 (.ite (.symb 260) (.symi .u8 17) (.symi .u8 675)) (.n (.n (.e) 1014963342 168 (.fn 0 .i32 apL19) (.e)) 1015162203 543 (.bin .neq (.symi .i32 506) (.symi .i32 48)) (.e))) 1017626730 597 (.ite (.symb 260) (.symi .u8 6) (.symi .u8 565)) (.n (.n (.n (.e) 1024288087 419 (.fn 0 .i32 apL38) (.e)) 1026012813 512 (.ite (.symb 260) (.symi .u8 10) (.symi .u8 490)) (.e)) 1026187224 673 (.ite (.symb 261) (.symi .u8 440) (.symi .u8 15)) (.n (.e) 1026224904 556 (.ite (.symb 262) (.symi .u16 291) (.symi .u16 26)) (.e))))) 1028630122 466 (.ite (.symb 427) (.symi .i64 14) (.symi .i64 439)) (.n (.n (.n (.n (.n (.e) 1035091836 67 (.fn 320 .i32 [.symi .u8 64, .symi .u8 65, .symi .u8 66, .int .i64 0]) (.e)) 1041714672 321 (.ite (.symb 265) (.symi .u8 282) (.symi .u8 18)) (.e)) 1043325771 301 (.ite (.symb 300) (.symi .u8 54) (.symi .u8 33)) (.n (.n (.e) 1044046377 388 (.ite (.symb 260) (.symi .u8 9) (.symi .u8 356)) (.e)) 1045162111 555 (.ite (.symb 263) (.symi .u8 33) (.symi .u8 550)) (.e))) 1048815225 421 (.fn 448 .i32 [.symi .u16 405, .symi .u16 406, .symi .u16 407, .int .i64 0]) (.n (.n (.n (.e) 1048933795 615 (.ite (.symb 260) (.symi .u8 24) (.symi .u8 583)) (.e)) 1054232885 496 (.ite (.symb 261) (.symi .u8 468) (.symi .u8 16)) (.e)) 1054266395 369 (.ite (.symb 261) (.symi .u8 325) (.symi .u8 22)) (.n (.e) 1054604941 68 (.fn 320 .i32 [.symi .u8 64, .symi .u8 65, .symi .u8 66, .int .i64 1]) (.e)))) 1056415199 590 (.ite (.symb 261) (.symi .u16 31) (.symi .u16 561)) (.n (.n (.n (.n (.e) 1058031166 528 (.fn 0 .i32 apL41) (.e)) 1058843296 540 (.bin .neq (.symi .i32 506) (.symi .i32 45)) (.e)) 1060547772 690 (.ite (.symb 260) (.symi .u8 10) (.symi .u8 668)) (.n (.n (.e) 1061049092 256 (.conv .i32 (.symi .u8 52)) (.e)) 1061157989 561 (.ite (.symb 262) (.symi .u16 31) (.symi .u16 553)) (.e))) 1063962144 484 (.ite (.symb 261) (.symi .i32 456) (.symi .i32 483)) (.n (.n (.n (.e) 1066610629 117 (.fn 0 .i32 apL11) (.e)) 1067287506 241 (.fn 448 .i32 [.symi .u16 238, .symi .u16 239, .symi .u16 240, .int .i64 0]) (.e)) 1068328330 422 (.fn 448 .i32 [.symi .u16 405, .symi .u16 406, .symi .u16 407, .int .i64 1]) (.n (.e) 1073664578 666 (.ite (.symb 261) (.symi .u8 433) (.symi .u8 8)) (.e)))))))))

def apW0 : Sw := .run (.leaf .ret apSE [] [(0, .bool true)] [])
def apW1 : Sw := .run (.leaf .ret apSE [] [(0, .bool true)] [])
def apW2 : Sw := .run (.leaf .ret apSE [] [(0, .bool true)] [])
def apW3 : Sw := .node 119 (.dead) (.run (.leaf .ret apSE [] [(0, .bool true)] []))
def apW4 : Sw := .node 169 (.dead) (.run (.leaf .ret apSE [] [(0, .bool true)] []))
def apW5 : Sw := .node 219 (.dead) (.run (.leaf .ret apSE [] [(0, .bool true)] []))
def apW6 : Sw := .run (.leaf .ret apSE [] [(0, .bool true)] [])
def apW7 : Sw := .run (.leaf .ret apSE [] [(0, .bool true)] [])
def apW8 : Sw := .run (.leaf .ret apSE [] [(0, .bool true)] [])
def apW9 : Sw := .run (.leaf .ret apSE [] [(0, .bool true)] [])
def apW10 : Sw := .run (.leaf .ret apSE [] [(0, .bool true)] [])
def apW11 : Sw := .run (.leaf .ret apSE [] [(0, .bool true)] [])
def apW12 : Sw := .run (.leaf .ret apSE [] [(0, .bool true)] [])
def apW13 : Sw := .run (.leaf .ret apSE [] [(0, .bool true)] [])
def apW14 : Sw := .run (.leaf .ret apSE [] [(0, .bool true)] [])
def apW15 : Sw := .node 265 (.node 531 (.dead) (.node 723 (.dead) (.node 725 (.dead) (.node 626 (.dead) (.node 740 (.dead) (.node 741 (.dead) (.node 742 (.dead) (.node 726 (.dead) (.node 727 (.dead) (.node 728 (.dead) (.node 729 (.dead) (.node 730 (.dead) (.node 731 (.dead) (.node 732 (.dead) (.node 733 (.dead) (.node 734 (.dead) (.node 735 (.dead) (.node 736 (.dead) (.node 737 (.dead) (.node 738 (.dead) (.node 739 (.dead) (.run (.leaf .ret apSE [] [(0, .bool true)] []))))))))))))))))))))))) (.run (.leaf .ret apSE [] [(0, .bool true)] []))
def apW : Sw := .pick 34 0 apW0 (.pick 34 1 apW1 (.pick 34 2 apW2 (.pick 34 3 apW3 (.pick 34 4 apW4 (.pick 34 5 apW5 (.pick 34 6 apW6 (.pick 34 7 apW7 (.pick 34 8 apW8 (.pick 34 9 apW9 (.pick 34 10 apW10 (.pick 34 11 apW11 (.pick 34 12 apW12 (.pick 34 13 apW13 (.pick 34 14 apW14 (apW15)))))))))))))))
def apKd : KdT := .n (.n (.n (.n (.n (.n (.n (.n (.n (.n .e (some .u8) .e) (some .i32) .e) (some .u8) (.n (.n .e none .e) (some .u8) .e)) (some .i32) (.n (.n (.n .e (some .u8) .e) (some .u8) .e) (some .i32) (.n (.n .e none .e) (some .u8) .e))) (some .u16) (.n (.n (.n (.n .e none .e) none .e) (some .u8) (.n (.n .e (some .u8) .e) (some .i32) .e)) (some .i64) (.n (.n (.n .e (some .u8) .e) (some .u8) .e) (some .i32) (.n (.n .e none .e) (some .i32) .e)))) (some .u8) (.n (.n (.n (.n (.n .e (some .u8) .e) (some .u8) .e) (some .i32) (.n (.n .e (some .i32) .e) (some .u8) .e)) (some .i64) (.n (.n (.n .e (some .u8) .e) (some .u8) .e) (some .u8) (.n (.n .e none .e) (some .u8) .e))) (some .i32) (.n (.n (.n (.n .e (some .u16) .e) (some .u8) .e) (some .u8) (.n (.n .e (some .u8) .e) (some .u8) .e)) (some .u8) (.n (.n (.n .e (some .u8) .e) (some .u8) .e) (some .u16) (.n .e (some .u8) .e))))) (some .u8) (.n (.n (.n (.n (.n (.n .e (some .u8) .e) none .e) (some .u8) (.n (.n .e (some .i32) .e) (some .u8) .e)) (some .u8) (.n (.n (.n .e (some .u8) .e) (some .u8) .e) (some .u8) (.n (.n .e none .e) (some .i32) .e))) (some .i32) (.n (.n (.n (.n .e (some .u16) .e) (some .u16) .e) (some .i32) (.n (.n .e (some .u8) .e) (some .i32) .e)) (some .u8) (.n (.n (.n .e (some .u8) .e) (some .u8) .e) (some .i32) (.n .e (some .u8) .e)))) none (.n (.n (.n (.n (.n .e none .e) (some .u8) .e) (some .u8) (.n (.n .e (some .i64) .e) (some .u16) .e)) (some .u8) (.n (.n (.n .e (some .u8) .e) (some .u8) .e) (some .u8) (.n (.n .e none .e) (some .u8) .e))) (some .i32) (.n (.n (.n (.n .e (some .u8) .e) (some .u8) .e) (some .u8) (.n (.n .e (some .u8) .e) (some .i64) .e)) none (.n (.n (.n .e none .e) (some .u16) .e) (some .i32) (.n .e none .e)))))) (some .u8) (.n (.n (.n (.n (.n (.n (.n .e (some .u8) .e) (some .i64) .e) (some .u8) (.n (.n .e none .e) (some .u8) .e)) (some .i32) (.n (.n (.n .e (some .u8) .e) (some .u8) .e) (some .i64) (.n (.n .e (some .i32) .e) (some .i32) .e))) (some .i32) (.n (.n (.n (.n .e none .e) (some .u16) .e) none (.n (.n .e (some .u8) .e) (some .i32) .e)) (some .u8) (.n (.n (.n .e (some .u8) .e) (some .u8) .e) (some .u16) (.n (.n .e none .e) (some .i32) .e)))) (some .u8) (.n (.n (.n (.n (.n .e none .e) (some .u8) .e) (some .u8) (.n (.n .e (some .i32) .e) (some .u8) .e)) (some .u8) (.n (.n (.n .e (some .u8) .e) (some .u16) .e) (some .u8) (.n (.n .e none .e) (some .u8) .e))) (some .u8) (.n (.n (.n (.n .e (some .u8) .e) (some .u8) .e) (some .i64) (.n (.n .e (some .u8) .e) (some .u8) .e)) (some .u8) (.n (.n (.n .e none .e) (some .u8) .e) (some .i32) (.n .e (some .u8) .e))))) (some .u8) (.n (.n (.n (.n (.n (.n .e (some .u8) .e) (some .u8) .e) (some .u8) (.n (.n .e (some .i32) .e) (some .u8) .e)) (some .u8) (.n (.n (.n .e (some .u16) .e) (some .u16) .e) (some .u8) (.n (.n .e none .e) (some .u8) .e))) (some .i32) (.n (.n (.n (.n .e (some .u8) .e) none .e) (some .u8) (.n (.n .e (some .u8) .e) none .e)) (some .u8) (.n (.n (.n .e (some .u16) .e) (some .u8) .e) (some .i32) (.n .e (some .u8) .e)))) (some .u16) (.n (.n (.n (.n (.n .e none .e) (some .u8) .e) (some .u8) (.n (.n .e (some .u8) .e) (some .u8) .e)) (some .i32) (.n (.n (.n .e (some .u8) .e) (some .u16) .e) none (.n (.n .e none .e) none .e))) (some .u8) (.n (.n (.n (.n .e (some .u8) .e) (some .u8) .e) (some .u8) (.n (.n .e (some .u8) .e) (some .u8) .e)) (some .u8) (.n (.n (.n .e none .e) (some .u8) .e) (some .u16) (.n .e (some .i64) .e))))))) (some .i32) (.n (.n (.n (.n (.n (.n (.n (.n .e (some .u8) .e) (some .i32) .e) (some .i64) (.n (.n .e none .e) (some .u8) .e)) (some .u8) (.n (.n (.n .e (some .u8) .e) (some .u8) .e) (some .i32) (.n (.n .e (some .u8) .e) (some .u8) .e))) (some .u8) (.n (.n (.n (.n .e none .e) (some .u8) .e) (some .u8) (.n (.n .e (some .u8) .e) (some .i32) .e)) (some .u8) (.n (.n (.n .e (some .u8) .e) (some .u8) .e) (some .i32) (.n (.n .e none .e) (some .i32) .e)))) (some .u8) (.n (.n (.n (.n (.n .e (some .i32) .e) (some .u8) .e) (some .i64) (.n (.n .e (some .i32) .e) (some .u8) .e)) (some .u8) (.n (.n (.n .e (some .u8) .e) (some .u8) .e) (some .u8) (.n (.n .e none .e) (some .u8) .e))) (some .u8) (.n (.n (.n (.n .e (some .u16) .e) (some .u8) .e) (some .u8) (.n (.n .e (some .u8) .e) (some .u8) .e)) none (.n (.n (.n .e none .e) (some .u8) .e) (some .i32) (.n .e (some .u8) .e))))) (some .u8) (.n (.n (.n (.n (.n (.n .e (some .u8) .e) none .e) (some .u8) (.n (.n .e (some .i32) .e) (some .i64) .e)) (some .u8) (.n (.n (.n .e (some .u16) .e) (some .u16) .e) (some .u8) (.n (.n .e none .e) (some .i64) .e))) (some .i32) (.n (.n (.n (.n .e (some .u16) .e) (some .u16) .e) none (.n (.n .e none .e) (some .i32) .e)) (some .u8) (.n (.n (.n .e (some .u16) .e) (some .i64) .e) (some .u16) (.n .e (some .u8) .e)))) (some .u8) (.n (.n (.n (.n (.n .e none .e) (some .u8) .e) (some .u8) (.n (.n .e (some .u8) .e) (some .u16) .e)) (some .u8) (.n (.n (.n .e (some .u8) .e) (some .u16) .e) (some .i32) (.n (.n .e none .e) (some .u8) .e))) (some .i32) (.n (.n (.n (.n .e (some .u8) .e) (some .u8) .e) (some .u8) (.n (.n .e (some .u8) .e) (some .u8) .e)) (some .u8) (.n (.n (.n .e none .e) (some .u16) .e) (some .i32) (.n .e (some .u8) .e)))))) (some .i64) (.n (.n (.n (.n (.n (.n (.n .e (some .u8) .e) none .e) (some .u8) (.n (.n .e (some .i32) .e) (some .u8) .e)) (some .i32) (.n (.n (.n .e (some .u8) .e) (some .u8) .e) (some .u8) (.n (.n .e none .e) (some .i32) .e))) (some .i32) (.n (.n (.n (.n .e (some .u8) .e) (some .u16) .e) (some .u8) (.n (.n .e (some .u8) .e) (some .i32) .e)) (some .u8) (.n (.n (.n .e (some .u8) .e) (some .u8) .e) (some .i32) (.n (.n .e none .e) (some .i64) .e)))) (some .u8) (.n (.n (.n (.n (.n .e none .e) (some .u8) .e) (some .u8) (.n (.n .e (some .i32) .e) (some .u16) .e)) (some .u8) (.n (.n (.n .e (some .u8) .e) (some .u16) .e) none (.n (.n .e none .e) (some .u8) .e))) (some .u8) (.n (.n (.n (.n .e (some .u8) .e) (some .u8) .e) (some .u8) (.n (.n .e (some .u8) .e) (some .u8) .e)) (some .i32) (.n (.n (.n .e none .e) (some .u16) .e) (some .u16) (.n .e (some .u8) .e))))) (some .u8) (.n (.n (.n (.n (.n (.n .e none .e) (some .i64) .e) (some .i32) (.n (.n .e (some .i32) .e) (some .u8) .e)) (some .u8) (.n (.n (.n .e (some .u16) .e) (some .u16) .e) (some .u8) (.n (.n .e none .e) (some .u8) .e))) (some .i32) (.n (.n (.n (.n .e (some .u16) .e) (some .u8) .e) (some .u8) (.n (.n .e (some .i64) .e) (some .i32) .e)) (some .u8) (.n (.n (.n .e (some .u16) .e) (some .u8) .e) (some .i32) (.n .e (some .u8) .e)))) (some .u16) (.n (.n (.n (.n (.n .e none .e) (some .u8) .e) (some .u8) (.n (.n .e (some .u8) .e) (some .i32) .e)) (some .i32) (.n (.n (.n .e (some .i64) .e) (some .u16) .e) (some .u16) (.n (.n .e none .e) (some .u8) .e))) (some .i32) (.n (.n (.n (.n .e (some .i64) .e) (some .i64) .e) (some .u8) (.n (.n .e (some .u8) .e) (some .u8) .e)) (some .u8) (.n (.n (.n .e none .e) (some .u8) .e) (some .i32) (.n .e (some .u8) .e)))))))) (some .i8) (.n (.n (.n (.n (.n (.n (.n (.n (.n .e (some .u8) .e) (some .i32) .e) (some .u8) (.n (.n .e none .e) (some .i64) .e)) (some .u8) (.n (.n (.n .e (some .u8) .e) (some .u8) .e) (some .i32) (.n (.n .e (some .u8) .e) none .e))) (some .u8) (.n (.n (.n (.n .e none .e) (some .u8) .e) (some .u8) (.n (.n .e (some .i64) .e) (some .i32) .e)) (some .u8) (.n (.n (.n .e (some .u8) .e) (some .i64) .e) (some .i32) (.n (.n .e none .e) (some .i32) .e)))) (some .u8) (.n (.n (.n (.n (.n .e (some .i32) .e) (some .u8) .e) (some .i32) (.n (.n .e (some .i32) .e) (some .u8) .e)) (some .u8) (.n (.n (.n .e (some .u8) .e) (some .u8) .e) (some .u8) (.n (.n .e none .e) (some .u8) .e))) (some .i32) (.n (.n (.n (.n .e (some .u16) .e) (some .u8) .e) (some .u8) (.n (.n .e (some .u8) .e) (some .u8) .e)) (some .u8) (.n (.n (.n .e (some .u8) .e) (some .u8) .e) (some .u16) (.n .e (some .u8) .e))))) (some .u8) (.n (.n (.n (.n (.n (.n .e (some .u8) .e) none .e) (some .u8) (.n (.n .e (some .i32) .e) (some .u8) .e)) (some .u8) (.n (.n (.n .e (some .u8) .e) (some .u8) .e) (some .u8) (.n (.n .e none .e) (some .i32) .e))) (some .i32) (.n (.n (.n (.n .e (some .u16) .e) (some .u16) .e) (some .i32) (.n (.n .e (some .u8) .e) (some .i32) .e)) (some .i64) (.n (.n (.n .e (some .u8) .e) (some .u8) .e) (some .u16) (.n .e (some .u8) .e)))) (some .u8) (.n (.n (.n (.n (.n .e none .e) (some .u8) .e) (some .u8) (.n (.n .e (some .u8) .e) (some .u16) .e)) none (.n (.n (.n .e (some .u8) .e) (some .u16) .e) (some .i32) (.n (.n .e none .e) (some .u8) .e))) (some .i32) (.n (.n (.n (.n .e (some .u8) .e) (some .u8) .e) (some .u8) (.n (.n .e (some .u8) .e) (some .u8) .e)) (some .i64) (.n (.n (.n .e none .e) (some .u16) .e) (some .i32) (.n .e (some .u8) .e)))))) (some .u8) (.n (.n (.n (.n (.n (.n (.n .e (some .i64) .e) none .e) (some .u8) (.n (.n .e none .e) (some .u8) .e)) (some .i32) (.n (.n (.n .e (some .u8) .e) (some .u8) .e) (some .u8) (.n (.n .e (some .i32) .e) (some .i32) .e))) (some .i32) (.n (.n (.n (.n .e none .e) (some .u16) .e) (some .u8) (.n (.n .e (some .u8) .e) (some .i32) .e)) (some .u8) (.n (.n (.n .e (some .u8) .e) (some .u8) .e) (some .u16) (.n (.n .e none .e) (some .i32) .e)))) (some .u8) (.n (.n (.n (.n (.n .e none .e) (some .u8) .e) (some .u8) (.n (.n .e (some .i32) .e) (some .u8) .e)) (some .u8) (.n (.n (.n .e (some .i64) .e) (some .u16) .e) (some .u8) (.n (.n .e none .e) (some .u8) .e))) (some .u8) (.n (.n (.n (.n .e (some .i64) .e) (some .i64) .e) (some .u8) (.n (.n .e (some .u8) .e) (some .u8) .e)) (some .i32) (.n (.n (.n .e none .e) (some .u8) .e) (some .u16) (.n .e (some .u8) .e))))) (some .u8) (.n (.n (.n (.n (.n (.n .e (some .u8) .e) (some .u8) .e) (some .u8) (.n (.n .e (some .i32) .e) (some .u8) .e)) (some .u8) (.n (.n (.n .e (some .u16) .e) (some .u16) .e) (some .i64) (.n (.n .e none .e) (some .u8) .e))) (some .i32) (.n (.n (.n (.n .e (some .u16) .e) none .e) (some .u8) (.n (.n .e (some .i32) .e) (some .i32) .e)) (some .u8) (.n (.n (.n .e (some .u16) .e) (some .u8) .e) (some .i32) (.n .e (some .u8) .e)))) (some .u16) (.n (.n (.n (.n (.n .e none .e) (some .u8) .e) (some .u8) (.n (.n .e (some .u8) .e) (some .u8) .e)) (some .i32) (.n (.n (.n .e (some .u8) .e) (some .u16) .e) (some .u16) (.n (.n .e none .e) (some .u8) .e))) (some .u8) (.n (.n (.n (.n .e (some .u8) .e) (some .u8) .e) none (.n (.n .e (some .u8) .e) (some .u8) .e)) (some .u8) (.n (.n (.n .e none .e) (some .u8) .e) (some .u16) (.n .e (some .u8) .e))))))) (some .u8) (.n (.n (.n (.n (.n (.n (.n (.n .e (some .u8) .e) (some .i32) .e) (some .u8) (.n (.n .e none .e) (some .u8) .e)) (some .u8) (.n (.n (.n .e (some .u8) .e) (some .u8) .e) (some .i32) (.n (.n .e (some .i32) .e) (some .u8) .e))) (some .i64) (.n (.n (.n (.n .e none .e) (some .i64) .e) (some .u8) (.n (.n .e (some .u8) .e) (some .i32) .e)) (some .u8) (.n (.n (.n .e (some .u8) .e) (some .u8) .e) (some .u16) (.n (.n .e none .e) (some .i32) .e)))) (some .u8) (.n (.n (.n (.n (.n .e (some .i32) .e) (some .u8) .e) (some .u8) (.n (.n .e (some .i32) .e) none .e)) (some .u8) (.n (.n (.n .e (some .u8) .e) (some .u8) .e) (some .u8) (.n (.n .e none .e) (some .i64) .e))) (some .u8) (.n (.n (.n (.n .e (some .u8) .e) (some .u8) .e) (some .u8) (.n (.n .e (some .u8) .e) (some .u8) .e)) (some .u8) (.n (.n (.n .e none .e) none .e) (some .i32) (.n .e (some .u8) .e))))) (some .u8) (.n (.n (.n (.n (.n (.n .e (some .u8) .e) (some .u8) .e) none (.n (.n .e (some .i32) .e) (some .u8) .e)) (some .u8) (.n (.n (.n .e (some .u16) .e) (some .u16) .e) (some .u8) (.n (.n .e none .e) (some .u8) .e))) (some .i32) (.n (.n (.n (.n .e (some .u8) .e) none .e) (some .i64) (.n (.n .e (some .u8) .e) (some .i32) .e)) (some .u8) (.n (.n (.n .e (some .u16) .e) (some .u8) .e) (some .u16) (.n .e (some .u8) .e)))) (some .u16) (.n (.n (.n (.n (.n .e none .e) (some .u8) .e) (some .i64) (.n (.n .e (some .u8) .e) (some .u16) .e)) (some .u8) (.n (.n (.n .e (some .u8) .e) (some .u16) .e) (some .i32) (.n (.n .e none .e) (some .u8) .e))) (some .u8) (.n (.n (.n (.n .e (some .u8) .e) (some .u8) .e) (some .u8) (.n (.n .e (some .u8) .e) (some .u8) .e)) (some .u8) (.n (.n (.n .e none .e) (some .u16) .e) (some .u16) (.n .e (some .i32) .e)))))) (some .u8) (.n (.n (.n (.n (.n (.n (.n .e (some .u8) .e) none .e) (some .u8) (.n (.n .e (some .i32) .e) (some .u8) .e)) (some .i64) (.n (.n (.n .e none .e) none .e) (some .u8) (.n (.n .e none .e) (some .i32) .e))) (some .i32) (.n (.n (.n (.n .e (some .u8) .e) (some .i64) .e) (some .i32) (.n (.n .e (some .u8) .e) (some .i32) .e)) (some .u8) (.n (.n (.n .e none .e) (some .u8) .e) (some .i32) (.n (.n .e none .e) (some .u8) .e)))) (some .u8) (.n (.n (.n (.n (.n .e none .e) (some .i64) .e) (some .u8) (.n (.n .e (some .i32) .e) (some .u16) .e)) (some .u8) (.n (.n (.n .e (some .u8) .e) (some .u8) .e) (some .u8) (.n (.n .e none .e) (some .u8) .e))) (some .u8) (.n (.n (.n (.n .e (some .u8) .e) (some .u8) .e) (some .u8) (.n (.n .e (some .i64) .e) (some .u8) .e)) (some .i32) (.n (.n (.n .e none .e) (some .u16) .e) (some .u16) (.n .e (some .u8) .e))))) (some .i64) (.n (.n (.n (.n (.n (.n .e (some .u8) .e) (some .u8) .e) (some .i32) (.n (.n .e (some .i32) .e) (some .u8) .e)) (some .u8) (.n (.n (.n .e (some .u16) .e) (some .u16) .e) (some .u8) (.n (.n .e none .e) (some .u8) .e))) (some .i32) (.n (.n (.n (.n .e (some .u16) .e) (some .u8) .e) (some .u8) (.n (.n .e (some .u8) .e) (some .i64) .e)) (some .u8) (.n (.n (.n .e (some .u16) .e) (some .u8) .e) (some .u16) (.n .e (some .i64) .e)))) (some .u16) (.n (.n (.n (.n (.n .e none .e) (some .u8) .e) (some .u8) (.n (.n .e (some .u8) .e) (some .i32) .e)) (some .i32) (.n (.n (.n .e (some .u8) .e) (some .u8) .e) (some .u16) (.n (.n .e none .e) (some .i32) .e))) (some .i32) (.n (.n (.n (.n .e (some .u8) .e) (some .u8) .e) (some .u8) (.n (.n .e (some .u8) .e) (some .u8) .e)) (some .u8) (.n (.n (.n .e none .e) (some .u8) .e) (some .i32) (.n .e (some .u8) .e))))))))

def apM : List Mac := [bwriteM, breadM, ballM]
theorem ap_macs : ∀ e, e ∈ apM → MacOk Try.prog (tabOf dvFs) e := by
  intro e he
  simp only [apM, List.mem_cons, List.not_mem_nil, or_false] at he
  rcases he with rfl | rfl | rfl
  · exact bwrite_mac
  · exact bread_mac
  · exact ball_mac
def apX (inv : Sig → Prop) : Ing := { kb := 743, kt := apKd, m := 34, ins := apInK, G := apG, T := apT, hook := orHook (rowHook 30 0 (.agg (symCs b32c 2))) (orHook (trueHook kpTru) (macHook apM)), tab := tabOf dvFs, inv := inv }
theorem ap_ok : okG apG 34 = true := by kernel_rfl
theorem ap_lt : okLT 34 apG apT = true := by kernel_rfl
def apSs : List Sh := [.one (.i .i8), .one (.i .i32)]
theorem ap_reck0 (inv : Sig → Prop) : okSw (runOf Try.prog (apX inv) [bodyOf Try.f11] ⟨argT 0 (.row 0 :: symSh apSs 0), []⟩ 115) apW0 [.isn 34 0] = true := by kernel_rfl
theorem ap_reck1 (inv : Sig → Prop) : okSw (runOf Try.prog (apX inv) [bodyOf Try.f11] ⟨argT 0 (.row 0 :: symSh apSs 0), []⟩ 115) apW1 [.isn 34 1, .non 34 0] = true := by kernel_rfl
theorem ap_reck2 (inv : Sig → Prop) : okSw (runOf Try.prog (apX inv) [bodyOf Try.f11] ⟨argT 0 (.row 0 :: symSh apSs 0), []⟩ 115) apW2 [.isn 34 2, .non 34 1, .non 34 0] = true := by kernel_rfl
theorem ap_reck3 (inv : Sig → Prop) : okSw (runOf Try.prog (apX inv) [bodyOf Try.f11] ⟨argT 0 (.row 0 :: symSh apSs 0), []⟩ 115) apW3 [.isn 34 3, .non 34 2, .non 34 1, .non 34 0] = true := by kernel_rfl
theorem ap_reck4 (inv : Sig → Prop) : okSw (runOf Try.prog (apX inv) [bodyOf Try.f11] ⟨argT 0 (.row 0 :: symSh apSs 0), []⟩ 115) apW4 [.isn 34 4, .non 34 3, .non 34 2, .non 34 1, .non 34 0] = true := by kernel_rfl
theorem ap_reck5 (inv : Sig → Prop) : okSw (runOf Try.prog (apX inv) [bodyOf Try.f11] ⟨argT 0 (.row 0 :: symSh apSs 0), []⟩ 115) apW5 [.isn 34 5, .non 34 4, .non 34 3, .non 34 2, .non 34 1, .non 34 0] = true := by kernel_rfl
theorem ap_reck6 (inv : Sig → Prop) : okSw (runOf Try.prog (apX inv) [bodyOf Try.f11] ⟨argT 0 (.row 0 :: symSh apSs 0), []⟩ 115) apW6 [.isn 34 6, .non 34 5, .non 34 4, .non 34 3, .non 34 2, .non 34 1, .non 34 0] = true := by kernel_rfl
theorem ap_reck7 (inv : Sig → Prop) : okSw (runOf Try.prog (apX inv) [bodyOf Try.f11] ⟨argT 0 (.row 0 :: symSh apSs 0), []⟩ 115) apW7 [.isn 34 7, .non 34 6, .non 34 5, .non 34 4, .non 34 3, .non 34 2, .non 34 1, .non 34 0] = true := by kernel_rfl
theorem ap_reck8 (inv : Sig → Prop) : okSw (runOf Try.prog (apX inv) [bodyOf Try.f11] ⟨argT 0 (.row 0 :: symSh apSs 0), []⟩ 115) apW8 [.isn 34 8, .non 34 7, .non 34 6, .non 34 5, .non 34 4, .non 34 3, .non 34 2, .non 34 1, .non 34 0] = true := by kernel_rfl
theorem ap_reck9 (inv : Sig → Prop) : okSw (runOf Try.prog (apX inv) [bodyOf Try.f11] ⟨argT 0 (.row 0 :: symSh apSs 0), []⟩ 115) apW9 [.isn 34 9, .non 34 8, .non 34 7, .non 34 6, .non 34 5, .non 34 4, .non 34 3, .non 34 2, .non 34 1, .non 34 0] = true := by kernel_rfl
theorem ap_reck10 (inv : Sig → Prop) : okSw (runOf Try.prog (apX inv) [bodyOf Try.f11] ⟨argT 0 (.row 0 :: symSh apSs 0), []⟩ 115) apW10 [.isn 34 10, .non 34 9, .non 34 8, .non 34 7, .non 34 6, .non 34 5, .non 34 4, .non 34 3, .non 34 2, .non 34 1, .non 34 0] = true := by kernel_rfl
theorem ap_reck11 (inv : Sig → Prop) : okSw (runOf Try.prog (apX inv) [bodyOf Try.f11] ⟨argT 0 (.row 0 :: symSh apSs 0), []⟩ 115) apW11 [.isn 34 11, .non 34 10, .non 34 9, .non 34 8, .non 34 7, .non 34 6, .non 34 5, .non 34 4, .non 34 3, .non 34 2, .non 34 1, .non 34 0] = true := by kernel_rfl
theorem ap_reck12 (inv : Sig → Prop) : okSw (runOf Try.prog (apX inv) [bodyOf Try.f11] ⟨argT 0 (.row 0 :: symSh apSs 0), []⟩ 115) apW12 [.isn 34 12, .non 34 11, .non 34 10, .non 34 9, .non 34 8, .non 34 7, .non 34 6, .non 34 5, .non 34 4, .non 34 3, .non 34 2, .non 34 1, .non 34 0] = true := by kernel_rfl
theorem ap_reck13 (inv : Sig → Prop) : okSw (runOf Try.prog (apX inv) [bodyOf Try.f11] ⟨argT 0 (.row 0 :: symSh apSs 0), []⟩ 115) apW13 [.isn 34 13, .non 34 12, .non 34 11, .non 34 10, .non 34 9, .non 34 8, .non 34 7, .non 34 6, .non 34 5, .non 34 4, .non 34 3, .non 34 2, .non 34 1, .non 34 0] = true := by kernel_rfl
theorem ap_reck14 (inv : Sig → Prop) : okSw (runOf Try.prog (apX inv) [bodyOf Try.f11] ⟨argT 0 (.row 0 :: symSh apSs 0), []⟩ 115) apW14 [.isn 34 14, .non 34 13, .non 34 12, .non 34 11, .non 34 10, .non 34 9, .non 34 8, .non 34 7, .non 34 6, .non 34 5, .non 34 4, .non 34 3, .non 34 2, .non 34 1, .non 34 0] = true := by kernel_rfl
theorem ap_reck15 (inv : Sig → Prop) : okSw (runOf Try.prog (apX inv) [bodyOf Try.f11] ⟨argT 0 (.row 0 :: symSh apSs 0), []⟩ 115) apW15 [.non 34 14, .non 34 13, .non 34 12, .non 34 11, .non 34 10, .non 34 9, .non 34 8, .non 34 7, .non 34 6, .non 34 5, .non 34 4, .non 34 3, .non 34 2, .non 34 1, .non 34 0] = true := by kernel_rfl
theorem ap_reck (inv : Sig → Prop) : okSw (runOf Try.prog (apX inv) [bodyOf Try.f11] ⟨argT 0 (.row 0 :: symSh apSs 0), []⟩ 115) apW [] = true := by
  simp only [apW, okSw, ap_reck0, ap_reck1, ap_reck2, ap_reck3, ap_reck4, ap_reck5, ap_reck6, ap_reck7, ap_reck8, ap_reck9, ap_reck10, ap_reck11, ap_reck12, ap_reck13, ap_reck14, ap_reck15, Bool.and_self]
theorem hbody : Try.f11.body = some (bodyOf Try.f11) := by kernel_rfl
theorem hnt : Try.f11.ntmps = 115 := by kernel_rfl

/-! ### The plain law -/

/-- the first number of what uart.Read makes is what uart.Peek makes -/
theorem uread_head (a0 a1 a2 a3 a4 a5 a6 a7 a8 a9 a10 a11 a12 a13 a14 a15 a16 a17 a19 a20 a21 : Int) (c : Bool) : IntKind.i32.wrap ((ureadF [a0, a1, a2, a3, a4, a5, a6, a7, a8, a9, a10, a11, a12, a13, a14, a15, a16, a17, (if c then 1 else 0), a19, a20, a21]).getD 0 0) = IntKind.i32.wrap ((peekF [a0, a1, a2, a3, a4, a5, a6, a7, a8, a9, a10, a11, a12, a13, a14, a15, a16, a17, (if c then 1 else 0), a19, a20, a21]).getD 0 0) := by
  let σ := solve ureadG 22 (sigL (tabOf upFs) [a0, a1, a2, a3, a4, a5, a6, a7, a8, a9, a10, a11, a12, a13, a14, a15, a16, a17, (if c then 1 else 0), a19, a20, a21])
  have e : Eqs σ 22 ureadG := eqs_solve uread_ok
  have ag := agree_solve ureadG 22 (sigL (tabOf upFs) [a0, a1, a2, a3, a4, a5, a6, a7, a8, a9, a10, a11, a12, a13, a14, a15, a16, a17, (if c then 1 else 0), a19, a20, a21])
  have ht : σ.tab = tabOf upFs := ag.tab.symm
  have e22 : σ.ival 22 = IntKind.i32.wrap (σ.tab 192 [σ.ival 0, σ.ival 1, σ.ival 2, σ.ival 3, σ.ival 4, σ.ival 5, σ.ival 6, σ.ival 7, σ.ival 8, σ.ival 9, σ.ival 10, σ.ival 11, σ.ival 12, σ.ival 13, σ.ival 14, σ.ival 15, σ.ival 16, σ.ival 17, (if σ.bval 18 then 1 else 0), σ.ival 19, σ.ival 20, σ.ival 21]) := eqI (e.at 0 _ rfl rfl) rfl
  have v0 : σ.ival 0 = a0 := (ag.val 0 (by decide)).1.symm
  have v1 : σ.ival 1 = a1 := (ag.val 1 (by decide)).1.symm
  have v2 : σ.ival 2 = a2 := (ag.val 2 (by decide)).1.symm
  have v3 : σ.ival 3 = a3 := (ag.val 3 (by decide)).1.symm
  have v4 : σ.ival 4 = a4 := (ag.val 4 (by decide)).1.symm
  have v5 : σ.ival 5 = a5 := (ag.val 5 (by decide)).1.symm
  have v6 : σ.ival 6 = a6 := (ag.val 6 (by decide)).1.symm
  have v7 : σ.ival 7 = a7 := (ag.val 7 (by decide)).1.symm
  have v8 : σ.ival 8 = a8 := (ag.val 8 (by decide)).1.symm
  have v9 : σ.ival 9 = a9 := (ag.val 9 (by decide)).1.symm
  have v10 : σ.ival 10 = a10 := (ag.val 10 (by decide)).1.symm
  have v11 : σ.ival 11 = a11 := (ag.val 11 (by decide)).1.symm
  have v12 : σ.ival 12 = a12 := (ag.val 12 (by decide)).1.symm
  have v13 : σ.ival 13 = a13 := (ag.val 13 (by decide)).1.symm
  have v14 : σ.ival 14 = a14 := (ag.val 14 (by decide)).1.symm
  have v15 : σ.ival 15 = a15 := (ag.val 15 (by decide)).1.symm
  have v16 : σ.ival 16 = a16 := (ag.val 16 (by decide)).1.symm
  have v17 : σ.ival 17 = a17 := (ag.val 17 (by decide)).1.symm
  have v19 : σ.ival 19 = a19 := (ag.val 19 (by decide)).1.symm
  have v20 : σ.ival 20 = a20 := (ag.val 20 (by decide)).1.symm
  have v21 : σ.ival 21 = a21 := (ag.val 21 (by decide)).1.symm
  have v18 : σ.bval 18 = c := by
    have : σ.bval 18 = !((if c then 1 else 0 : Int) == 0) := (ag.val 18 (by decide)).2.1.symm
    rw [this]; cases c <;> rfl
  rw [ht, v0, v1, v2, v3, v4, v5, v6, v7, v8, v9, v10, v11, v12, v13, v14, v15, v16, v17, v18, v19, v20, v21] at e22
  show IntKind.i32.wrap (σ.ival 22) = _
  rw [e22, wrap_wrap]
  rfl


def apK : List (List Fact × Fact) := [([.tru 531 false], .tru 260 false), ([.tru 531 false], .tru 261 false), ([.tru 531 false], .tru 262 false), ([.tru 531 false], .tru 263 false), ([.tru 531 false], .tru 264 false), ([.isn 34 3], .tru 119 false), ([.isn 34 4], .tru 169 false), ([.isn 34 5], .tru 219 false)]
def apD : List (List Fact) := [[.tru 265 true, .tru 531 true, .non 34 0, .non 34 1, .non 34 2, .non 34 3, .non 34 4, .non 34 5, .non 34 6, .non 34 7, .non 34 8, .non 34 9, .non 34 10, .non 34 11, .non 34 12, .non 34 13, .non 34 14]]
set_option maxRecDepth 100000 in
theorem ap_left : leftW 34 apG apK (okTrue apSE apD) apW [] (stR 34 apG apK []) = true := by kernel_rfl

set_option maxRecDepth 100000 in
theorem ap_rules (τ : Sig) (e : Eqs τ 34 apG) (ht : τ.tab = tabOf dvFs) (hin : InsOk τ 34 apInK) : Rules τ apK := by
  have e34 : τ.ival 34 = IntKind.i64.wrap (τ.ival 0) := eqI (e.at 0 _ rfl rfl) rfl
  have e40 : τ.ival 40 = IntKind.i32.wrap (τ.tab 0 [τ.ival 5, τ.ival 6, τ.ival 7, τ.ival 8, τ.ival 9, τ.ival 10, τ.ival 11, τ.ival 12, τ.ival 13, τ.ival 14, τ.ival 15, τ.ival 16, τ.ival 17, τ.ival 18, τ.ival 19, τ.ival 20, τ.ival 21, τ.ival 22, (if τ.bval 23 then 1 else 0), τ.ival 24, τ.ival 25, 3]) := eqI (e.at 6 _ rfl rfl) rfl
  have e41 : τ.ival 41 = IntKind.i32.wrap (τ.tab 0 [τ.ival 5, τ.ival 6, τ.ival 7, τ.ival 8, τ.ival 9, τ.ival 10, τ.ival 11, τ.ival 12, τ.ival 13, τ.ival 14, τ.ival 15, τ.ival 16, τ.ival 17, τ.ival 18, τ.ival 19, τ.ival 20, τ.ival 21, τ.ival 22, (if τ.bval 23 then 1 else 0), τ.ival 24, τ.ival 25, 4]) := eqI (e.at 7 _ rfl rfl) rfl
  have e42 : τ.ival 42 = IntKind.i32.wrap (τ.tab 0 [τ.ival 5, τ.ival 6, τ.ival 7, τ.ival 8, τ.ival 9, τ.ival 10, τ.ival 11, τ.ival 12, τ.ival 13, τ.ival 14, τ.ival 15, τ.ival 16, τ.ival 17, τ.ival 18, τ.ival 19, τ.ival 20, τ.ival 21, τ.ival 22, (if τ.bval 23 then 1 else 0), τ.ival 24, τ.ival 25, 5]) := eqI (e.at 8 _ rfl rfl) rfl
  have e94 : τ.ival 94 = IntKind.i32.wrap (τ.tab 64 [τ.ival 5, τ.ival 6, τ.ival 7, τ.ival 8, τ.ival 9, τ.ival 10, τ.ival 11, τ.ival 12, τ.ival 13, τ.ival 14, τ.ival 15, τ.ival 16, τ.ival 17, τ.ival 18, τ.ival 19, τ.ival 20, τ.ival 21, τ.ival 22, (if τ.bval 23 then 1 else 0), τ.ival 24, τ.ival 25, 3]) := eqI (e.at 60 _ rfl rfl) rfl
  have e144 : τ.ival 144 = IntKind.i32.wrap (τ.tab 64 [τ.ival 5, τ.ival 6, τ.ival 7, τ.ival 8, τ.ival 9, τ.ival 10, τ.ival 11, τ.ival 12, τ.ival 13, τ.ival 14, τ.ival 15, τ.ival 16, τ.ival 17, τ.ival 18, τ.ival 19, τ.ival 20, τ.ival 21, τ.ival 22, (if τ.bval 23 then 1 else 0), τ.ival 24, τ.ival 25, 4]) := eqI (e.at 110 _ rfl rfl) rfl
  have e194 : τ.ival 194 = IntKind.i32.wrap (τ.tab 64 [τ.ival 5, τ.ival 6, τ.ival 7, τ.ival 8, τ.ival 9, τ.ival 10, τ.ival 11, τ.ival 12, τ.ival 13, τ.ival 14, τ.ival 15, τ.ival 16, τ.ival 17, τ.ival 18, τ.ival 19, τ.ival 20, τ.ival 21, τ.ival 22, (if τ.bval 23 then 1 else 0), τ.ival 24, τ.ival 25, 5]) := eqI (e.at 160 _ rfl rfl) rfl
  have e259 : τ.ival 259 = IntKind.i64.wrap ((τ.ival 34 : Int).tdiv (3)) := eqI (e.at 225 _ rfl rfl) rfl
  have e260 : τ.bval 260 = (τ.ival 259 == 0) := eqB (e.at 226 _ rfl rfl) rfl
  have e261 : τ.bval 261 = (τ.ival 259 == 1) := eqB (e.at 227 _ rfl rfl) rfl
  have e262 : τ.bval 262 = (τ.ival 259 == 2) := eqB (e.at 228 _ rfl rfl) rfl
  have e263 : τ.bval 263 = (τ.ival 259 == 3) := eqB (e.at 229 _ rfl rfl) rfl
  have e264 : τ.bval 264 = (τ.ival 259 == 4) := eqB (e.at 230 _ rfl rfl) rfl
  have e531 : τ.bval 531 = decide (τ.ival 34 ≤ 14) := eqB (e.at 497 _ rfl rfl) rfl
  have e119 : τ.bval 119 = (τ.ival 94 != τ.ival 40) := eqB (e.at 85 _ rfl rfl) rfl
  have e169 : τ.bval 169 = (τ.ival 144 != τ.ival 41) := eqB (e.at 135 _ rfl rfl) rfl
  have e219 : τ.bval 219 = (τ.ival 194 != τ.ival 42) := eqB (e.at 185 _ rfl rfl) rfl
  have r0 : -128 ≤ τ.ival 0 ∧ τ.ival 0 ≤ 127 := by
    have := hin 0 .i8 (by decide) rfl
    simp [IntKind.wrap, IntKind.bits, IntKind.signed] at this; omega
  have r34 : τ.ival 34 = τ.ival 0 := by rw [e34]; simp [IntKind.wrap, IntKind.bits, IntKind.signed]; omega
  have far : Holds τ [.tru 531 false] → 5 ≤ τ.ival 259 := by
    intro h
    have h : τ.bval 531 = false := h.1
    rw [e531, decide_eq_false_iff_not] at h
    rw [e259, Int.tdiv_eq_ediv_of_nonneg (by omega)]
    simp [IntKind.wrap, IntKind.bits, IntKind.signed]; omega
  intro p hp hF
  simp only [apK, List.mem_cons, List.not_mem_nil, or_false] at hp
  rcases hp with rfl | rfl | rfl | rfl | rfl | rfl | rfl | rfl
  · have := far hF; show τ.bval 260 = false; rw [e260]; simp only [beq_eq_false_iff_ne, ne_eq]; omega
  · have := far hF; show τ.bval 261 = false; rw [e261]; simp only [beq_eq_false_iff_ne, ne_eq]; omega
  · have := far hF; show τ.bval 262 = false; rw [e262]; simp only [beq_eq_false_iff_ne, ne_eq]; omega
  · have := far hF; show τ.bval 263 = false; rw [e263]; simp only [beq_eq_false_iff_ne, ne_eq]; omega
  · have := far hF; show τ.bval 264 = false; rw [e264]; simp only [beq_eq_false_iff_ne, ne_eq]; omega
  · show τ.bval 119 = false
    have h : τ.ival 94 = τ.ival 40 := by rw [e94, e40, ht]; exact uread_head _ _ _ _ _ _ _ _ _ _ _ _ _ _ _ _ _ _ _ _ _ _
    rw [e119, h]; simp
  · show τ.bval 169 = false
    have h : τ.ival 144 = τ.ival 41 := by rw [e144, e41, ht]; exact uread_head _ _ _ _ _ _ _ _ _ _ _ _ _ _ _ _ _ _ _ _ _ _
    rw [e169, h]; simp
  · show τ.bval 219 = false
    have h : τ.ival 194 = τ.ival 42 := by rw [e194, e42, ht]; exact uread_head _ _ _ _ _ _ _ _ _ _ _ _ _ _ _ _ _ _ _ _ _ _
    rw [e219, h]; simp

set_option maxRecDepth 100000 in
theorem ap_dead (τ : Sig) (e : Eqs τ 34 apG) : ∀ l, l ∈ apD → ¬ Holds τ l := by
  intro l hl hF
  simp only [apD, List.mem_singleton] at hl
  subst hl
  have e265 : τ.bval 265 = decide (τ.ival 34 ≥ 0) := eqB (e.at 231 _ rfl rfl) rfl
  have e531 : τ.bval 531 = decide (τ.ival 34 ≤ 14) := eqB (e.at 497 _ rfl rfl) rfl
  simp only [Holds, Fact.holds, e265, e531, decide_eq_true_eq] at hF
  omega

theorem ap_ob (τ : Sig) (e : Eqs τ 34 apG) (ht : τ.tab = tabOf dvFs) (hin : InsOk τ 34 apInK) : segsW τ (fun x s σ2 => (x = .ret ∨ x = .normal) ∧ s = apSE ∧ OutOk σ2 [.one .b] (packA [.symb 0]) [1]) apW [] :=
  ends_true e (ap_rules τ e ht hin) (ap_dead τ e) ap_left

set_option maxRecDepth 100000 in
theorem walk (W : World) (v0 : Value) (X0 : Fz) (r0 : RowV W [.i .u8, .i .i8, .i .i32] v0 X0) (n1 : Int) (i1 : InR [.i .i8] [n1]) (n2 : Int) (i2 : InR [.i .i32] [n2]) :
    Calls Try.prog 11 #[v0, encC (.i .i8) n1, encC (.i .i32) n2] W fun e W' => e = .returned (.bool true) ∧ Below W.heap.size W W' := by
  have he : InR b32c (playedF X0) := by
    have : InR (b32c ++ []) (playedF X0) := (played_fn W v0 X0 r0).1
    simpa using this
  exact row_straight (ss := apSs) (ecl := b32c) (X := apX (rowInv X0 34 ([n1, n2] ++ playedF X0))) (Wt := apW) (SE := apSE) (vs := [.symb 0]) (tab := tabOf dvFs) (l := [n1, n2]) (e := playedF X0)
    fc.mixed Try.func11 hbody hnt (by simp [encS, apSs]) ⟨rfl, rfl, rfl, rfl, rfl, rfl, rfl⟩ ap_ok ap_lt
    (fun F => row_hooksM (l := [n1, n2]) played_fn r0 ap_lt rfl rfl rfl kp_tru ap_macs F)
    (by kernel_rfl) (by kernel_rfl) (ap_reck _) ⟨i1.1, i2.1, rfl⟩ he ap_ob (by kernel_rfl) r0

section
variable {H : Type} {enc : TypeId × Value → H} {P : Program}
theorem post_of_below {f : Func} {s : ChangeSpec} {apart fresh handsOn again : Bool} {W W' : World} {args : Array Value} {v : Value} {ds gs : List (DataW H)} {before pa pv : List MemPlace}
    (hW : DataW.Whole enc P f.params.toList s.vars apart W args.toList ds gs before)
    (hres : ∀ (b : Nat) (sp : Nat → Bool) (hd : Bool), DataW.TrodAll enc P W' b sp hd f.resultTypes.toList (v.resultList f.resultTypes.size) (s.fn H (ds ++ gs)).results [])
    (hargs : ∀ sp : Nat → Bool, (∀ p ∈ before, sp p.block = true) → DataW.TrodAll enc P W' 0 sp true f.params.toList args.toList (s.fn H (ds ++ gs)).args pa)
    (hvars : ∀ sp : Nat → Bool, (∀ p ∈ before, sp p.block = true) → DataW.TrodVars enc P W' sp s.vars (s.fn H (ds ++ gs)).vars pv)
    (hps : before = pa ++ pv) (hb : Below W.heap.size W W')
    (hok : ∀ (j : Nat) (t : TypeId) (r : Value), f.resultTypes[j]? = some t → (v.resultList f.resultTypes.size)[j]? = some r → Value.okWide P W' .any 0 t r) :
    s.post enc P f apart fresh handsOn again W args v W' := by
  have hlt : ∀ p ∈ before, p.block < W.heap.size := fun p hp => hW.lt p hp
  have hold : ∀ p ∈ before, (fun b => decide (b < W.heap.size)) p.block = true := fun p hp => by simpa using hlt p hp
  refine ⟨ds, gs, before, [], pa, pv, hW, hres _ _ _, hargs _ hold, hvars _ hold, World.keptBut_mono (fun p hp => ⟨hp, ?_⟩) (hb.frame (· ∈ before)), fun _ => ?_⟩
  · rw [hps, List.mem_append] at hp
    exact Or.inr hp
  · obtain ⟨_, _, _, _, _, hz, hn⟩ := hW
    refine ⟨hok, _, _, ([] ++ pa) ++ pv, ⟨[] ++ pa, pv, trodAll_append (hargs _ (fun _ _ => rfl)) (hres _ _ _), hvars _ (fun _ _ => rfl), rfl, ?_, ?_⟩, ?_⟩
    · intro b off hp
      have hin : MemPlace.cell b off ∈ before := by rw [hps]; simpa using hp
      rw [hb.frozen (hlt _ hin)]
      exact hz b off hin
    · intro ha
      have := hn ha
      rw [hps] at this
      simpa using this
    · intro p hp _
      rw [hps]
      simpa using hp
end


theorem size60 : Nat.beq (Try.prog.cellsOf 60) ([.i .u8, .i .i8, .i .i32] : List Cl).length = true := by kernel_rfl
theorem flat60 : flat Try.prog 4 60 = some [.i .u8, .i .i8, .i .i32] := by kernel_rfl
theorem agg58 : Ev.isAgg Try.prog 58 = false := by kernel_rfl
theorem flat58 : flat Try.prog 4 58 = some [.i .i8] := by kernel_rfl
theorem agg21 : Ev.isAgg Try.prog 21 = false := by kernel_rfl
theorem flat21 : flat Try.prog 4 21 = some [.i .i32] := by kernel_rfl

set_option maxRecDepth 100000 in
theorem lifted (os : Os) (started : os.Started) (H : Type) (enc : TypeId × Value → H) :
    ReturnsInHanded {} Try.checked os 11 .any (Rows.bankApartSpec.pre6 enc Try.prog Try.f11 Rows.bankApartRow.domain false) (Rows.bankApartSpec.post enc Try.prog Try.f11 false true false false) := by
  refine returnsInHanded_of_change (C := Try.checked) own started (by kernel_rfl) Try.func11
    (ChangeSpec.witness6 (enc := enc) (C := Try.checked) false ⟨#[], #[.slice none 0 0, .int .i8 0, .int .i32 0], []⟩ 8 (by kernel_rfl) (by kernel_rfl) (by kernel_rfl) (by kernel_rfl)) ?_
  intro W base args ds gs before hval0 hW hcnd _
  have hval : ∀ (j : Nat) t v, Try.f11.params[j]? = some t → args[j]? = some v → Value.okWide Try.prog W .any base t v := hval0
  have hW' := hW
  obtain ⟨p, q, hA0, hV, rfl, hfz, hnd⟩ := hW
  have hA : DataW.TrodAll enc Try.prog W 0 (fun _ => true) true Try.f11.params.toList args.toList ds p := hA0
  rw [Try.params11] at hA hval
  obtain ⟨v0, vs0, d0, ds0, p0, q0, hargs, rfl, rfl, h0, r0⟩ := trodAll_cons hA
  obtain ⟨v1, vs1, d1, ds1, p1, q1, rfl, rfl, rfl, h1, r1⟩ := trodAll_cons r0
  obtain ⟨v2, vs2, d2, ds2, p2, q2, rfl, rfl, rfl, h2, r2⟩ := trodAll_cons r1
  obtain ⟨rfl, rfl, rfl⟩ := trodAll_nil r2
  obtain rfl : args = #[v0, v1, v2] := by cases args; simp_all
  obtain ⟨rfl, rfl⟩ := trodVars_none hV
  obtain ⟨X0, R0⟩ := open_rows (cl := [.i .u8, .i .i8, .i .i32]) Try.underlying57 flat60 size60 rfl (hval 0 57 v0 rfl rfl) h0
  obtain ⟨n1, i1, rfl, rfl⟩ := open_one flat58 agg58 (hval 1 58 v1 rfl rfl) h1
  obtain ⟨n2, i2, rfl, rfl⟩ := open_one flat21 agg21 (hval 2 21 v2 rfl rfl) h2
  clear hA0 hval0
  simp only [List.append_nil] at hW'
  refine (walk W v0 X0 R0.row n1 i1 n2 i2).mono fun e W' ⟨he, hg⟩ => ?_
  subst he
  exact ⟨_, rfl, post_of_below (pa := p0 ++ ([] ++ ([] ++ ([])))) (pv := []) hW' (fun _ _ _ => (trodAll_cons_mk (shut_bool Try.underlying4 _) trodAll_mk0)) (fun sp hsp => (trodAll_cons_mk (R0.again W' hg sp (fun z hz => hsp z (by simp [hz]))) (trodAll_cons_mk (shut_flat flat58 h1) (trodAll_cons_mk (shut_flat flat21 h2) trodAll_mk0)))) (fun _ _ => rfl) (by simp)
    hg (ok_one (by kernel_rfl) rfl (okWide_bool_mk Try.underlying4 _))⟩

theorem over : Rows.bankApartRow.holds Try.pinned (OpenSpec.ofChange Rows.bankApartSpec) :=
  OpenClaim.holds_of_wide 11 Try.f11 rfl rfl rfl rfl rfl rfl rfl ⟨rfl, rfl, rfl, rfl, rfl⟩ rfl rfl rfl rfl rfl (by kernel_rfl) Try.func11 (by kernel_rfl)
    (of_decide_eq_true (by kernel_rfl)) (by unfold Func.isWrapper; first | (rw [if_pos (by decide +kernel)]; kernel_rfl) | (rw [if_neg (by decide +kernel)]; exact ⟨rfl, rfl⟩))
    (fun os started H enc _ => lifted os started H enc)

/-- THE STATEMENT -/
theorem proved : Rows.BankApartSaid :=
  over
#print axioms proved
end Go.Proofs.Ytgifnmiggloclab.bankApart
