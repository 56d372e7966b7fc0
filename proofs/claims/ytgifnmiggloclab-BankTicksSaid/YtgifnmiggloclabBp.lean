/-
  The contracts of the functions of uart, gpio, timer, bank.
  No conditions.
-/
import Derived.Test.YtgifnmiggloclabChecked
import Derived.Test.YtgifnmiggloclabUq
import Derived.Test.YtgifnmiggloclabBd
import Derived.Test.YtgifnmiggloclabEwZi
import Derived.ProofKit
namespace Go.Proofs.Ytgifnmiggloclab.bp
open Go.RowKit Go.Ev Go.Proofs.Ytgifnmiggloclab.fc Go.Proofs.Ytgifnmiggloclab.uc Go.Proofs.Ytgifnmiggloclab.bd
set_option linter.unusedVariables false
set_option linter.unusedSimpArgs false

def b32c : List Cl := [.i .u8, .i .u8, .i .u8, .i .i64, .i .u8, .i .u8, .i .u8, .i .u8, .i .u8, .i .u8, .i .u8, .i .u8, .i .i64, .i .u8, .i .u8, .i .u8, .i .u8, .i .u8, .i .u8, .i .u8, .i .u8, .b, .i .u8, .i .u8, .i .u16, .i .u16, .i .u16, .i .u16, .i .u16, .i .u16, .i .u8, .i .u8]
def b32 : Sh := .agg b32c

def ureadI : List Sh := [u21, .one (.i .i64)]
def ureadO : List Sh := [.one (.i .i32), u21]
def bpL0 : List AVal := [.symi .i64 0, .symi .u8 1, .symi .u8 2, .symi .u8 3, .symi .u8 4, .symi .u8 5, .symi .u8 6, .symi .u8 7, .symi .u8 8, .symi .i64 9, .symi .u8 10, .symi .u8 11, .symi .u8 12, .symi .u8 13, .symi .u8 14, .symi .u8 15, .symi .u8 16, .symi .u8 17, .symb 18, .symi .u8 19, .symi .u8 20, .symi .i64 21]
def bpL1 : List AVal := [.symi .i64 0, .symi .u8 1, .symi .u8 2, .symi .u8 3, .symi .u8 4, .symi .u8 5, .symi .u8 6, .symi .u8 7, .symi .u8 8]
def bpL2 : List AVal := [.symi .i64 9, .symi .u8 10, .symi .u8 11, .symi .u8 12, .symi .u8 13, .symi .u8 14, .symi .u8 15, .symi .u8 16, .symi .u8 17]
def bpL3 : List AVal := [.symi .i64 23, .symi .u8 24, .symi .u8 25, .symi .u8 26, .symi .u8 27, .symi .u8 28, .symi .u8 29, .symi .u8 30, .symi .u8 31]
set_option maxRecDepth 100000 in
def ureadG : List SDef := [.fn 192 .i32 bpL0,
  .fn 0 .i64 bpL1,
  .fn 1 .u8 bpL1,
  .fn 2 .u8 bpL1,
  .fn 3 .u8 bpL1,
  .fn 4 .u8 bpL1,
  .fn 5 .u8 bpL1,
  .fn 6 .u8 bpL1,
  .fn 7 .u8 bpL1,
  .fn 8 .u8 bpL1,
  .fn 0 .i64 bpL2,
  .fn 1 .u8 bpL2,
  .fn 2 .u8 bpL2,
  .fn 3 .u8 bpL2,
  .fn 4 .u8 bpL2,
  .fn 5 .u8 bpL2,
  .fn 6 .u8 bpL2,
  .fn 7 .u8 bpL2,
  .fn 8 .u8 bpL2,
  .bin .eql (.symi .i64 32) (.int .i64 0),
  .bin .geq (.symi .u8 20) (.int .u8 4),
  .ite (.symb 42) (.int .u8 0) (.symi .u8 20),
  .ite (.symb 41) (.int .u8 0) (.symi .u8 43),
  .bin .eql (.symi .i64 21) (.int .i64 3),
  .bin .eql (.symi .i64 21) (.int .i64 4),
  .fn 128 .u8 bpL3,
  .fn 129 .i64 bpL3,
  .fn 130 .u8 bpL3,
  .fn 131 .u8 bpL3,
  .fn 132 .u8 bpL3,
  .fn 133 .u8 bpL3,
  .fn 134 .u8 bpL3,
  .fn 135 .u8 bpL3,
  .fn 136 .u8 bpL3,
  .fn 137 .u8 bpL3,
  .fnb 138 bpL3,
  .ite (.symb 46) (.bool false) (.symb 18),
  .ite (.symb 45) (.symi .i64 48) (.symi .i64 23),
  .ite (.symb 45) (.symi .u8 49) (.symi .u8 24),
  .ite (.symb 45) (.symi .u8 50) (.symi .u8 25),
  .ite (.symb 45) (.symi .u8 51) (.symi .u8 26),
  .ite (.symb 45) (.symi .u8 52) (.symi .u8 27),
  .ite (.symb 45) (.symi .u8 53) (.symi .u8 28),
  .ite (.symb 45) (.symi .u8 54) (.symi .u8 29),
  .ite (.symb 45) (.symi .u8 55) (.symi .u8 30),
  .ite (.symb 45) (.symi .u8 56) (.symi .u8 31),
  .ite (.symb 45) (.symb 18) (.symb 58)]

set_option maxRecDepth 100000 in
def ureadT : LT := .n (.n (.n (.n (.n (.n (.e) 371892 60 (.ite (.symb 45) (.symi .u8 49) (.symi .u8 24)) (.e)) 10794609 41 (.bin .eql (.symi .i64 32) (.int .i64 0)) (.e)) 126633665 64 (.ite (.symb 45) (.symi .u8 53) (.symi .u8 28)) (.n (.n (.e) 217925691 22 (.fn 192 .i32 bpL0) (.e)) 268268734 43 (.ite (.symb 42) (.int .u8 0) (.symi .u8 20)) (.e))) 300372792 61 (.ite (.symb 45) (.symi .u8 50) (.symi .u8 25)) (.n (.n (.n (.e) 339945573 57 (.fnb 138 bpL3) (.e)) 375727183 32 (.fn 0 .i64 bpL2) (.e)) 375727226 33 (.fn 1 .u8 bpL2) (.n (.n (.e) 375727269 34 (.fn 2 .u8 bpL2) (.e)) 375727312 35 (.fn 3 .u8 bpL2) (.e)))) 375727355 36 (.fn 4 .u8 bpL2) (.n (.n (.n (.n (.e) 375727398 37 (.fn 5 .u8 bpL2) (.e)) 375727441 38 (.fn 6 .u8 bpL2) (.e)) 375727484 39 (.fn 7 .u8 bpL2) (.n (.n (.e) 375727527 40 (.fn 8 .u8 bpL2) (.e)) 381049085 44 (.ite (.symb 41) (.int .u8 0) (.symi .u8 43)) (.e))) 426634565 65 (.ite (.symb 45) (.symi .u8 54) (.symi .u8 29)) (.n (.n (.n (.e) 485560756 23 (.fn 0 .i64 bpL1) (.e)) 485560799 24 (.fn 1 .u8 bpL1) (.e)) 485560842 25 (.fn 2 .u8 bpL1) (.n (.n (.e) 485560885 26 (.fn 3 .u8 bpL1) (.e)) 485560928 27 (.fn 4 .u8 bpL1) (.e))))) 485560971 28 (.fn 5 .u8 bpL1) (.n (.n (.n (.n (.n (.e) 485561014 29 (.fn 6 .u8 bpL1) (.e)) 485561057 30 (.fn 7 .u8 bpL1) (.e)) 485561100 31 (.fn 8 .u8 bpL1) (.n (.n (.e) 515717837 68 (.ite (.symb 45) (.symb 18) (.symb 58)) (.e)) 522370704 58 (.ite (.symb 46) (.bool false) (.symb 18)) (.e))) 600373692 62 (.ite (.symb 45) (.symi .u8 51) (.symi .u8 26)) (.n (.n (.n (.e) 726635465 66 (.ite (.symb 45) (.symi .u8 55) (.symi .u8 30)) (.e)) 774112819 59 (.ite (.symb 45) (.symi .i64 48) (.symi .i64 23)) (.e)) 900374592 63 (.ite (.symb 45) (.symi .u8 52) (.symi .u8 27)) (.n (.n (.e) 920708347 47 (.fn 128 .u8 bpL3) (.e)) 920708390 48 (.fn 129 .i64 bpL3) (.e)))) 920708433 49 (.fn 130 .u8 bpL3) (.n (.n (.n (.n (.e) 920708476 50 (.fn 131 .u8 bpL3) (.e)) 920708519 51 (.fn 132 .u8 bpL3) (.e)) 920708562 52 (.fn 133 .u8 bpL3) (.n (.n (.e) 920708605 53 (.fn 134 .u8 bpL3) (.e)) 920708648 54 (.fn 135 .u8 bpL3) (.e))) 920708691 55 (.fn 136 .u8 bpL3) (.n (.n (.n (.e) 920708734 56 (.fn 137 .u8 bpL3) (.e)) 946474802 42 (.bin .geq (.symi .u8 20) (.int .u8 4)) (.e)) 1026636365 67 (.ite (.symb 45) (.symi .u8 56) (.symi .u8 31)) (.n (.n (.e) 1047425035 45 (.bin .eql (.symi .i64 21) (.int .i64 3)) (.e)) 1047475070 46 (.bin .eql (.symi .i64 21) (.int .i64 4)) (.e)))))

def ureadX : Ing := { m := 22, ins := (cellsOf ureadI).map kindC, G := ureadG, T := ureadT, hook := tblHook (tabOf upFs) upTbl, tab := tabOf upFs }
def ureadA : List AVal := [.symi .i32 22, .symi .i64 59, .symi .u8 60, .symi .u8 61, .symi .u8 62, .symi .u8 63, .symi .u8 64, .symi .u8 65, .symi .u8 66, .symi .u8 67, .symi .i64 32, .symi .u8 33, .symi .u8 34, .symi .u8 35, .symi .u8 36, .symi .u8 37, .symi .u8 38, .symi .u8 39, .symi .u8 40, .symb 68, .symi .u8 19, .symi .u8 44]
def ureadF : List Int → List Int := dagF ureadX.tab 22 ureadG ureadA
theorem uread_ok : okG ureadG 22 = true := by kernel_rfl
theorem uread_lt : okLT 22 ureadG ureadT = true := by kernel_rfl
theorem uread_run : okW (fun F => (evD Try.prog (cxOf ureadX) true 1000 40).1 F 21 (symSh ureadI 0) ⟨[], []⟩) (.run (.leaf (.tuple [.symi .i32 22, .agg [.symi .i64 59, .symi .u8 60, .symi .u8 61, .symi .u8 62, .symi .u8 63, .symi .u8 64, .symi .u8 65, .symi .u8 66, .symi .u8 67, .symi .i64 32, .symi .u8 33, .symi .u8 34, .symi .u8 35, .symi .u8 36, .symi .u8 37, .symi .u8 38, .symi .u8 39, .symi .u8 40, .symb 68, .symi .u8 19, .symi .u8 44]]))) [] = true := by kernel_rfl
theorem uread_contract : FnOk Try.prog 21 ureadI ureadO ureadF :=
  dag_contract (X := ureadX) (cs := ureadA) (cs1 := ureadA) 12 fc.mixed ⟨rfl, rfl, rfl, rfl, rfl⟩ uread_ok uread_lt (fun F => tbl_hooks uread_lt rfl rfl up_all F) uread_run (by kernel_rfl) (by kernel_rfl) (fun σ _ _ _ => rfl)

def uwriteI : List Sh := [u21, .one (.i .i64), .one (.i .i32)]
def uwriteO : List Sh := [u21]
def bpL4 : List AVal := [.symi .i64 32, .symi .u8 33, .symi .u8 34, .symi .u8 35, .symi .u8 36, .symi .u8 37, .symi .u8 38, .symi .u8 39, .symi .u8 40, .symi .u8 46]
set_option maxRecDepth 100000 in
def uwriteG : List SDef := [.fn 0 .i64 bpL1,
  .fn 1 .u8 bpL1,
  .fn 2 .u8 bpL1,
  .fn 3 .u8 bpL1,
  .fn 4 .u8 bpL1,
  .fn 5 .u8 bpL1,
  .fn 6 .u8 bpL1,
  .fn 7 .u8 bpL1,
  .fn 8 .u8 bpL1,
  .fn 0 .i64 bpL2,
  .fn 1 .u8 bpL2,
  .fn 2 .u8 bpL2,
  .fn 3 .u8 bpL2,
  .fn 4 .u8 bpL2,
  .fn 5 .u8 bpL2,
  .fn 6 .u8 bpL2,
  .fn 7 .u8 bpL2,
  .fn 8 .u8 bpL2,
  .bin .eql (.symi .i64 32) (.int .i64 0),
  .bin .geq (.symi .u8 20) (.int .u8 4),
  .ite (.symb 42) (.int .u8 0) (.symi .u8 20),
  .ite (.symb 41) (.int .u8 0) (.symi .u8 43),
  .bin .eql (.symi .i64 21) (.int .i64 3),
  .conv .u8 (.symi .i32 22),
  .fn 64 .i64 bpL4,
  .fn 65 .u8 bpL4,
  .fn 66 .u8 bpL4,
  .fn 67 .u8 bpL4,
  .fn 68 .u8 bpL4,
  .fn 69 .u8 bpL4,
  .fn 70 .u8 bpL4,
  .fn 71 .u8 bpL4,
  .fn 72 .u8 bpL4,
  .fnb 73 bpL4,
  .bin .eql (.symi .i64 21) (.int .i64 5),
  .ite (.symb 57) (.symi .u8 46) (.symi .u8 19),
  .ite (.symb 45) (.symi .i64 47) (.symi .i64 32),
  .ite (.symb 45) (.symi .u8 48) (.symi .u8 33),
  .ite (.symb 45) (.symi .u8 49) (.symi .u8 34),
  .ite (.symb 45) (.symi .u8 50) (.symi .u8 35),
  .ite (.symb 45) (.symi .u8 51) (.symi .u8 36),
  .ite (.symb 45) (.symi .u8 52) (.symi .u8 37),
  .ite (.symb 45) (.symi .u8 53) (.symi .u8 38),
  .ite (.symb 45) (.symi .u8 54) (.symi .u8 39),
  .ite (.symb 45) (.symi .u8 55) (.symi .u8 40),
  .ite (.symb 45) (.symi .u8 19) (.symi .u8 58)]

set_option maxRecDepth 100000 in
def uwriteT : LT := .n (.n (.n (.n (.n (.n (.e) 10794609 41 (.bin .eql (.symi .i64 32) (.int .i64 0)) (.e)) 89156341 67 (.ite (.symb 45) (.symi .u8 55) (.symi .u8 40)) (.e)) 118523476 46 (.conv .u8 (.symi .i32 22)) (.n (.n (.e) 136633695 60 (.ite (.symb 45) (.symi .u8 48) (.symi .u8 33)) (.e)) 215714896 47 (.fn 64 .i64 bpL4) (.e))) 215714939 48 (.fn 65 .u8 bpL4) (.n (.n (.n (.e) 215714982 49 (.fn 66 .u8 bpL4) (.e)) 215715025 50 (.fn 67 .u8 bpL4) (.e)) 215715068 51 (.fn 68 .u8 bpL4) (.n (.n (.e) 215715111 52 (.fn 69 .u8 bpL4) (.e)) 215715154 53 (.fn 70 .u8 bpL4) (.e)))) 215715197 54 (.fn 71 .u8 bpL4) (.n (.n (.n (.n (.e) 215715240 55 (.fn 72 .u8 bpL4) (.e)) 262895468 64 (.ite (.symb 45) (.symi .u8 52) (.symi .u8 37)) (.e)) 268268734 43 (.ite (.symb 42) (.int .u8 0) (.symi .u8 20)) (.n (.n (.e) 375727183 32 (.fn 0 .i64 bpL2) (.e)) 375727226 33 (.fn 1 .u8 bpL2) (.e))) 375727269 34 (.fn 2 .u8 bpL2) (.n (.n (.n (.e) 375727312 35 (.fn 3 .u8 bpL2) (.e)) 375727355 36 (.fn 4 .u8 bpL2) (.e)) 375727398 37 (.fn 5 .u8 bpL2) (.n (.n (.e) 375727441 38 (.fn 6 .u8 bpL2) (.e)) 375727484 39 (.fn 7 .u8 bpL2) (.e))))) 375727527 40 (.fn 8 .u8 bpL2) (.n (.n (.n (.n (.n (.e) 381049085 44 (.ite (.symb 41) (.int .u8 0) (.symi .u8 43)) (.e)) 436634595 61 (.ite (.symb 45) (.symi .u8 49) (.symi .u8 34)) (.e)) 466423330 58 (.ite (.symb 57) (.symi .u8 46) (.symi .u8 19)) (.n (.n (.e) 485560756 23 (.fn 0 .i64 bpL1) (.e)) 485560799 24 (.fn 1 .u8 bpL1) (.e))) 485560842 25 (.fn 2 .u8 bpL1) (.n (.n (.n (.e) 485560885 26 (.fn 3 .u8 bpL1) (.e)) 485560928 27 (.fn 4 .u8 bpL1) (.e)) 485560971 28 (.fn 5 .u8 bpL1) (.n (.n (.e) 485561014 29 (.fn 6 .u8 bpL1) (.e)) 485561057 30 (.fn 7 .u8 bpL1) (.e)))) 485561100 31 (.fn 8 .u8 bpL1) (.n (.n (.n (.n (.e) 562896368 65 (.ite (.symb 45) (.symi .u8 53) (.symi .u8 38)) (.e)) 664373884 68 (.ite (.symb 45) (.symi .u8 19) (.symi .u8 58)) (.e)) 736635495 62 (.ite (.symb 45) (.symi .u8 50) (.symi .u8 35)) (.n (.n (.e) 862897268 66 (.ite (.symb 45) (.symi .u8 54) (.symi .u8 39)) (.e)) 910374622 59 (.ite (.symb 45) (.symi .i64 47) (.symi .i64 32)) (.e))) 946474802 42 (.bin .geq (.symi .u8 20) (.int .u8 4)) (.n (.n (.n (.e) 1028853213 56 (.fnb 73 bpL4) (.e)) 1036636395 63 (.ite (.symb 45) (.symi .u8 51) (.symi .u8 36)) (.e)) 1047425035 45 (.bin .eql (.symi .i64 21) (.int .i64 3)) (.n (.e) 1047525105 57 (.bin .eql (.symi .i64 21) (.int .i64 5)) (.e)))))

def uwriteX : Ing := { m := 23, ins := (cellsOf uwriteI).map kindC, G := uwriteG, T := uwriteT, hook := tblHook (tabOf upFs) upTbl, tab := tabOf upFs }
def bpL5 : List AVal := [.symi .i64 23, .symi .u8 24, .symi .u8 25, .symi .u8 26, .symi .u8 27, .symi .u8 28, .symi .u8 29, .symi .u8 30, .symi .u8 31, .symi .i64 59, .symi .u8 60, .symi .u8 61, .symi .u8 62, .symi .u8 63, .symi .u8 64, .symi .u8 65, .symi .u8 66, .symi .u8 67, .symb 18, .symi .u8 68, .symi .u8 44]
def uwriteA : List AVal := bpL5
def uwriteF : List Int → List Int := dagF uwriteX.tab 23 uwriteG uwriteA
theorem uwrite_ok : okG uwriteG 23 = true := by kernel_rfl
theorem uwrite_lt : okLT 23 uwriteG uwriteT = true := by kernel_rfl
theorem uwrite_run : okW (fun F => (evD Try.prog (cxOf uwriteX) true 1000 40).1 F 22 (symSh uwriteI 0) ⟨[], []⟩) (.run (.leaf (.agg bpL5))) [] = true := by kernel_rfl
theorem uwrite_contract : FnOk Try.prog 22 uwriteI uwriteO uwriteF :=
  dag_contract (X := uwriteX) (cs := uwriteA) (cs1 := uwriteA) 12 fc.mixed ⟨rfl, rfl, rfl, rfl, rfl⟩ uwrite_ok uwrite_lt (fun F => tbl_hooks uwrite_lt rfl rfl up_all F) uwrite_run (by kernel_rfl) (by kernel_rfl) (fun σ _ _ _ => rfl)

def uarriveI : List Sh := [u21, .one (.i .u8)]
def uarriveO : List Sh := [u21, .one .b]
def bpL6 : List AVal := [.symi .i64 22, .symi .u8 23, .symi .u8 24, .symi .u8 25, .symi .u8 26, .symi .u8 27, .symi .u8 28, .symi .u8 29, .symi .u8 30, .symi .u8 21]
set_option maxRecDepth 100000 in
def uarriveG : List SDef := [.fn 0 .i64 bpL1,
  .fn 1 .u8 bpL1,
  .fn 2 .u8 bpL1,
  .fn 3 .u8 bpL1,
  .fn 4 .u8 bpL1,
  .fn 5 .u8 bpL1,
  .fn 6 .u8 bpL1,
  .fn 7 .u8 bpL1,
  .fn 8 .u8 bpL1,
  .fn 0 .i64 bpL2,
  .fn 1 .u8 bpL2,
  .fn 2 .u8 bpL2,
  .fn 3 .u8 bpL2,
  .fn 4 .u8 bpL2,
  .fn 5 .u8 bpL2,
  .fn 6 .u8 bpL2,
  .fn 7 .u8 bpL2,
  .fn 8 .u8 bpL2,
  .bin .eql (.symi .i64 31) (.int .i64 0),
  .bin .geq (.symi .u8 20) (.int .u8 4),
  .ite (.symb 41) (.int .u8 0) (.symi .u8 20),
  .ite (.symb 40) (.int .u8 0) (.symi .u8 42),
  .fn 64 .i64 bpL6,
  .fn 65 .u8 bpL6,
  .fn 66 .u8 bpL6,
  .fn 67 .u8 bpL6,
  .fn 68 .u8 bpL6,
  .fn 69 .u8 bpL6,
  .fn 70 .u8 bpL6,
  .fn 71 .u8 bpL6,
  .fn 72 .u8 bpL6,
  .fnb 73 bpL6,
  .un .not (.symb 53),
  .bin .and (.symi .u8 19) (.int .u8 1),
  .bin .neq (.symi .u8 55) (.int .u8 0),
  .ite (.symb 53) (.symb 56) (.bool false),
  .ite (.symb 18) (.bool true) (.symb 54)]

set_option maxRecDepth 100000 in
def uarriveT : LT := .n (.n (.n (.n (.n (.n (.e) 91044045 43 (.ite (.symb 40) (.int .u8 0) (.symi .u8 42)) (.e)) 129264147 42 (.ite (.symb 41) (.int .u8 0) (.symi .u8 20)) (.e)) 186317931 56 (.bin .neq (.symi .u8 55) (.int .u8 0)) (.n (.e) 375727183 31 (.fn 0 .i64 bpL2) (.e))) 375727226 32 (.fn 1 .u8 bpL2) (.n (.n (.n (.e) 375727269 33 (.fn 2 .u8 bpL2) (.e)) 375727312 34 (.fn 3 .u8 bpL2) (.e)) 375727355 35 (.fn 4 .u8 bpL2) (.n (.e) 375727398 36 (.fn 5 .u8 bpL2) (.e)))) 375727441 37 (.fn 6 .u8 bpL2) (.n (.n (.n (.n (.e) 375727484 38 (.fn 7 .u8 bpL2) (.e)) 375727527 39 (.fn 8 .u8 bpL2) (.e)) 485560756 22 (.fn 0 .i64 bpL1) (.n (.e) 485560799 23 (.fn 1 .u8 bpL1) (.e))) 485560842 24 (.fn 2 .u8 bpL1) (.n (.n (.e) 485560885 25 (.fn 3 .u8 bpL1) (.e)) 485560928 26 (.fn 4 .u8 bpL1) (.n (.e) 485560971 27 (.fn 5 .u8 bpL1) (.e))))) 485561014 28 (.fn 6 .u8 bpL1) (.n (.n (.n (.n (.n (.e) 485561057 29 (.fn 7 .u8 bpL1) (.e)) 485561100 30 (.fn 8 .u8 bpL1) (.e)) 488917047 44 (.fn 64 .i64 bpL6) (.n (.e) 488917090 45 (.fn 65 .u8 bpL6) (.e))) 488917133 46 (.fn 66 .u8 bpL6) (.n (.n (.n (.e) 488917176 47 (.fn 67 .u8 bpL6) (.e)) 488917219 48 (.fn 68 .u8 bpL6) (.e)) 488917262 49 (.fn 69 .u8 bpL6) (.n (.e) 488917305 50 (.fn 70 .u8 bpL6) (.e)))) 488917348 51 (.fn 71 .u8 bpL6) (.n (.n (.n (.n (.e) 488917391 52 (.fn 72 .u8 bpL6) (.e)) 494918190 53 (.fnb 73 bpL6) (.e)) 679137529 57 (.ite (.symb 53) (.symb 56) (.bool false)) (.n (.e) 845324317 55 (.bin .and (.symi .u8 19) (.int .u8 1)) (.e))) 946474802 41 (.bin .geq (.symi .u8 20) (.int .u8 4)) (.n (.n (.e) 983536133 40 (.bin .eql (.symi .i64 31) (.int .i64 0)) (.e)) 992679233 58 (.ite (.symb 18) (.bool true) (.symb 54)) (.n (.e) 1058210067 54 (.un .not (.symb 53)) (.e)))))

def uarriveX : Ing := { m := 22, ins := (cellsOf uarriveI).map kindC, G := uarriveG, T := uarriveT, hook := tblHook (tabOf upFs) upTbl, tab := tabOf upFs }
def uarriveA : List AVal := [.symi .i64 44, .symi .u8 45, .symi .u8 46, .symi .u8 47, .symi .u8 48, .symi .u8 49, .symi .u8 50, .symi .u8 51, .symi .u8 52, .symi .i64 31, .symi .u8 32, .symi .u8 33, .symi .u8 34, .symi .u8 35, .symi .u8 36, .symi .u8 37, .symi .u8 38, .symi .u8 39, .symb 58, .symi .u8 19, .symi .u8 43, .symb 57]
def uarriveF : List Int → List Int := dagF uarriveX.tab 22 uarriveG uarriveA
theorem uarrive_ok : okG uarriveG 22 = true := by kernel_rfl
theorem uarrive_lt : okLT 22 uarriveG uarriveT = true := by kernel_rfl
theorem uarrive_run : okW (fun F => (evD Try.prog (cxOf uarriveX) true 1000 40).1 F 20 (symSh uarriveI 0) ⟨[], []⟩) (.run (.leaf (.tuple [.agg [.symi .i64 44, .symi .u8 45, .symi .u8 46, .symi .u8 47, .symi .u8 48, .symi .u8 49, .symi .u8 50, .symi .u8 51, .symi .u8 52, .symi .i64 31, .symi .u8 32, .symi .u8 33, .symi .u8 34, .symi .u8 35, .symi .u8 36, .symi .u8 37, .symi .u8 38, .symi .u8 39, .symb 58, .symi .u8 19, .symi .u8 43], .symb 57]))) [] = true := by kernel_rfl
theorem uarrive_contract : FnOk Try.prog 20 uarriveI uarriveO uarriveF :=
  dag_contract (X := uarriveX) (cs := uarriveA) (cs1 := uarriveA) 12 fc.mixed ⟨rfl, rfl, rfl, rfl, rfl⟩ uarrive_ok uarrive_lt (fun F => tbl_hooks uarrive_lt rfl rfl up_all F) uarrive_run (by kernel_rfl) (by kernel_rfl) (fun σ _ _ _ => rfl)

def utickI : List Sh := [u21]
def utickO : List Sh := [u21, .one (.i .u8), .one .b, .one .b]
def bpL7 : List AVal := [.symi .i64 30, .symi .u8 31, .symi .u8 32, .symi .u8 33, .symi .u8 34, .symi .u8 35, .symi .u8 36, .symi .u8 37, .symi .u8 38]
set_option maxRecDepth 100000 in
def utickG : List SDef := [.fn 0 .i64 bpL1,
  .fn 1 .u8 bpL1,
  .fn 2 .u8 bpL1,
  .fn 3 .u8 bpL1,
  .fn 4 .u8 bpL1,
  .fn 5 .u8 bpL1,
  .fn 6 .u8 bpL1,
  .fn 7 .u8 bpL1,
  .fn 8 .u8 bpL1,
  .fn 0 .i64 bpL2,
  .fn 1 .u8 bpL2,
  .fn 2 .u8 bpL2,
  .fn 3 .u8 bpL2,
  .fn 4 .u8 bpL2,
  .fn 5 .u8 bpL2,
  .fn 6 .u8 bpL2,
  .fn 7 .u8 bpL2,
  .fn 8 .u8 bpL2,
  .bin .eql (.symi .i64 30) (.int .i64 0),
  .bin .geq (.symi .u8 20) (.int .u8 4),
  .ite (.symb 40) (.int .u8 0) (.symi .u8 20),
  .ite (.symb 39) (.int .u8 0) (.symi .u8 41),
  .bin .gtr (.symi .i64 30) (.int .i64 0),
  .bin .add (.symi .u8 42) (.int .u8 1),
  .bin .eql (.symi .u8 44) (.int .u8 4),
  .fn 128 .u8 bpL7,
  .fn 129 .i64 bpL7,
  .fn 130 .u8 bpL7,
  .fn 131 .u8 bpL7,
  .fn 132 .u8 bpL7,
  .fn 133 .u8 bpL7,
  .fn 134 .u8 bpL7,
  .fn 135 .u8 bpL7,
  .fn 136 .u8 bpL7,
  .fn 137 .u8 bpL7,
  .fnb 138 bpL7,
  .bin .eql (.symi .i64 47) (.int .i64 0),
  .bin .and (.symi .u8 19) (.int .u8 2),
  .bin .neq (.symi .u8 58) (.int .u8 0),
  .ite (.symb 57) (.symb 59) (.bool false),
  .ite (.symb 45) (.symi .i64 47) (.symi .i64 30),
  .ite (.symb 45) (.symi .u8 48) (.symi .u8 31),
  .ite (.symb 45) (.symi .u8 49) (.symi .u8 32),
  .ite (.symb 45) (.symi .u8 50) (.symi .u8 33),
  .ite (.symb 45) (.symi .u8 51) (.symi .u8 34),
  .ite (.symb 45) (.symi .u8 52) (.symi .u8 35),
  .ite (.symb 45) (.symi .u8 53) (.symi .u8 36),
  .ite (.symb 45) (.symi .u8 54) (.symi .u8 37),
  .ite (.symb 45) (.symi .u8 55) (.symi .u8 38),
  .ite (.symb 45) (.int .u8 0) (.symi .u8 44),
  .ite (.symb 45) (.symi .u8 46) (.int .u8 0),
  .ite (.symb 45) (.symb 56) (.bool false),
  .ite (.symb 45) (.symb 60) (.bool false),
  .ite (.symb 43) (.symi .i64 61) (.symi .i64 30),
  .ite (.symb 43) (.symi .u8 62) (.symi .u8 31),
  .ite (.symb 43) (.symi .u8 63) (.symi .u8 32),
  .ite (.symb 43) (.symi .u8 64) (.symi .u8 33),
  .ite (.symb 43) (.symi .u8 65) (.symi .u8 34),
  .ite (.symb 43) (.symi .u8 66) (.symi .u8 35),
  .ite (.symb 43) (.symi .u8 67) (.symi .u8 36),
  .ite (.symb 43) (.symi .u8 68) (.symi .u8 37),
  .ite (.symb 43) (.symi .u8 69) (.symi .u8 38),
  .ite (.symb 43) (.symi .u8 70) (.symi .u8 42),
  .ite (.symb 43) (.symi .u8 71) (.int .u8 0),
  .ite (.symb 43) (.symb 72) (.bool false),
  .ite (.symb 43) (.symb 73) (.bool false)]

set_option maxRecDepth 100000 in
def utickT : LT := .n (.n (.n (.n (.n (.n (.n (.e) 14326059 70 (.ite (.symb 45) (.int .u8 0) (.symi .u8 44)) (.e)) 95148019 77 (.ite (.symb 43) (.symi .u8 64) (.symi .u8 33)) (.e)) 119454350 46 (.fn 128 .u8 bpL7) (.n (.e) 119454393 47 (.fn 129 .i64 bpL7) (.e))) 119454436 48 (.fn 130 .u8 bpL7) (.n (.n (.e) 119454479 49 (.fn 131 .u8 bpL7) (.e)) 119454522 50 (.fn 132 .u8 bpL7) (.n (.e) 119454565 51 (.fn 133 .u8 bpL7) (.e)))) 119454608 52 (.fn 134 .u8 bpL7) (.n (.n (.n (.e) 119454651 53 (.fn 135 .u8 bpL7) (.e)) 119454694 54 (.fn 136 .u8 bpL7) (.n (.e) 119454737 55 (.fn 137 .u8 bpL7) (.e))) 134633689 63 (.ite (.symb 45) (.symi .u8 49) (.symi .u8 32)) (.n (.n (.e) 149256558 45 (.bin .eql (.symi .u8 44) (.int .u8 4)) (.e)) 163120501 73 (.ite (.symb 45) (.symb 60) (.bool false)) (.n (.e) 200671124 83 (.ite (.symb 43) (.symi .u8 70) (.symi .u8 42)) (.e))))) 221409792 81 (.ite (.symb 43) (.symi .u8 68) (.symi .u8 37)) (.n (.n (.n (.n (.n (.e) 224326685 71 (.ite (.symb 45) (.symi .u8 46) (.int .u8 0)) (.e)) 260895462 67 (.ite (.symb 45) (.symi .u8 53) (.symi .u8 36)) (.e)) 268887146 74 (.ite (.symb 43) (.symi .i64 61) (.symi .i64 30)) (.n (.e) 375727183 30 (.fn 0 .i64 bpL2) (.e))) 375727226 31 (.fn 1 .u8 bpL2) (.n (.n (.e) 375727269 32 (.fn 2 .u8 bpL2) (.e)) 375727312 33 (.fn 3 .u8 bpL2) (.n (.e) 375727355 34 (.fn 4 .u8 bpL2) (.e)))) 375727398 35 (.fn 5 .u8 bpL2) (.n (.n (.n (.e) 375727441 36 (.fn 6 .u8 bpL2) (.e)) 375727484 37 (.fn 7 .u8 bpL2) (.n (.e) 375727527 38 (.fn 8 .u8 bpL2) (.e))) 395148919 78 (.ite (.symb 43) (.symi .u8 65) (.symi .u8 34)) (.n (.n (.e) 434634589 64 (.ite (.symb 45) (.symi .u8 50) (.symi .u8 33)) (.e)) 450103205 84 (.ite (.symb 43) (.symi .u8 71) (.int .u8 0)) (.n (.e) 452057327 57 (.bin .eql (.symi .i64 47) (.int .i64 0)) (.e)))))) 485560756 21 (.fn 0 .i64 bpL1) (.n (.n (.n (.n (.n (.n (.e) 485560799 22 (.fn 1 .u8 bpL1) (.e)) 485560842 23 (.fn 2 .u8 bpL1) (.e)) 485560885 24 (.fn 3 .u8 bpL1) (.n (.e) 485560928 25 (.fn 4 .u8 bpL1) (.e))) 485560971 26 (.fn 5 .u8 bpL1) (.n (.n (.e) 485561014 27 (.fn 6 .u8 bpL1) (.e)) 485561057 28 (.fn 7 .u8 bpL1) (.n (.e) 485561100 29 (.fn 8 .u8 bpL1) (.e)))) 489318840 59 (.bin .neq (.symi .u8 58) (.int .u8 0)) (.n (.n (.n (.e) 521410692 82 (.ite (.symb 43) (.symi .u8 69) (.symi .u8 38)) (.e)) 560896362 68 (.ite (.symb 45) (.symi .u8 54) (.symi .u8 37)) (.n (.e) 568888046 75 (.ite (.symb 43) (.symi .u8 62) (.symi .u8 31)) (.e))) 599428504 85 (.ite (.symb 43) (.symb 72) (.bool false)) (.n (.n (.e) 608373716 61 (.ite (.symb 45) (.symi .i64 47) (.symi .i64 30)) (.e)) 608428801 60 (.ite (.symb 57) (.symb 59) (.bool false)) (.n (.e) 640842660 72 (.ite (.symb 45) (.symb 56) (.bool false)) (.e))))) 695149819 79 (.ite (.symb 43) (.symi .u8 66) (.symi .u8 35)) (.n (.n (.n (.n (.e) 734635489 65 (.ite (.symb 45) (.symi .u8 51) (.symi .u8 34)) (.e)) 748433421 86 (.ite (.symb 43) (.symb 73) (.bool false)) (.n (.e) 845374352 58 (.bin .and (.symi .u8 19) (.int .u8 2)) (.e))) 860897262 69 (.ite (.symb 45) (.symi .u8 55) (.symi .u8 38)) (.n (.n (.e) 868888946 76 (.ite (.symb 43) (.symi .u8 63) (.symi .u8 32)) (.e)) 874780832 42 (.ite (.symb 39) (.int .u8 0) (.symi .u8 41)) (.n (.e) 882535830 39 (.bin .eql (.symi .i64 30) (.int .i64 0)) (.e)))) 882535858 43 (.bin .gtr (.symi .i64 30) (.int .i64 0)) (.n (.n (.n (.e) 895398344 56 (.fnb 138 bpL7) (.e)) 908374616 62 (.ite (.symb 45) (.symi .u8 48) (.symi .u8 31)) (.n (.e) 946474802 40 (.bin .geq (.symi .u8 20) (.int .u8 4)) (.e))) 995150719 80 (.ite (.symb 43) (.symi .u8 67) (.symi .u8 36)) (.n (.n (.e) 1020847597 44 (.bin .add (.symi .u8 42) (.int .u8 1)) (.e)) 1034636389 66 (.ite (.symb 45) (.symi .u8 52) (.symi .u8 35)) (.n (.e) 1064001387 41 (.ite (.symb 40) (.int .u8 0) (.symi .u8 20)) (.e))))))

def utickX : Ing := { m := 21, ins := (cellsOf utickI).map kindC, G := utickG, T := utickT, hook := tblHook (tabOf upFs) upTbl, tab := tabOf upFs }
def utickA : List AVal := [.symi .i64 21, .symi .u8 22, .symi .u8 23, .symi .u8 24, .symi .u8 25, .symi .u8 26, .symi .u8 27, .symi .u8 28, .symi .u8 29, .symi .i64 74, .symi .u8 75, .symi .u8 76, .symi .u8 77, .symi .u8 78, .symi .u8 79, .symi .u8 80, .symi .u8 81, .symi .u8 82, .symb 18, .symi .u8 19, .symi .u8 83, .symi .u8 84, .symb 85, .symb 86]
def utickF : List Int → List Int := dagF utickX.tab 21 utickG utickA
theorem utick_ok : okG utickG 21 = true := by kernel_rfl
theorem utick_lt : okLT 21 utickG utickT = true := by kernel_rfl
theorem utick_run : okW (fun F => (evD Try.prog (cxOf utickX) true 1000 40).1 F 23 (symSh utickI 0) ⟨[], []⟩) (.run (.leaf (.tuple [.agg [.symi .i64 21, .symi .u8 22, .symi .u8 23, .symi .u8 24, .symi .u8 25, .symi .u8 26, .symi .u8 27, .symi .u8 28, .symi .u8 29, .symi .i64 74, .symi .u8 75, .symi .u8 76, .symi .u8 77, .symi .u8 78, .symi .u8 79, .symi .u8 80, .symi .u8 81, .symi .u8 82, .symb 18, .symi .u8 19, .symi .u8 83], .symi .u8 84, .symb 85, .symb 86]))) [] = true := by kernel_rfl
theorem utick_contract : FnOk Try.prog 23 utickI utickO utickF :=
  dag_contract (X := utickX) (cs := utickA) (cs1 := utickA) 12 fc.mixed ⟨rfl, rfl, rfl, rfl, rfl⟩ utick_ok utick_lt (fun F => tbl_hooks utick_lt rfl rfl up_all F) utick_run (by kernel_rfl) (by kernel_rfl) (fun σ _ _ _ => rfl)

def gpinsI : List Sh := [g3, .one (.i .u8)]
def gpinsO : List Sh := [g3, .one .b]
set_option maxRecDepth 100000 in
def gpinsG : List SDef := [.bin .andNot (.symi .u8 3) (.symi .u8 1),
  .bin .and (.symi .u8 4) (.symi .u8 2),
  .bin .neq (.symi .u8 5) (.int .u8 0)]

set_option maxRecDepth 100000 in
def gpinsT : LT := .n (.n (.e) 16996907 5 (.bin .and (.symi .u8 4) (.symi .u8 2)) (.e)) 505011916 6 (.bin .neq (.symi .u8 5) (.int .u8 0)) (.n (.e) 646384888 4 (.bin .andNot (.symi .u8 3) (.symi .u8 1)) (.e))

def gpinsX : Ing := { m := 4, ins := (cellsOf gpinsI).map kindC, G := gpinsG, T := gpinsT }
def gpinsA : List AVal := [.symi .u8 0, .symi .u8 3, .symi .u8 2, .symb 6]
def gpinsF : List Int → List Int := dagF gpinsX.tab 4 gpinsG gpinsA
theorem gpins_ok : okG gpinsG 4 = true := by kernel_rfl
theorem gpins_lt : okLT 4 gpinsG gpinsT = true := by kernel_rfl
theorem gpins_run : okW (fun F => (evD Try.prog (cxOf gpinsX) true 1000 40).1 F 66 (symSh gpinsI 0) ⟨[], []⟩) (.run (.leaf (.tuple [.agg [.symi .u8 0, .symi .u8 3, .symi .u8 2], .symb 6]))) [] = true := by kernel_rfl
theorem gpins_contract : FnOk Try.prog 66 gpinsI gpinsO gpinsF :=
  dag_contract (X := gpinsX) (cs := gpinsA) (cs1 := gpinsA) 12 fc.mixed ⟨rfl, rfl, rfl, rfl, rfl⟩ gpins_ok gpins_lt (fun F => no_hooks rfl F) gpins_run (by kernel_rfl) (by kernel_rfl) (fun σ _ _ _ => rfl)

/-! ### The bank -/

def dvFs : Nat → List Int → List Int
  | 0 => peekF
  | 1 => ureadF
  | 2 => uwriteF
  | 3 => uarriveF
  | 4 => utickF
  | 5 => gpeekF
  | 6 => gwriteF
  | 7 => tpeekF
  | 8 => twriteF
  | 9 => ttickF
  | 13 => gpinsF
  | _ => fun _ => []
def dvTbl : List Ent := [⟨24, peekI, peekO, 0⟩, ⟨21, ureadI, ureadO, 1⟩, ⟨22, uwriteI, uwriteO, 2⟩, ⟨20, uarriveI, uarriveO, 3⟩, ⟨23, utickI, utickO, 4⟩, ⟨86, gpeekI, gpeekO, 5⟩, ⟨132, gwriteI, gwriteO, 6⟩, ⟨100, tpeekI, tpeekO, 7⟩, ⟨137, twriteI, twriteO, 8⟩, ⟨64, ttickI, ttickO, 9⟩, ⟨66, gpinsI, gpinsO, 13⟩]
theorem dv_all : ∀ e, e ∈ dvTbl → (cellsOf e.outs).length ≤ 64 ∧ FnOk Try.prog e.f e.ins e.outs (dvFs e.id) := by
  intro e he
  simp only [dvTbl, List.mem_cons, List.not_mem_nil, or_false] at he
  rcases he with rfl | rfl | rfl | rfl | rfl | rfl | rfl | rfl | rfl | rfl | rfl
  · exact ⟨by decide, upeek_contract⟩
  · exact ⟨by decide, uread_contract⟩
  · exact ⟨by decide, uwrite_contract⟩
  · exact ⟨by decide, uarrive_contract⟩
  · exact ⟨by decide, utick_contract⟩
  · exact ⟨by decide, gpeek_contract0⟩
  · exact ⟨by decide, gwrite_contract0⟩
  · exact ⟨by decide, tpeek_contract0⟩
  · exact ⟨by decide, twrite_contract0⟩
  · exact ⟨by decide, ttick_contract0⟩
  · exact ⟨by decide, gpins_contract⟩

def bwriteI : List Sh := [b32, .one (.i .i64), .one (.i .i32)]
def bwriteO : List Sh := [b32]
def bpL8 : List AVal := [.symi .u8 0, .symi .u8 1, .symi .u8 2, .symi .i64 32, .symi .i32 33]
def bpL9 : List AVal := [.symi .i64 3, .symi .u8 4, .symi .u8 5, .symi .u8 6, .symi .u8 7, .symi .u8 8, .symi .u8 9, .symi .u8 10, .symi .u8 11, .symi .i64 12, .symi .u8 13, .symi .u8 14, .symi .u8 15, .symi .u8 16, .symi .u8 17, .symi .u8 18, .symi .u8 19, .symi .u8 20, .symb 21, .symi .u8 22, .symi .u8 23, .symi .i64 32, .symi .i32 33]
def bpL10 : List AVal := [.symi .u16 24, .symi .u16 25, .symi .u16 26, .symi .i64 65, .symi .i32 33]
def bpL11 : List AVal := [.symi .u16 27, .symi .u16 28, .symi .u16 29, .symi .i64 69, .symi .i32 33]
set_option maxRecDepth 100000 in
def bwriteG : List SDef := [.bin .quo (.symi .i64 32) (.int .i64 3),
  .bin .eql (.symi .i64 34) (.int .i64 0),
  .bin .eql (.symi .i64 34) (.int .i64 1),
  .bin .eql (.symi .i64 34) (.int .i64 2),
  .bin .eql (.symi .i64 34) (.int .i64 3),
  .bin .eql (.symi .i64 34) (.int .i64 4),
  .bin .geq (.symi .i64 32) (.int .i64 0),
  .fn 384 .u8 bpL8,
  .fn 385 .u8 bpL8,
  .fn 386 .u8 bpL8,
  .fn 128 .i64 bpL9,
  .fn 129 .u8 bpL9,
  .fn 130 .u8 bpL9,
  .fn 131 .u8 bpL9,
  .fn 132 .u8 bpL9,
  .fn 133 .u8 bpL9,
  .fn 134 .u8 bpL9,
  .fn 135 .u8 bpL9,
  .fn 136 .u8 bpL9,
  .fn 137 .i64 bpL9,
  .fn 138 .u8 bpL9,
  .fn 139 .u8 bpL9,
  .fn 140 .u8 bpL9,
  .fn 141 .u8 bpL9,
  .fn 142 .u8 bpL9,
  .fn 143 .u8 bpL9,
  .fn 144 .u8 bpL9,
  .fn 145 .u8 bpL9,
  .fnb 146 bpL9,
  .fn 147 .u8 bpL9,
  .fn 148 .u8 bpL9,
  .bin .sub (.symi .i64 32) (.int .i64 6),
  .fn 512 .u16 bpL10,
  .fn 513 .u16 bpL10,
  .fn 514 .u16 bpL10,
  .bin .sub (.symi .i64 32) (.int .i64 9),
  .fn 512 .u16 bpL11,
  .fn 513 .u16 bpL11,
  .fn 514 .u16 bpL11,
  .conv .u8 (.symi .i32 33),
  .bin .eql (.symi .i64 32) (.int .i64 12),
  .bin .eql (.symi .i64 32) (.int .i64 13),
  .bin .or (.symi .u8 31) (.symi .u8 73),
  .bin .eql (.symi .i64 32) (.int .i64 14),
  .bin .andNot (.symi .u8 31) (.symi .u8 73),
  .ite (.symb 77) (.symi .u8 78) (.symi .u8 31),
  .ite (.symb 75) (.symi .u8 76) (.symi .u8 79),
  .ite (.symb 74) (.symi .u8 73) (.symi .u8 30),
  .ite (.symb 74) (.symi .u8 31) (.symi .u8 80),
  .ite (.symb 40) (.symi .u8 41) (.symi .u8 0),
  .ite (.symb 40) (.symi .u8 42) (.symi .u8 1),
  .ite (.symb 40) (.symi .u8 43) (.symi .u8 2),
  .ite (.symb 40) (.symi .i64 44) (.symi .i64 3),
  .ite (.symb 40) (.symi .u8 45) (.symi .u8 4),
  .ite (.symb 40) (.symi .u8 46) (.symi .u8 5),
  .ite (.symb 40) (.symi .u8 47) (.symi .u8 6),
  .ite (.symb 40) (.symi .u8 48) (.symi .u8 7),
  .ite (.symb 40) (.symi .u8 49) (.symi .u8 8),
  .ite (.symb 40) (.symi .u8 50) (.symi .u8 9),
  .ite (.symb 40) (.symi .u8 51) (.symi .u8 10),
  .ite (.symb 40) (.symi .u8 52) (.symi .u8 11),
  .ite (.symb 40) (.symi .i64 53) (.symi .i64 12),
  .ite (.symb 40) (.symi .u8 54) (.symi .u8 13),
  .ite (.symb 40) (.symi .u8 55) (.symi .u8 14),
  .ite (.symb 40) (.symi .u8 56) (.symi .u8 15),
  .ite (.symb 40) (.symi .u8 57) (.symi .u8 16),
  .ite (.symb 40) (.symi .u8 58) (.symi .u8 17),
  .ite (.symb 40) (.symi .u8 59) (.symi .u8 18),
  .ite (.symb 40) (.symi .u8 60) (.symi .u8 19),
  .ite (.symb 40) (.symi .u8 61) (.symi .u8 20),
  .ite (.symb 40) (.symb 62) (.symb 21),
  .ite (.symb 40) (.symi .u8 63) (.symi .u8 22),
  .ite (.symb 40) (.symi .u8 64) (.symi .u8 23),
  .ite (.symb 40) (.symi .u16 66) (.symi .u16 24),
  .ite (.symb 40) (.symi .u16 67) (.symi .u16 25),
  .ite (.symb 40) (.symi .u16 68) (.symi .u16 26),
  .ite (.symb 40) (.symi .u16 70) (.symi .u16 27),
  .ite (.symb 40) (.symi .u16 71) (.symi .u16 28),
  .ite (.symb 40) (.symi .u16 72) (.symi .u16 29),
  .ite (.symb 40) (.symi .u8 81) (.symi .u8 30),
  .ite (.symb 40) (.symi .u8 82) (.symi .u8 31),
  .ite (.symb 39) (.symi .u8 113) (.symi .u8 30),
  .ite (.symb 39) (.symi .u8 114) (.symi .u8 31),
  .ite (.symb 38) (.symi .u16 110) (.symi .u16 27),
  .ite (.symb 38) (.symi .u16 111) (.symi .u16 28),
  .ite (.symb 38) (.symi .u16 112) (.symi .u16 29),
  .ite (.symb 38) (.symi .u8 30) (.symi .u8 115),
  .ite (.symb 38) (.symi .u8 31) (.symi .u8 116),
  .ite (.symb 37) (.symi .u16 107) (.symi .u16 24),
  .ite (.symb 37) (.symi .u16 108) (.symi .u16 25),
  .ite (.symb 37) (.symi .u16 109) (.symi .u16 26),
  .ite (.symb 37) (.symi .u16 27) (.symi .u16 117),
  .ite (.symb 37) (.symi .u16 28) (.symi .u16 118),
  .ite (.symb 37) (.symi .u16 29) (.symi .u16 119),
  .ite (.symb 37) (.symi .u8 30) (.symi .u8 120),
  .ite (.symb 37) (.symi .u8 31) (.symi .u8 121),
  .ite (.symb 36) (.symi .i64 86) (.symi .i64 3),
  .ite (.symb 36) (.symi .u8 87) (.symi .u8 4),
  .ite (.symb 36) (.symi .u8 88) (.symi .u8 5),
  .ite (.symb 36) (.symi .u8 89) (.symi .u8 6),
  .ite (.symb 36) (.symi .u8 90) (.symi .u8 7),
  .ite (.symb 36) (.symi .u8 91) (.symi .u8 8),
  .ite (.symb 36) (.symi .u8 92) (.symi .u8 9),
  .ite (.symb 36) (.symi .u8 93) (.symi .u8 10),
  .ite (.symb 36) (.symi .u8 94) (.symi .u8 11),
  .ite (.symb 36) (.symi .i64 95) (.symi .i64 12),
  .ite (.symb 36) (.symi .u8 96) (.symi .u8 13),
  .ite (.symb 36) (.symi .u8 97) (.symi .u8 14),
  .ite (.symb 36) (.symi .u8 98) (.symi .u8 15),
  .ite (.symb 36) (.symi .u8 99) (.symi .u8 16),
  .ite (.symb 36) (.symi .u8 100) (.symi .u8 17),
  .ite (.symb 36) (.symi .u8 101) (.symi .u8 18),
  .ite (.symb 36) (.symi .u8 102) (.symi .u8 19),
  .ite (.symb 36) (.symi .u8 103) (.symi .u8 20),
  .ite (.symb 36) (.symb 104) (.symb 21),
  .ite (.symb 36) (.symi .u8 105) (.symi .u8 22),
  .ite (.symb 36) (.symi .u8 106) (.symi .u8 23),
  .ite (.symb 36) (.symi .u16 24) (.symi .u16 122),
  .ite (.symb 36) (.symi .u16 25) (.symi .u16 123),
  .ite (.symb 36) (.symi .u16 26) (.symi .u16 124),
  .ite (.symb 36) (.symi .u16 27) (.symi .u16 125),
  .ite (.symb 36) (.symi .u16 28) (.symi .u16 126),
  .ite (.symb 36) (.symi .u16 29) (.symi .u16 127),
  .ite (.symb 36) (.symi .u8 30) (.symi .u8 128),
  .ite (.symb 36) (.symi .u8 31) (.symi .u8 129),
  .ite (.symb 35) (.symi .u8 83) (.symi .u8 0),
  .ite (.symb 35) (.symi .u8 84) (.symi .u8 1),
  .ite (.symb 35) (.symi .u8 85) (.symi .u8 2),
  .ite (.symb 35) (.symi .i64 3) (.symi .i64 130),
  .ite (.symb 35) (.symi .u8 4) (.symi .u8 131),
  .ite (.symb 35) (.symi .u8 5) (.symi .u8 132),
  .ite (.symb 35) (.symi .u8 6) (.symi .u8 133),
  .ite (.symb 35) (.symi .u8 7) (.symi .u8 134),
  .ite (.symb 35) (.symi .u8 8) (.symi .u8 135),
  .ite (.symb 35) (.symi .u8 9) (.symi .u8 136),
  .ite (.symb 35) (.symi .u8 10) (.symi .u8 137),
  .ite (.symb 35) (.symi .u8 11) (.symi .u8 138),
  .ite (.symb 35) (.symi .i64 12) (.symi .i64 139),
  .ite (.symb 35) (.symi .u8 13) (.symi .u8 140),
  .ite (.symb 35) (.symi .u8 14) (.symi .u8 141),
  .ite (.symb 35) (.symi .u8 15) (.symi .u8 142),
  .ite (.symb 35) (.symi .u8 16) (.symi .u8 143),
  .ite (.symb 35) (.symi .u8 17) (.symi .u8 144),
  .ite (.symb 35) (.symi .u8 18) (.symi .u8 145),
  .ite (.symb 35) (.symi .u8 19) (.symi .u8 146),
  .ite (.symb 35) (.symi .u8 20) (.symi .u8 147),
  .ite (.symb 35) (.symb 21) (.symb 148),
  .ite (.symb 35) (.symi .u8 22) (.symi .u8 149),
  .ite (.symb 35) (.symi .u8 23) (.symi .u8 150),
  .ite (.symb 35) (.symi .u16 24) (.symi .u16 151),
  .ite (.symb 35) (.symi .u16 25) (.symi .u16 152),
  .ite (.symb 35) (.symi .u16 26) (.symi .u16 153),
  .ite (.symb 35) (.symi .u16 27) (.symi .u16 154),
  .ite (.symb 35) (.symi .u16 28) (.symi .u16 155),
  .ite (.symb 35) (.symi .u16 29) (.symi .u16 156),
  .ite (.symb 35) (.symi .u8 30) (.symi .u8 157),
  .ite (.symb 35) (.symi .u8 31) (.symi .u8 158)]

set_option maxRecDepth 100000 in
def bwriteT : LT := .n (.n (.n (.n (.n (.n (.n (.n (.e) 10794644 40 (.bin .geq (.symi .i64 32) (.int .i64 0)) (.e)) 10944658 34 (.bin .quo (.symi .i64 32) (.int .i64 3)) (.e)) 11094749 65 (.bin .sub (.symi .i64 32) (.int .i64 6)) (.n (.e) 11244854 69 (.bin .sub (.symi .i64 32) (.int .i64 9)) (.e))) 11395029 74 (.bin .eql (.symi .i64 32) (.int .i64 12)) (.n (.n (.n (.e) 11445064 75 (.bin .eql (.symi .i64 32) (.int .i64 13)) (.e)) 11495099 77 (.bin .eql (.symi .i64 32) (.int .i64 14)) (.e)) 14168333 122 (.ite (.symb 37) (.symi .u16 107) (.symi .u16 24)) (.n (.e) 15612482 105 (.ite (.symb 40) (.symi .u8 63) (.symi .u8 22)) (.e)))) 17595808 130 (.ite (.symb 36) (.symi .i64 86) (.symi .i64 3)) (.n (.n (.n (.n (.e) 24944208 172 (.ite (.symb 35) (.symi .u8 13) (.symi .u8 140)) (.e)) 49464083 148 (.ite (.symb 36) (.symb 104) (.symb 21)) (.e)) 52330348 159 (.ite (.symb 35) (.symi .u8 83) (.symi .u8 0)) (.n (.e) 56251273 190 (.ite (.symb 35) (.symi .u8 31) (.symi .u8 158)) (.e))) 63089836 98 (.ite (.symb 40) (.symi .u8 56) (.symi .u8 15)) (.n (.n (.n (.e) 72421562 165 (.ite (.symb 35) (.symi .u8 6) (.symi .u8 133)) (.e)) 96380227 141 (.ite (.symb 36) (.symi .u8 97) (.symi .u8 14)) (.e)) 103728627 183 (.ite (.symb 35) (.symi .u16 24) (.symi .u16 151)) (.n (.e) 110567190 91 (.ite (.symb 40) (.symi .u8 49) (.symi .u8 8)) (.e))))) 111210031 158 (.ite (.symb 36) (.symi .u8 31) (.symi .u8 129)) (.n (.n (.n (.n (.n (.e) 115952821 129 (.ite (.symb 37) (.symi .u8 31) (.symi .u8 121)) (.e)) 141845794 82 (.ite (.symb 74) (.symi .u8 31) (.symi .u8 80)) (.e)) 143857581 134 (.ite (.symb 36) (.symi .u8 90) (.symi .u8 7)) (.n (.e) 151205981 176 (.ite (.symb 35) (.symi .u8 17) (.symi .u8 144)) (.e))) 158044544 84 (.ite (.symb 40) (.symi .u8 42) (.symi .u8 1)) (.n (.n (.n (.e) 158687385 151 (.ite (.symb 36) (.symi .u16 24) (.symi .u16 122)) (.e)) 162858367 79 (.ite (.symb 77) (.symi .u8 78) (.symi .u8 31)) (.e)) 177785048 73 (.conv .u8 (.symi .i32 33)) (.n (.e) 189351609 102 (.ite (.symb 40) (.symi .u8 60) (.symi .u8 19)) (.e)))) 198683335 169 (.ite (.symb 35) (.symi .u8 10) (.symi .u8 137)) (.n (.n (.n (.n (.e) 212795215 35 (.bin .eql (.symi .i64 34) (.int .i64 0)) (.e)) 212845250 36 (.bin .eql (.symi .i64 34) (.int .i64 1)) (.e)) 212895285 37 (.bin .eql (.symi .i64 34) (.int .i64 2)) (.n (.e) 212945320 38 (.bin .eql (.symi .i64 34) (.int .i64 3)) (.e))) 212995355 39 (.bin .eql (.symi .i64 34) (.int .i64 4)) (.n (.n (.n (.e) 213823068 70 (.fn 512 .u16 bpL11) (.e)) 213823111 71 (.fn 513 .u16 bpL11) (.e)) 213823154 72 (.fn 514 .u16 bpL11) (.n (.e) 222642000 145 (.ite (.symb 36) (.symi .u8 101) (.symi .u8 18)) (.e)))))) 229990400 187 (.ite (.symb 35) (.symi .u16 28) (.symi .u16 155)) (.n (.n (.n (.n (.n (.n (.e) 236828963 95 (.ite (.symb 40) (.symi .i64 53) (.symi .i64 12)) (.e)) 244700153 116 (.ite (.symb 39) (.symi .u8 114) (.symi .u8 31)) (.e)) 246160689 162 (.ite (.symb 35) (.symi .i64 3) (.symi .i64 130)) (.n (.e) 266136022 112 (.ite (.symb 40) (.symi .u16 72) (.symi .u16 29)) (.e))) 270119354 138 (.ite (.symb 36) (.symi .u8 94) (.symi .u8 11)) (.n (.n (.n (.e) 273696070 120 (.ite (.symb 38) (.symi .u8 30) (.symi .u8 115)) (.e)) 278233264 180 (.ite (.symb 35) (.symb 21) (.symb 148)) (.e)) 278563458 76 (.bin .or (.symi .u8 31) (.symi .u8 73)) (.n (.e) 278563486 78 (.bin .andNot (.symi .u8 31) (.symi .u8 73)) (.e)))) 279434693 118 (.ite (.symb 38) (.symi .u16 111) (.symi .u16 28)) (.n (.n (.n (.n (.e) 284306317 88 (.ite (.symb 40) (.symi .u8 46) (.symi .u8 5)) (.e)) 284949158 155 (.ite (.symb 36) (.symi .u16 28) (.symi .u16 126)) (.e)) 289691948 126 (.ite (.symb 37) (.symi .u16 28) (.symi .u16 118)) (.n (.e) 290874702 109 (.ite (.symb 40) (.symi .u16 68) (.symi .u16 26)) (.e))) 314169233 123 (.ite (.symb 37) (.symi .u16 108) (.symi .u16 25)) (.n (.n (.n (.e) 315613382 106 (.ite (.symb 40) (.symi .u8 64) (.symi .u8 23)) (.e)) 317596708 131 (.ite (.symb 36) (.symi .u8 87) (.symi .u8 4)) (.e)) 324945108 173 (.ite (.symb 35) (.symi .u8 14) (.symi .u8 141)) (.n (.e) 333526823 66 (.fn 512 .u16 bpL10) (.e))))) 333526866 67 (.fn 513 .u16 bpL10) (.n (.n (.n (.n (.n (.e) 333526909 68 (.fn 514 .u16 bpL10) (.e)) 348903773 149 (.ite (.symb 36) (.symi .u8 105) (.symi .u8 22)) (.e)) 352331248 160 (.ite (.symb 35) (.symi .u8 84) (.symi .u8 1)) (.n (.e) 363090736 99 (.ite (.symb 40) (.symi .u8 57) (.symi .u8 16)) (.e))) 372422462 166 (.ite (.symb 35) (.symi .u8 7) (.symi .u8 134)) (.n (.n (.n (.e) 392419081 80 (.ite (.symb 75) (.symi .u8 76) (.symi .u8 79)) (.e)) 396381127 142 (.ite (.symb 36) (.symi .u8 98) (.symi .u8 15)) (.e)) 403729527 184 (.ite (.symb 35) (.symi .u16 25) (.symi .u16 152)) (.n (.e) 410568090 92 (.ite (.symb 40) (.symi .u8 50) (.symi .u8 9)) (.e)))) 443858481 135 (.ite (.symb 36) (.symi .u8 91) (.symi .u8 8)) (.n (.n (.n (.n (.e) 451206881 177 (.ite (.symb 35) (.symi .u8 18) (.symi .u8 145)) (.e)) 458045444 85 (.ite (.symb 40) (.symi .u8 43) (.symi .u8 2)) (.e)) 458688285 152 (.ite (.symb 36) (.symi .u16 25) (.symi .u16 123)) (.n (.e) 489352509 103 (.ite (.symb 40) (.symi .u8 61) (.symi .u8 20)) (.e))) 498684235 170 (.ite (.symb 35) (.symi .u8 11) (.symi .u8 138)) (.n (.n (.e) 522642900 146 (.ite (.symb 36) (.symi .u8 102) (.symi .u8 19)) (.e)) 529991300 188 (.ite (.symb 35) (.symi .u16 29) (.symi .u16 156)) (.n (.e) 536829863 96 (.ite (.symb 40) (.symi .u8 54) (.symi .u8 13)) (.e))))))) 546161589 163 (.ite (.symb 35) (.symi .u8 4) (.symi .u8 131)) (.n (.n (.n (.n (.n (.n (.n (.e) 570120254 139 (.ite (.symb 36) (.symi .i64 95) (.symi .i64 12)) (.e)) 573696970 121 (.ite (.symb 38) (.symi .u8 31) (.symi .u8 116)) (.e)) 577468654 181 (.ite (.symb 35) (.symi .u8 22) (.symi .u8 149)) (.n (.e) 579435593 119 (.ite (.symb 38) (.symi .u16 112) (.symi .u16 29)) (.e))) 584307217 89 (.ite (.symb 40) (.symi .u8 47) (.symi .u8 6)) (.n (.n (.n (.e) 584950058 156 (.ite (.symb 36) (.symi .u16 29) (.symi .u16 127)) (.e)) 589692848 127 (.ite (.symb 37) (.symi .u16 29) (.symi .u16 119)) (.e)) 604557322 44 (.fn 128 .i64 bpL9) (.n (.e) 604557365 45 (.fn 129 .u8 bpL9) (.e)))) 604557408 46 (.fn 130 .u8 bpL9) (.n (.n (.n (.n (.e) 604557451 47 (.fn 131 .u8 bpL9) (.e)) 604557494 48 (.fn 132 .u8 bpL9) (.e)) 604557537 49 (.fn 133 .u8 bpL9) (.n (.e) 604557580 50 (.fn 134 .u8 bpL9) (.e))) 604557623 51 (.fn 135 .u8 bpL9) (.n (.n (.n (.e) 604557666 52 (.fn 136 .u8 bpL9) (.e)) 604557709 53 (.fn 137 .i64 bpL9) (.e)) 604557752 54 (.fn 138 .u8 bpL9) (.n (.e) 604557795 55 (.fn 139 .u8 bpL9) (.e))))) 604557838 56 (.fn 140 .u8 bpL9) (.n (.n (.n (.n (.n (.e) 604557881 57 (.fn 141 .u8 bpL9) (.e)) 604557924 58 (.fn 142 .u8 bpL9) (.e)) 604557967 59 (.fn 143 .u8 bpL9) (.n (.e) 604558010 60 (.fn 144 .u8 bpL9) (.e))) 604558053 61 (.fn 145 .u8 bpL9) (.n (.n (.n (.e) 604558139 63 (.fn 147 .u8 bpL9) (.e)) 604558182 64 (.fn 148 .u8 bpL9) (.e)) 614170133 124 (.ite (.symb 37) (.symi .u16 109) (.symi .u16 26)) (.n (.e) 617597608 132 (.ite (.symb 36) (.symi .u8 88) (.symi .u8 5)) (.e)))) 624946008 174 (.ite (.symb 35) (.symi .u8 15) (.symi .u8 142)) (.n (.n (.n (.n (.e) 636242814 41 (.fn 384 .u8 bpL8) (.e)) 636242857 42 (.fn 385 .u8 bpL8) (.e)) 636242900 43 (.fn 386 .u8 bpL8) (.n (.e) 648904673 150 (.ite (.symb 36) (.symi .u8 106) (.symi .u8 23)) (.e))) 652332148 161 (.ite (.symb 35) (.symi .u8 85) (.symi .u8 2)) (.n (.n (.n (.e) 663091636 100 (.ite (.symb 40) (.symi .u8 58) (.symi .u8 17)) (.e)) 672423362 167 (.ite (.symb 35) (.symi .u8 8) (.symi .u8 135)) (.e)) 684398671 113 (.ite (.symb 40) (.symi .u8 81) (.symi .u8 30)) (.n (.e) 696382027 143 (.ite (.symb 36) (.symi .u8 99) (.symi .u8 16)) (.e)))))) 703730427 185 (.ite (.symb 35) (.symi .u16 26) (.symi .u16 153)) (.n (.n (.n (.n (.n (.n (.e) 710568990 93 (.ite (.symb 40) (.symi .u8 51) (.symi .u8 10)) (.e)) 739876049 110 (.ite (.symb 40) (.symi .u16 70) (.symi .u16 27)) (.e)) 743859381 136 (.ite (.symb 36) (.symi .u8 92) (.symi .u8 9)) (.n (.e) 751207781 178 (.ite (.symb 35) (.symi .u8 19) (.symi .u8 146)) (.e))) 758046344 86 (.ite (.symb 40) (.symi .i64 44) (.symi .i64 3)) (.n (.n (.n (.e) 758689185 153 (.ite (.symb 36) (.symi .u16 26) (.symi .u16 124)) (.e)) 764614729 107 (.ite (.symb 40) (.symi .u16 66) (.symi .u16 24)) (.e)) 789726879 104 (.ite (.symb 40) (.symb 62) (.symb 21)) (.n (.e) 798685135 171 (.ite (.symb 35) (.symi .i64 12) (.symi .i64 139)) (.e)))) 822643800 147 (.ite (.symb 36) (.symi .u8 103) (.symi .u8 20)) (.n (.n (.n (.n (.e) 828965022 62 (.fnb 146 bpL9) (.e)) 829992200 189 (.ite (.symb 35) (.symi .u8 30) (.symi .u8 157)) (.e)) 836830763 97 (.ite (.symb 40) (.symi .u8 55) (.symi .u8 14)) (.n (.e) 846162489 164 (.ite (.symb 35) (.symi .u8 5) (.symi .u8 132)) (.e))) 870121154 140 (.ite (.symb 36) (.symi .u8 96) (.symi .u8 13)) (.n (.n (.n (.e) 877469554 182 (.ite (.symb 35) (.symi .u8 23) (.symi .u8 150)) (.e)) 884308117 90 (.ite (.symb 40) (.symi .u8 48) (.symi .u8 7)) (.e)) 884950958 157 (.ite (.symb 36) (.symi .u8 30) (.symi .u8 128)) (.n (.e) 889693748 128 (.ite (.symb 37) (.symi .u8 30) (.symi .u8 120)) (.e))))) 917598508 133 (.ite (.symb 36) (.symi .u8 89) (.symi .u8 6)) (.n (.n (.n (.n (.n (.e) 924946908 175 (.ite (.symb 35) (.symi .u8 16) (.symi .u8 143)) (.e)) 931785471 83 (.ite (.symb 40) (.symi .u8 41) (.symi .u8 0)) (.e)) 963092536 101 (.ite (.symb 40) (.symi .u8 59) (.symi .u8 18)) (.n (.e) 972424262 168 (.ite (.symb 35) (.symi .u8 9) (.symi .u8 136)) (.e))) 984399571 114 (.ite (.symb 40) (.symi .u8 82) (.symi .u8 31)) (.n (.n (.n (.e) 996382927 144 (.ite (.symb 36) (.symi .u8 100) (.symi .u8 17)) (.e)) 997325572 81 (.ite (.symb 74) (.symi .u8 73) (.symi .u8 30)) (.e)) 1003731327 186 (.ite (.symb 35) (.symi .u16 27) (.symi .u16 154)) (.n (.e) 1010569890 94 (.ite (.symb 40) (.symi .u8 52) (.symi .u8 11)) (.e)))) 1018441080 115 (.ite (.symb 39) (.symi .u8 113) (.symi .u8 30)) (.n (.n (.n (.n (.e) 1039876949 111 (.ite (.symb 40) (.symi .u16 71) (.symi .u16 28)) (.e)) 1043860281 137 (.ite (.symb 36) (.symi .u8 93) (.symi .u8 10)) (.e)) 1051208681 179 (.ite (.symb 35) (.symi .u8 20) (.symi .u8 147)) (.n (.e) 1053175620 117 (.ite (.symb 38) (.symi .u16 110) (.symi .u16 27)) (.e))) 1058047244 87 (.ite (.symb 40) (.symi .u8 45) (.symi .u8 4)) (.n (.n (.e) 1058690085 154 (.ite (.symb 36) (.symi .u16 27) (.symi .u16 125)) (.e)) 1063432875 125 (.ite (.symb 37) (.symi .u16 27) (.symi .u16 117)) (.n (.e) 1064615629 108 (.ite (.symb 40) (.symi .u16 67) (.symi .u16 25)) (.e)))))))

def bwriteX : Ing := { m := 34, ins := (cellsOf bwriteI).map kindC, G := bwriteG, T := bwriteT, hook := tblHook (tabOf dvFs) dvTbl, tab := tabOf dvFs }
def bpL12 : List AVal := [.symi .u8 159, .symi .u8 160, .symi .u8 161, .symi .i64 162, .symi .u8 163, .symi .u8 164, .symi .u8 165, .symi .u8 166, .symi .u8 167, .symi .u8 168, .symi .u8 169, .symi .u8 170, .symi .i64 171, .symi .u8 172, .symi .u8 173, .symi .u8 174, .symi .u8 175, .symi .u8 176, .symi .u8 177, .symi .u8 178, .symi .u8 179, .symb 180, .symi .u8 181, .symi .u8 182, .symi .u16 183, .symi .u16 184, .symi .u16 185, .symi .u16 186, .symi .u16 187, .symi .u16 188, .symi .u8 189, .symi .u8 190]
def bwriteA : List AVal := bpL12
def bwriteF : List Int → List Int := dagF bwriteX.tab 34 bwriteG bwriteA
theorem bwrite_ok : okG bwriteG 34 = true := by kernel_rfl
theorem bwrite_lt : okLT 34 bwriteG bwriteT = true := by kernel_rfl
theorem bwrite_run : okW (fun F => (evD Try.prog (cxOf bwriteX) true 1000 40).1 F 32 (symSh bwriteI 0) ⟨[], []⟩) (.run (.leaf (.agg bpL12))) [] = true := by kernel_rfl
theorem bwrite_contract : FnOk Try.prog 32 bwriteI bwriteO bwriteF :=
  dag_contract (X := bwriteX) (cs := bwriteA) (cs1 := bwriteA) 12 fc.mixed ⟨rfl, rfl, rfl, rfl, rfl⟩ bwrite_ok bwrite_lt (fun F => tbl_hooks bwrite_lt rfl rfl dv_all F) bwrite_run (by kernel_rfl) (by kernel_rfl) (fun σ _ _ _ => rfl)
def bwriteM : Mac := ⟨32, bwriteI, bwriteO, 34, bwriteG, bwriteA⟩
theorem bwrite_mac : MacOk Try.prog (tabOf dvFs) bwriteM := ⟨bwrite_contract, bwrite_ok, rfl, by kernel_rfl⟩

def breadI : List Sh := [b32, .one (.i .i64)]
def breadO : List Sh := [.one (.i .i32), b32]
def bpL13 : List AVal := [.symi .i64 3, .symi .u8 4, .symi .u8 5, .symi .u8 6, .symi .u8 7, .symi .u8 8, .symi .u8 9, .symi .u8 10, .symi .u8 11, .symi .i64 12, .symi .u8 13, .symi .u8 14, .symi .u8 15, .symi .u8 16, .symi .u8 17, .symi .u8 18, .symi .u8 19, .symi .u8 20, .symb 21, .symi .u8 22, .symi .u8 23, .symi .i64 32]
set_option maxRecDepth 100000 in
def breadG : List SDef := [.bin .quo (.symi .i64 32) (.int .i64 3),
  .bin .eql (.symi .i64 33) (.int .i64 0),
  .bin .eql (.symi .i64 33) (.int .i64 1),
  .bin .eql (.symi .i64 33) (.int .i64 2),
  .bin .eql (.symi .i64 33) (.int .i64 3),
  .bin .eql (.symi .i64 33) (.int .i64 4),
  .bin .geq (.symi .i64 32) (.int .i64 0),
  .un .not (.symb 39),
  .fn 320 .i32 [.symi .u8 0, .symi .u8 1, .symi .u8 2, .symi .i64 32],
  .fn 64 .i32 bpL13,
  .fn 65 .i64 bpL13,
  .fn 66 .u8 bpL13,
  .fn 67 .u8 bpL13,
  .fn 68 .u8 bpL13,
  .fn 69 .u8 bpL13,
  .fn 70 .u8 bpL13,
  .fn 71 .u8 bpL13,
  .fn 72 .u8 bpL13,
  .fn 73 .u8 bpL13,
  .fn 74 .i64 bpL13,
  .fn 75 .u8 bpL13,
  .fn 76 .u8 bpL13,
  .fn 77 .u8 bpL13,
  .fn 78 .u8 bpL13,
  .fn 79 .u8 bpL13,
  .fn 80 .u8 bpL13,
  .fn 81 .u8 bpL13,
  .fn 82 .u8 bpL13,
  .fnb 83 bpL13,
  .fn 84 .u8 bpL13,
  .fn 85 .u8 bpL13,
  .bin .sub (.symi .i64 32) (.int .i64 6),
  .fn 448 .i32 [.symi .u16 24, .symi .u16 25, .symi .u16 26, .symi .i64 64],
  .bin .sub (.symi .i64 32) (.int .i64 9),
  .fn 448 .i32 [.symi .u16 27, .symi .u16 28, .symi .u16 29, .symi .i64 66],
  .bin .eql (.symi .i64 32) (.int .i64 12),
  .conv .i32 (.symi .u8 30),
  .bin .eql (.symi .i64 32) (.int .i64 13),
  .conv .i32 (.symi .u8 31),
  .ite (.symb 70) (.symi .i32 71) (.int .i32 0),
  .ite (.symb 68) (.symi .i32 69) (.symi .i32 72),
  .ite (.symb 40) (.int .i32 0) (.symi .i32 41),
  .ite (.symb 40) (.int .i32 0) (.symi .i32 42),
  .ite (.symb 40) (.symi .i64 3) (.symi .i64 43),
  .ite (.symb 40) (.symi .u8 4) (.symi .u8 44),
  .ite (.symb 40) (.symi .u8 5) (.symi .u8 45),
  .ite (.symb 40) (.symi .u8 6) (.symi .u8 46),
  .ite (.symb 40) (.symi .u8 7) (.symi .u8 47),
  .ite (.symb 40) (.symi .u8 8) (.symi .u8 48),
  .ite (.symb 40) (.symi .u8 9) (.symi .u8 49),
  .ite (.symb 40) (.symi .u8 10) (.symi .u8 50),
  .ite (.symb 40) (.symi .u8 11) (.symi .u8 51),
  .ite (.symb 40) (.symi .i64 12) (.symi .i64 52),
  .ite (.symb 40) (.symi .u8 13) (.symi .u8 53),
  .ite (.symb 40) (.symi .u8 14) (.symi .u8 54),
  .ite (.symb 40) (.symi .u8 15) (.symi .u8 55),
  .ite (.symb 40) (.symi .u8 16) (.symi .u8 56),
  .ite (.symb 40) (.symi .u8 17) (.symi .u8 57),
  .ite (.symb 40) (.symi .u8 18) (.symi .u8 58),
  .ite (.symb 40) (.symi .u8 19) (.symi .u8 59),
  .ite (.symb 40) (.symi .u8 20) (.symi .u8 60),
  .ite (.symb 40) (.symb 21) (.symb 61),
  .ite (.symb 40) (.symi .u8 22) (.symi .u8 62),
  .ite (.symb 40) (.symi .u8 23) (.symi .u8 63),
  .ite (.symb 40) (.int .i32 0) (.symi .i32 65),
  .ite (.symb 40) (.int .i32 0) (.symi .i32 67),
  .ite (.symb 40) (.int .i32 0) (.symi .i32 73),
  .ite (.symb 38) (.symi .i32 99) (.int .i32 0),
  .ite (.symb 37) (.symi .i32 98) (.symi .i32 100),
  .ite (.symb 36) (.symi .i32 97) (.symi .i32 101),
  .ite (.symb 35) (.symi .i32 75) (.symi .i32 102),
  .ite (.symb 35) (.symi .i64 76) (.symi .i64 3),
  .ite (.symb 35) (.symi .u8 77) (.symi .u8 4),
  .ite (.symb 35) (.symi .u8 78) (.symi .u8 5),
  .ite (.symb 35) (.symi .u8 79) (.symi .u8 6),
  .ite (.symb 35) (.symi .u8 80) (.symi .u8 7),
  .ite (.symb 35) (.symi .u8 81) (.symi .u8 8),
  .ite (.symb 35) (.symi .u8 82) (.symi .u8 9),
  .ite (.symb 35) (.symi .u8 83) (.symi .u8 10),
  .ite (.symb 35) (.symi .u8 84) (.symi .u8 11),
  .ite (.symb 35) (.symi .i64 85) (.symi .i64 12),
  .ite (.symb 35) (.symi .u8 86) (.symi .u8 13),
  .ite (.symb 35) (.symi .u8 87) (.symi .u8 14),
  .ite (.symb 35) (.symi .u8 88) (.symi .u8 15),
  .ite (.symb 35) (.symi .u8 89) (.symi .u8 16),
  .ite (.symb 35) (.symi .u8 90) (.symi .u8 17),
  .ite (.symb 35) (.symi .u8 91) (.symi .u8 18),
  .ite (.symb 35) (.symi .u8 92) (.symi .u8 19),
  .ite (.symb 35) (.symi .u8 93) (.symi .u8 20),
  .ite (.symb 35) (.symb 94) (.symb 21),
  .ite (.symb 35) (.symi .u8 95) (.symi .u8 22),
  .ite (.symb 35) (.symi .u8 96) (.symi .u8 23),
  .ite (.symb 34) (.symi .i32 74) (.symi .i32 103),
  .ite (.symb 34) (.symi .i64 3) (.symi .i64 104),
  .ite (.symb 34) (.symi .u8 4) (.symi .u8 105),
  .ite (.symb 34) (.symi .u8 5) (.symi .u8 106),
  .ite (.symb 34) (.symi .u8 6) (.symi .u8 107),
  .ite (.symb 34) (.symi .u8 7) (.symi .u8 108),
  .ite (.symb 34) (.symi .u8 8) (.symi .u8 109),
  .ite (.symb 34) (.symi .u8 9) (.symi .u8 110),
  .ite (.symb 34) (.symi .u8 10) (.symi .u8 111),
  .ite (.symb 34) (.symi .u8 11) (.symi .u8 112),
  .ite (.symb 34) (.symi .i64 12) (.symi .i64 113),
  .ite (.symb 34) (.symi .u8 13) (.symi .u8 114),
  .ite (.symb 34) (.symi .u8 14) (.symi .u8 115),
  .ite (.symb 34) (.symi .u8 15) (.symi .u8 116),
  .ite (.symb 34) (.symi .u8 16) (.symi .u8 117),
  .ite (.symb 34) (.symi .u8 17) (.symi .u8 118),
  .ite (.symb 34) (.symi .u8 18) (.symi .u8 119),
  .ite (.symb 34) (.symi .u8 19) (.symi .u8 120),
  .ite (.symb 34) (.symi .u8 20) (.symi .u8 121),
  .ite (.symb 34) (.symb 21) (.symb 122),
  .ite (.symb 34) (.symi .u8 22) (.symi .u8 123),
  .ite (.symb 34) (.symi .u8 23) (.symi .u8 124)]

set_option maxRecDepth 100000 in
def breadT : LT := .n (.n (.n (.n (.n (.n (.n (.e) 2371605 128 (.ite (.symb 34) (.symi .u8 5) (.symi .u8 106)) (.e)) 10794644 39 (.bin .geq (.symi .i64 32) (.int .i64 0)) (.n (.e) 10944658 33 (.bin .quo (.symi .i64 32) (.int .i64 3)) (.e))) 11094749 64 (.bin .sub (.symi .i64 32) (.int .i64 6)) (.n (.n (.e) 11244854 66 (.bin .sub (.symi .i64 32) (.int .i64 9)) (.e)) 11395029 68 (.bin .eql (.symi .i64 32) (.int .i64 12)) (.n (.e) 11445064 70 (.bin .eql (.symi .i64 32) (.int .i64 13)) (.e)))) 14853024 113 (.ite (.symb 35) (.symi .i64 85) (.symi .i64 12)) (.n (.n (.n (.e) 24660064 65 (.fn 448 .i32 [.symi .u16 24, .symi .u16 25, .symi .u16 26, .symi .i64 64]) (.e)) 33678670 146 (.ite (.symb 34) (.symi .u8 23) (.symi .u8 124)) (.n (.e) 41566983 81 (.ite (.symb 40) (.symi .u8 8) (.symi .u8 48)) (.e))) 62330378 106 (.ite (.symb 35) (.symi .u8 78) (.symi .u8 5)) (.n (.n (.e) 81156024 139 (.ite (.symb 34) (.symi .u8 16) (.symi .u8 117)) (.e)) 91044045 75 (.ite (.symb 40) (.int .i32 0) (.symi .i32 42)) (.e)))) 93637443 124 (.ite (.symb 35) (.symi .u8 96) (.symi .u8 23)) (.n (.n (.n (.n (.e) 111794912 34 (.bin .eql (.symi .i64 33) (.int .i64 0)) (.e)) 111844947 35 (.bin .eql (.symi .i64 33) (.int .i64 1)) (.n (.e) 111894982 36 (.bin .eql (.symi .i64 33) (.int .i64 2)) (.e))) 111945017 37 (.bin .eql (.symi .i64 33) (.int .i64 3)) (.n (.n (.e) 111995052 38 (.bin .eql (.symi .i64 33) (.int .i64 4)) (.e)) 120351402 92 (.ite (.symb 40) (.symi .u8 19) (.symi .u8 59)) (.e))) 128633378 132 (.ite (.symb 34) (.symi .u8 9) (.symi .u8 110)) (.n (.n (.n (.e) 141114797 117 (.ite (.symb 35) (.symi .u8 89) (.symi .u8 16)) (.e)) 166724646 125 (.ite (.symb 34) (.symi .i32 74) (.symi .i32 103)) (.n (.e) 167828756 85 (.ite (.symb 40) (.symi .i64 12) (.symi .i64 52)) (.e))) 188592151 110 (.ite (.symb 35) (.symi .u8 82) (.symi .u8 9)) (.n (.n (.e) 207417797 143 (.ite (.symb 34) (.symi .u8 20) (.symi .u8 121)) (.e)) 215306110 78 (.ite (.symb 40) (.symi .u8 5) (.symi .u8 45)) (.e))))) 246613175 96 (.ite (.symb 40) (.symi .u8 23) (.symi .u8 63)) (.n (.n (.n (.n (.n (.e) 254895151 136 (.ite (.symb 34) (.symi .u8 13) (.symi .u8 114)) (.e)) 267376570 121 (.ite (.symb 35) (.symi .u8 93) (.symi .u8 20)) (.n (.e) 294090529 89 (.ite (.symb 40) (.symi .u8 16) (.symi .u8 56)) (.e))) 302372505 129 (.ite (.symb 34) (.symi .u8 6) (.symi .u8 107)) (.n (.n (.e) 303729227 103 (.ite (.symb 35) (.symi .i32 75) (.symi .i32 102)) (.e)) 314853924 114 (.ite (.symb 35) (.symi .u8 86) (.symi .u8 13)) (.n (.e) 341567883 82 (.ite (.symb 40) (.symi .u8 9) (.symi .u8 49)) (.e)))) 342828983 97 (.ite (.symb 40) (.int .i32 0) (.symi .i32 65)) (.n (.n (.n (.e) 348517714 102 (.ite (.symb 36) (.symi .i32 97) (.symi .i32 101)) (.e)) 362331278 107 (.ite (.symb 35) (.symi .u8 79) (.symi .u8 6)) (.n (.e) 381156924 140 (.ite (.symb 34) (.symi .u8 17) (.symi .u8 118)) (.e))) 381854246 42 (.fn 64 .i32 bpL13) (.n (.n (.e) 381854289 43 (.fn 65 .i64 bpL13) (.e)) 381854332 44 (.fn 66 .u8 bpL13) (.e)))) 381854375 45 (.fn 67 .u8 bpL13) (.n (.n (.n (.n (.e) 381854418 46 (.fn 68 .u8 bpL13) (.e)) 381854461 47 (.fn 69 .u8 bpL13) (.n (.e) 381854504 48 (.fn 70 .u8 bpL13) (.e))) 381854547 49 (.fn 71 .u8 bpL13) (.n (.n (.e) 381854590 50 (.fn 72 .u8 bpL13) (.e)) 381854633 51 (.fn 73 .u8 bpL13) (.e))) 381854676 52 (.fn 74 .i64 bpL13) (.n (.n (.n (.e) 381854719 53 (.fn 75 .u8 bpL13) (.e)) 381854762 54 (.fn 76 .u8 bpL13) (.n (.e) 381854805 55 (.fn 77 .u8 bpL13) (.e))) 381854848 56 (.fn 78 .u8 bpL13) (.n (.n (.e) 381854891 57 (.fn 79 .u8 bpL13) (.e)) 381854934 58 (.fn 80 .u8 bpL13) (.e)))))) 381854977 59 (.fn 81 .u8 bpL13) (.n (.n (.n (.n (.n (.n (.e) 381855020 60 (.fn 82 .u8 bpL13) (.e)) 381855106 62 (.fn 84 .u8 bpL13) (.n (.e) 381855149 63 (.fn 85 .u8 bpL13) (.e))) 420352302 93 (.ite (.symb 40) (.symi .u8 20) (.symi .u8 60)) (.n (.n (.e) 428634278 133 (.ite (.symb 34) (.symi .u8 10) (.symi .u8 111)) (.e)) 441115697 118 (.ite (.symb 35) (.symi .u8 90) (.symi .u8 17)) (.n (.e) 467829656 86 (.ite (.symb 40) (.symi .u8 13) (.symi .u8 53)) (.e)))) 476111632 126 (.ite (.symb 34) (.symi .i64 3) (.symi .i64 104)) (.n (.n (.n (.e) 477090780 99 (.ite (.symb 40) (.int .i32 0) (.symi .i32 73)) (.e)) 485522295 101 (.ite (.symb 37) (.symi .i32 98) (.symi .i32 100)) (.n (.e) 488593051 111 (.ite (.symb 35) (.symi .u8 83) (.symi .u8 10)) (.e))) 508066427 144 (.ite (.symb 34) (.symb 21) (.symb 122)) (.n (.n (.e) 515307010 79 (.ite (.symb 40) (.symi .u8 6) (.symi .u8 46)) (.e)) 536070405 104 (.ite (.symb 35) (.symi .i64 76) (.symi .i64 3)) (.e)))) 540606153 73 (.ite (.symb 68) (.symi .i32 69) (.symi .i32 72)) (.n (.n (.n (.n (.e) 554896051 137 (.ite (.symb 34) (.symi .u8 14) (.symi .u8 115)) (.e)) 567893980 122 (.ite (.symb 35) (.symb 94) (.symb 21)) (.n (.e) 594091429 90 (.ite (.symb 40) (.symi .u8 17) (.symi .u8 57)) (.e))) 602373405 130 (.ite (.symb 34) (.symi .u8 7) (.symi .u8 108)) (.n (.n (.e) 614854824 115 (.ite (.symb 35) (.symi .u8 87) (.symi .u8 14)) (.e)) 641568783 83 (.ite (.symb 40) (.symi .u8 10) (.symi .u8 50)) (.e))) 644829889 98 (.ite (.symb 40) (.int .i32 0) (.symi .i32 67)) (.n (.n (.n (.e) 662332178 108 (.ite (.symb 35) (.symi .u8 80) (.symi .u8 7)) (.e)) 681157824 141 (.ite (.symb 34) (.symi .u8 18) (.symi .u8 119)) (.n (.e) 689046137 76 (.ite (.symb 40) (.symi .i64 3) (.symi .i64 43)) (.e))) 705867305 100 (.ite (.symb 38) (.symi .i32 99) (.int .i32 0)) (.n (.n (.e) 717905232 40 (.un .not (.symb 39)) (.e)) 720724602 94 (.ite (.symb 40) (.symb 21) (.symb 61)) (.e))))) 728635178 134 (.ite (.symb 34) (.symi .u8 11) (.symi .u8 112)) (.n (.n (.n (.n (.n (.e) 741116597 119 (.ite (.symb 35) (.symi .u8 91) (.symi .u8 18)) (.e)) 742622873 67 (.fn 448 .i32 [.symi .u16 27, .symi .u16 28, .symi .u16 29, .symi .i64 66]) (.n (.e) 767830556 87 (.ite (.symb 40) (.symi .u8 14) (.symi .u8 54)) (.e))) 776112532 127 (.ite (.symb 34) (.symi .u8 4) (.symi .u8 105)) (.n (.n (.e) 788593951 112 (.ite (.symb 35) (.symi .u8 84) (.symi .u8 11)) (.e)) 807419597 145 (.ite (.symb 34) (.symi .u8 22) (.symi .u8 123)) (.e))) 815307910 80 (.ite (.symb 40) (.symi .u8 7) (.symi .u8 47)) (.n (.n (.n (.e) 836071305 105 (.ite (.symb 35) (.symi .u8 77) (.symi .u8 4)) (.e)) 854896951 138 (.ite (.symb 34) (.symi .u8 15) (.symi .u8 116)) (.n (.e) 867378370 123 (.ite (.symb 35) (.symi .u8 95) (.symi .u8 22)) (.e))) 894092329 91 (.ite (.symb 40) (.symi .u8 18) (.symi .u8 58)) (.n (.n (.e) 902374305 131 (.ite (.symb 34) (.symi .u8 8) (.symi .u8 109)) (.e)) 914855724 116 (.ite (.symb 35) (.symi .u8 88) (.symi .u8 15)) (.e)))) 940314449 61 (.fnb 83 bpL13) (.n (.n (.n (.n (.e) 941569683 84 (.ite (.symb 40) (.symi .u8 11) (.symi .u8 51)) (.e)) 942525948 69 (.conv .i32 (.symi .u8 30)) (.n (.e) 962333078 109 (.ite (.symb 35) (.symi .u8 81) (.symi .u8 8)) (.e))) 981158724 142 (.ite (.symb 34) (.symi .u8 19) (.symi .u8 120)) (.n (.n (.e) 982001573 72 (.ite (.symb 70) (.symi .i32 71) (.int .i32 0)) (.e)) 982284600 41 (.fn 320 .i32 [.symi .u8 0, .symi .u8 1, .symi .u8 2, .symi .i64 32]) (.e))) 989047037 77 (.ite (.symb 40) (.symi .u8 4) (.symi .u8 44)) (.n (.n (.n (.e) 1013785419 74 (.ite (.symb 40) (.int .i32 0) (.symi .i32 41)) (.e)) 1020354102 95 (.ite (.symb 40) (.symi .u8 22) (.symi .u8 62)) (.n (.e) 1028636078 135 (.ite (.symb 34) (.symi .i64 12) (.symi .i64 113)) (.e))) 1041117497 120 (.ite (.symb 35) (.symi .u8 92) (.symi .u8 19)) (.n (.n (.e) 1045526257 71 (.conv .i32 (.symi .u8 31)) (.e)) 1067831456 88 (.ite (.symb 40) (.symi .u8 15) (.symi .u8 55)) (.e))))))

def breadX : Ing := { m := 33, ins := (cellsOf breadI).map kindC, G := breadG, T := breadT, hook := tblHook (tabOf dvFs) dvTbl, tab := tabOf dvFs }
def breadA : List AVal := [.symi .i32 125, .symi .u8 0, .symi .u8 1, .symi .u8 2, .symi .i64 126, .symi .u8 127, .symi .u8 128, .symi .u8 129, .symi .u8 130, .symi .u8 131, .symi .u8 132, .symi .u8 133, .symi .u8 134, .symi .i64 135, .symi .u8 136, .symi .u8 137, .symi .u8 138, .symi .u8 139, .symi .u8 140, .symi .u8 141, .symi .u8 142, .symi .u8 143, .symb 144, .symi .u8 145, .symi .u8 146, .symi .u16 24, .symi .u16 25, .symi .u16 26, .symi .u16 27, .symi .u16 28, .symi .u16 29, .symi .u8 30, .symi .u8 31]
def breadF : List Int → List Int := dagF breadX.tab 33 breadG breadA
theorem bread_ok : okG breadG 33 = true := by kernel_rfl
theorem bread_lt : okLT 33 breadG breadT = true := by kernel_rfl
theorem bread_run : okW (fun F => (evD Try.prog (cxOf breadX) true 1000 40).1 F 33 (symSh breadI 0) ⟨[], []⟩) (.run (.leaf (.tuple [.symi .i32 125, .agg [.symi .u8 0, .symi .u8 1, .symi .u8 2, .symi .i64 126, .symi .u8 127, .symi .u8 128, .symi .u8 129, .symi .u8 130, .symi .u8 131, .symi .u8 132, .symi .u8 133, .symi .u8 134, .symi .i64 135, .symi .u8 136, .symi .u8 137, .symi .u8 138, .symi .u8 139, .symi .u8 140, .symi .u8 141, .symi .u8 142, .symi .u8 143, .symb 144, .symi .u8 145, .symi .u8 146, .symi .u16 24, .symi .u16 25, .symi .u16 26, .symi .u16 27, .symi .u16 28, .symi .u16 29, .symi .u8 30, .symi .u8 31]]))) [] = true := by kernel_rfl
theorem bread_contract : FnOk Try.prog 33 breadI breadO breadF :=
  dag_contract (X := breadX) (cs := breadA) (cs1 := breadA) 12 fc.mixed ⟨rfl, rfl, rfl, rfl, rfl⟩ bread_ok bread_lt (fun F => tbl_hooks bread_lt rfl rfl dv_all F) bread_run (by kernel_rfl) (by kernel_rfl) (fun σ _ _ _ => rfl)
def breadM : Mac := ⟨33, breadI, breadO, 33, breadG, breadA⟩
theorem bread_mac : MacOk Try.prog (tabOf dvFs) breadM := ⟨bread_contract, bread_ok, rfl, by kernel_rfl⟩

def bpeekI : List Sh := [b32, .one (.i .i64)]
def bpeekO : List Sh := [.one (.i .i32)]
set_option maxRecDepth 100000 in
def bpeekG : List SDef := [.bin .quo (.symi .i64 32) (.int .i64 3),
  .bin .eql (.symi .i64 33) (.int .i64 0),
  .bin .eql (.symi .i64 33) (.int .i64 1),
  .bin .eql (.symi .i64 33) (.int .i64 2),
  .bin .eql (.symi .i64 33) (.int .i64 3),
  .bin .eql (.symi .i64 33) (.int .i64 4),
  .bin .geq (.symi .i64 32) (.int .i64 0),
  .un .not (.symb 39),
  .fn 320 .i32 [.symi .u8 0, .symi .u8 1, .symi .u8 2, .symi .i64 32],
  .fn 0 .i32 bpL13,
  .bin .sub (.symi .i64 32) (.int .i64 6),
  .fn 448 .i32 [.symi .u16 24, .symi .u16 25, .symi .u16 26, .symi .i64 43],
  .bin .sub (.symi .i64 32) (.int .i64 9),
  .fn 448 .i32 [.symi .u16 27, .symi .u16 28, .symi .u16 29, .symi .i64 45],
  .bin .eql (.symi .i64 32) (.int .i64 12),
  .conv .i32 (.symi .u8 30),
  .bin .eql (.symi .i64 32) (.int .i64 13),
  .conv .i32 (.symi .u8 31),
  .ite (.symb 49) (.symi .i32 50) (.int .i32 0),
  .ite (.symb 47) (.symi .i32 48) (.symi .i32 51),
  .ite (.symb 40) (.int .i32 0) (.symi .i32 41),
  .ite (.symb 40) (.int .i32 0) (.symi .i32 42),
  .ite (.symb 40) (.int .i32 0) (.symi .i32 44),
  .ite (.symb 40) (.int .i32 0) (.symi .i32 46),
  .ite (.symb 40) (.int .i32 0) (.symi .i32 52),
  .ite (.symb 38) (.symi .i32 57) (.int .i32 0),
  .ite (.symb 37) (.symi .i32 56) (.symi .i32 58),
  .ite (.symb 36) (.symi .i32 55) (.symi .i32 59),
  .ite (.symb 35) (.symi .i32 54) (.symi .i32 60),
  .ite (.symb 34) (.symi .i32 53) (.symi .i32 61)]

set_option maxRecDepth 100000 in
def bpeekT : LT := .n (.n (.n (.n (.n (.e) 10794644 39 (.bin .geq (.symi .i64 32) (.int .i64 0)) (.e)) 10944658 33 (.bin .quo (.symi .i64 32) (.int .i64 3)) (.n (.e) 11094749 43 (.bin .sub (.symi .i64 32) (.int .i64 6)) (.e))) 11244854 45 (.bin .sub (.symi .i64 32) (.int .i64 9)) (.n (.n (.e) 11395029 47 (.bin .eql (.symi .i64 32) (.int .i64 12)) (.e)) 11445064 49 (.bin .eql (.symi .i64 32) (.int .i64 13)) (.n (.e) 91044045 54 (.ite (.symb 40) (.int .i32 0) (.symi .i32 42)) (.e)))) 111794912 34 (.bin .eql (.symi .i64 33) (.int .i64 0)) (.n (.n (.n (.e) 111844947 35 (.bin .eql (.symi .i64 33) (.int .i64 1)) (.e)) 111894982 36 (.bin .eql (.symi .i64 33) (.int .i64 2)) (.n (.e) 111945017 37 (.bin .eql (.symi .i64 33) (.int .i64 3)) (.e))) 111995052 38 (.bin .eql (.symi .i64 33) (.int .i64 4)) (.n (.n (.e) 230224370 44 (.fn 448 .i32 [.symi .u16 24, .symi .u16 25, .symi .u16 26, .symi .i64 43]) (.e)) 302604994 51 (.ite (.symb 49) (.symi .i32 50) (.int .i32 0)) (.n (.e) 359372676 62 (.ite (.symb 34) (.symi .i32 53) (.symi .i32 61)) (.e))))) 381851494 42 (.fn 0 .i32 bpL13) (.n (.n (.n (.n (.e) 393044951 55 (.ite (.symb 40) (.int .i32 0) (.symi .i32 44)) (.e)) 496377257 61 (.ite (.symb 35) (.symi .i32 54) (.symi .i32 60)) (.n (.e) 527306748 57 (.ite (.symb 40) (.int .i32 0) (.symi .i32 52)) (.e))) 633381838 60 (.ite (.symb 36) (.symi .i32 55) (.symi .i32 59)) (.n (.n (.e) 695045857 56 (.ite (.symb 40) (.int .i32 0) (.symi .i32 46)) (.e)) 717905232 40 (.un .not (.symb 39)) (.n (.e) 770386419 59 (.ite (.symb 37) (.symi .i32 56) (.symi .i32 58)) (.e)))) 890299493 58 (.ite (.symb 38) (.symi .i32 57) (.int .i32 0)) (.n (.n (.n (.e) 942525948 48 (.conv .i32 (.symi .u8 30)) (.e)) 948187179 46 (.fn 448 .i32 [.symi .u16 27, .symi .u16 28, .symi .u16 29, .symi .i64 45]) (.n (.e) 982284600 41 (.fn 320 .i32 [.symi .u8 0, .symi .u8 1, .symi .u8 2, .symi .i64 32]) (.e))) 985167369 52 (.ite (.symb 47) (.symi .i32 48) (.symi .i32 51)) (.n (.n (.e) 1013785419 53 (.ite (.symb 40) (.int .i32 0) (.symi .i32 41)) (.e)) 1045526257 50 (.conv .i32 (.symi .u8 31)) (.e))))

def bpeekX : Ing := { m := 33, ins := (cellsOf bpeekI).map kindC, G := bpeekG, T := bpeekT, hook := tblHook (tabOf dvFs) dvTbl, tab := tabOf dvFs }
def bpeekA : List AVal := [.symi .i32 62]
def bpeekF : List Int → List Int := dagF bpeekX.tab 33 bpeekG bpeekA
theorem bpeek_ok : okG bpeekG 33 = true := by kernel_rfl
theorem bpeek_lt : okLT 33 bpeekG bpeekT = true := by kernel_rfl
theorem bpeek_run : okW (fun F => (evD Try.prog (cxOf bpeekX) true 1000 40).1 F 31 (symSh bpeekI 0) ⟨[], []⟩) (.run (.leaf (.symi .i32 62))) [] = true := by kernel_rfl
theorem bpeek_contract : FnOk Try.prog 31 bpeekI bpeekO bpeekF :=
  dag_contract (X := bpeekX) (cs := bpeekA) (cs1 := bpeekA) 12 fc.mixed ⟨rfl, rfl, rfl, rfl, rfl⟩ bpeek_ok bpeek_lt (fun F => tbl_hooks bpeek_lt rfl rfl dv_all F) bpeek_run (by kernel_rfl) (by kernel_rfl) (fun σ _ _ _ => rfl)
def bpeekM : Mac := ⟨31, bpeekI, bpeekO, 33, bpeekG, bpeekA⟩
theorem bpeek_mac : MacOk Try.prog (tabOf dvFs) bpeekM := ⟨bpeek_contract, bpeek_ok, rfl, by kernel_rfl⟩

def bpinsI : List Sh := [b32, .one (.i .u8)]
def bpinsO : List Sh := [b32]
set_option maxRecDepth 100000 in
def bpinsG : List SDef := [.fn 832 .u8 [.symi .u8 0, .symi .u8 1, .symi .u8 2, .symi .u8 32],
  .fn 833 .u8 [.symi .u8 0, .symi .u8 1, .symi .u8 2, .symi .u8 32],
  .fn 834 .u8 [.symi .u8 0, .symi .u8 1, .symi .u8 2, .symi .u8 32],
  .fnb 835 [.symi .u8 0, .symi .u8 1, .symi .u8 2, .symi .u8 32],
  .bin .or (.symi .u8 31) (.int .u8 1),
  .ite (.symb 36) (.symi .u8 37) (.symi .u8 31)]

set_option maxRecDepth 100000 in
def bpinsT : LT := .n (.n (.n (.e) 165812070 38 (.ite (.symb 36) (.symi .u8 37) (.symi .u8 31)) (.e)) 961732589 36 (.fnb 835 [.symi .u8 0, .symi .u8 1, .symi .u8 2, .symi .u8 32]) (.n (.e) 982306616 33 (.fn 832 .u8 [.symi .u8 0, .symi .u8 1, .symi .u8 2, .symi .u8 32]) (.e))) 982306659 34 (.fn 833 .u8 [.symi .u8 0, .symi .u8 1, .symi .u8 2, .symi .u8 32]) (.n (.n (.e) 982306702 35 (.fn 834 .u8 [.symi .u8 0, .symi .u8 1, .symi .u8 2, .symi .u8 32]) (.e)) 983586133 37 (.bin .or (.symi .u8 31) (.int .u8 1)) (.e))

def bpinsX : Ing := { m := 33, ins := (cellsOf bpinsI).map kindC, G := bpinsG, T := bpinsT, hook := tblHook (tabOf dvFs) dvTbl, tab := tabOf dvFs }
def bpL14 : List AVal := [.symi .u8 33, .symi .u8 34, .symi .u8 35, .symi .i64 3, .symi .u8 4, .symi .u8 5, .symi .u8 6, .symi .u8 7, .symi .u8 8, .symi .u8 9, .symi .u8 10, .symi .u8 11, .symi .i64 12, .symi .u8 13, .symi .u8 14, .symi .u8 15, .symi .u8 16, .symi .u8 17, .symi .u8 18, .symi .u8 19, .symi .u8 20, .symb 21, .symi .u8 22, .symi .u8 23, .symi .u16 24, .symi .u16 25, .symi .u16 26, .symi .u16 27, .symi .u16 28, .symi .u16 29, .symi .u8 30, .symi .u8 38]
def bpinsA : List AVal := bpL14
def bpinsF : List Int → List Int := dagF bpinsX.tab 33 bpinsG bpinsA
theorem bpins_ok : okG bpinsG 33 = true := by kernel_rfl
theorem bpins_lt : okLT 33 bpinsG bpinsT = true := by kernel_rfl
theorem bpins_run : okW (fun F => (evD Try.prog (cxOf bpinsX) true 1000 40).1 F 35 (symSh bpinsI 0) ⟨[], []⟩) (.run (.leaf (.agg bpL14))) [] = true := by kernel_rfl
theorem bpins_contract : FnOk Try.prog 35 bpinsI bpinsO bpinsF :=
  dag_contract (X := bpinsX) (cs := bpinsA) (cs1 := bpinsA) 12 fc.mixed ⟨rfl, rfl, rfl, rfl, rfl⟩ bpins_ok bpins_lt (fun F => tbl_hooks bpins_lt rfl rfl dv_all F) bpins_run (by kernel_rfl) (by kernel_rfl) (fun σ _ _ _ => rfl)
def bpinsM : Mac := ⟨35, bpinsI, bpinsO, 33, bpinsG, bpinsA⟩
theorem bpins_mac : MacOk Try.prog (tabOf dvFs) bpinsM := ⟨bpins_contract, bpins_ok, rfl, by kernel_rfl⟩

def barriveI : List Sh := [b32, .one (.i .u8)]
def barriveO : List Sh := [b32]
def bpL15 : List AVal := [.symi .i64 3, .symi .u8 4, .symi .u8 5, .symi .u8 6, .symi .u8 7, .symi .u8 8, .symi .u8 9, .symi .u8 10, .symi .u8 11, .symi .i64 12, .symi .u8 13, .symi .u8 14, .symi .u8 15, .symi .u8 16, .symi .u8 17, .symi .u8 18, .symi .u8 19, .symi .u8 20, .symb 21, .symi .u8 22, .symi .u8 23, .symi .u8 32]
set_option maxRecDepth 100000 in
def barriveG : List SDef := [.fn 192 .i64 bpL15,
  .fn 193 .u8 bpL15,
  .fn 194 .u8 bpL15,
  .fn 195 .u8 bpL15,
  .fn 196 .u8 bpL15,
  .fn 197 .u8 bpL15,
  .fn 198 .u8 bpL15,
  .fn 199 .u8 bpL15,
  .fn 200 .u8 bpL15,
  .fn 201 .i64 bpL15,
  .fn 202 .u8 bpL15,
  .fn 203 .u8 bpL15,
  .fn 204 .u8 bpL15,
  .fn 205 .u8 bpL15,
  .fn 206 .u8 bpL15,
  .fn 207 .u8 bpL15,
  .fn 208 .u8 bpL15,
  .fn 209 .u8 bpL15,
  .fnb 210 bpL15,
  .fn 211 .u8 bpL15,
  .fn 212 .u8 bpL15,
  .fnb 213 bpL15,
  .bin .or (.symi .u8 31) (.int .u8 2),
  .ite (.symb 54) (.symi .u8 55) (.symi .u8 31)]

set_option maxRecDepth 100000 in
def barriveT : LT := .n (.n (.n (.n (.n (.e) 381859750 33 (.fn 192 .i64 bpL15) (.e)) 381859793 34 (.fn 193 .u8 bpL15) (.n (.e) 381859836 35 (.fn 194 .u8 bpL15) (.e))) 381859879 36 (.fn 195 .u8 bpL15) (.n (.n (.e) 381859922 37 (.fn 196 .u8 bpL15) (.e)) 381859965 38 (.fn 197 .u8 bpL15) (.e))) 381860008 39 (.fn 198 .u8 bpL15) (.n (.n (.n (.e) 381860051 40 (.fn 199 .u8 bpL15) (.e)) 381860094 41 (.fn 200 .u8 bpL15) (.e)) 381860137 42 (.fn 201 .i64 bpL15) (.n (.n (.e) 381860180 43 (.fn 202 .u8 bpL15) (.e)) 381860223 44 (.fn 203 .u8 bpL15) (.e)))) 381860266 45 (.fn 204 .u8 bpL15) (.n (.n (.n (.n (.e) 381860309 46 (.fn 205 .u8 bpL15) (.e)) 381860352 47 (.fn 206 .u8 bpL15) (.e)) 381860395 48 (.fn 207 .u8 bpL15) (.n (.n (.e) 381860438 49 (.fn 208 .u8 bpL15) (.e)) 381860481 50 (.fn 209 .u8 bpL15) (.e))) 381860567 52 (.fn 211 .u8 bpL15) (.n (.n (.n (.e) 381860610 53 (.fn 212 .u8 bpL15) (.e)) 940321180 51 (.fnb 210 bpL15) (.e)) 940321339 54 (.fnb 213 bpL15) (.n (.n (.e) 983636168 55 (.bin .or (.symi .u8 31) (.int .u8 2)) (.e)) 1054935374 56 (.ite (.symb 54) (.symi .u8 55) (.symi .u8 31)) (.e))))

def barriveX : Ing := { m := 33, ins := (cellsOf barriveI).map kindC, G := barriveG, T := barriveT, hook := tblHook (tabOf dvFs) dvTbl, tab := tabOf dvFs }
def bpL16 : List AVal := [.symi .u8 0, .symi .u8 1, .symi .u8 2, .symi .i64 33, .symi .u8 34, .symi .u8 35, .symi .u8 36, .symi .u8 37, .symi .u8 38, .symi .u8 39, .symi .u8 40, .symi .u8 41, .symi .i64 42, .symi .u8 43, .symi .u8 44, .symi .u8 45, .symi .u8 46, .symi .u8 47, .symi .u8 48, .symi .u8 49, .symi .u8 50, .symb 51, .symi .u8 52, .symi .u8 53, .symi .u16 24, .symi .u16 25, .symi .u16 26, .symi .u16 27, .symi .u16 28, .symi .u16 29, .symi .u8 30, .symi .u8 56]
def barriveA : List AVal := bpL16
def barriveF : List Int → List Int := dagF barriveX.tab 33 barriveG barriveA
theorem barrive_ok : okG barriveG 33 = true := by kernel_rfl
theorem barrive_lt : okLT 33 barriveG barriveT = true := by kernel_rfl
theorem barrive_run : okW (fun F => (evD Try.prog (cxOf barriveX) true 1000 40).1 F 36 (symSh barriveI 0) ⟨[], []⟩) (.run (.leaf (.agg bpL16))) [] = true := by kernel_rfl
theorem barrive_contract : FnOk Try.prog 36 barriveI barriveO barriveF :=
  dag_contract (X := barriveX) (cs := barriveA) (cs1 := barriveA) 12 fc.mixed ⟨rfl, rfl, rfl, rfl, rfl⟩ barrive_ok barrive_lt (fun F => tbl_hooks barrive_lt rfl rfl dv_all F) barrive_run (by kernel_rfl) (by kernel_rfl) (fun σ _ _ _ => rfl)
def barriveM : Mac := ⟨36, barriveI, barriveO, 33, barriveG, barriveA⟩
theorem barrive_mac : MacOk Try.prog (tabOf dvFs) barriveM := ⟨barrive_contract, barrive_ok, rfl, by kernel_rfl⟩

def btickI : List Sh := [b32]
def btickO : List Sh := [b32, .one (.i .u8), .one .b]
def bpL17 : List AVal := [.symi .i64 3, .symi .u8 4, .symi .u8 5, .symi .u8 6, .symi .u8 7, .symi .u8 8, .symi .u8 9, .symi .u8 10, .symi .u8 11, .symi .i64 12, .symi .u8 13, .symi .u8 14, .symi .u8 15, .symi .u8 16, .symi .u8 17, .symi .u8 18, .symi .u8 19, .symi .u8 20, .symb 21, .symi .u8 22, .symi .u8 23]
set_option maxRecDepth 100000 in
def btickG : List SDef := [.fn 576 .u16 [.symi .u16 24, .symi .u16 25, .symi .u16 26],
  .fn 577 .u16 [.symi .u16 24, .symi .u16 25, .symi .u16 26],
  .fn 578 .u16 [.symi .u16 24, .symi .u16 25, .symi .u16 26],
  .fnb 579 [.symi .u16 24, .symi .u16 25, .symi .u16 26],
  .bin .or (.symi .u8 31) (.int .u8 8),
  .ite (.symb 35) (.symi .u8 36) (.symi .u8 31),
  .fn 576 .u16 [.symi .u16 27, .symi .u16 28, .symi .u16 29],
  .fn 577 .u16 [.symi .u16 27, .symi .u16 28, .symi .u16 29],
  .fn 578 .u16 [.symi .u16 27, .symi .u16 28, .symi .u16 29],
  .fnb 579 [.symi .u16 27, .symi .u16 28, .symi .u16 29],
  .bin .or (.symi .u8 37) (.int .u8 16),
  .ite (.symb 41) (.symi .u8 42) (.symi .u8 37),
  .fn 256 .i64 bpL17,
  .fn 257 .u8 bpL17,
  .fn 258 .u8 bpL17,
  .fn 259 .u8 bpL17,
  .fn 260 .u8 bpL17,
  .fn 261 .u8 bpL17,
  .fn 262 .u8 bpL17,
  .fn 263 .u8 bpL17,
  .fn 264 .u8 bpL17,
  .fn 265 .i64 bpL17,
  .fn 266 .u8 bpL17,
  .fn 267 .u8 bpL17,
  .fn 268 .u8 bpL17,
  .fn 269 .u8 bpL17,
  .fn 270 .u8 bpL17,
  .fn 271 .u8 bpL17,
  .fn 272 .u8 bpL17,
  .fn 273 .u8 bpL17,
  .fnb 274 bpL17,
  .fn 275 .u8 bpL17,
  .fn 276 .u8 bpL17,
  .fn 277 .u8 bpL17,
  .fnb 278 bpL17,
  .fnb 279 bpL17,
  .bin .or (.symi .u8 43) (.int .u8 4),
  .ite (.symb 67) (.symi .u8 68) (.symi .u8 43)]

set_option maxRecDepth 100000 in
def btickT : LT := .n (.n (.n (.n (.n (.n (.e) 48256220 68 (.bin .or (.symi .u8 43) (.int .u8 4)) (.e)) 51837150 41 (.fnb 579 [.symi .u16 27, .symi .u16 28, .symi .u16 29]) (.e)) 168555290 69 (.ite (.symb 67) (.symi .u8 68) (.symi .u8 43)) (.n (.e) 339550994 38 (.fn 576 .u16 [.symi .u16 27, .symi .u16 28, .symi .u16 29]) (.e))) 339551037 39 (.fn 577 .u16 [.symi .u16 27, .symi .u16 28, .symi .u16 29]) (.n (.n (.n (.e) 339551080 40 (.fn 578 .u16 [.symi .u16 27, .symi .u16 28, .symi .u16 29]) (.e)) 364356304 43 (.ite (.symb 41) (.symi .u8 42) (.symi .u8 37)) (.e)) 412576112 62 (.fnb 274 bpL17) (.n (.e) 412576324 66 (.fnb 278 bpL17) (.e)))) 412576377 67 (.fnb 279 bpL17) (.n (.n (.n (.n (.e) 516596649 42 (.bin .or (.symi .u8 37) (.int .u8 16)) (.e)) 931405275 32 (.fn 576 .u16 [.symi .u16 24, .symi .u16 25, .symi .u16 26]) (.e)) 931405318 33 (.fn 577 .u16 [.symi .u16 24, .symi .u16 25, .symi .u16 26]) (.n (.e) 931405361 34 (.fn 578 .u16 [.symi .u16 24, .symi .u16 25, .symi .u16 26]) (.e))) 951548863 37 (.ite (.symb 35) (.symi .u8 36) (.symi .u8 31)) (.n (.n (.n (.e) 983936378 36 (.bin .or (.symi .u8 31) (.int .u8 8)) (.e)) 1023248868 35 (.fnb 579 [.symi .u16 24, .symi .u16 25, .symi .u16 26]) (.e)) 1068531914 44 (.fn 256 .i64 bpL17) (.n (.e) 1068531957 45 (.fn 257 .u8 bpL17) (.e))))) 1068532000 46 (.fn 258 .u8 bpL17) (.n (.n (.n (.n (.n (.e) 1068532043 47 (.fn 259 .u8 bpL17) (.e)) 1068532086 48 (.fn 260 .u8 bpL17) (.e)) 1068532129 49 (.fn 261 .u8 bpL17) (.n (.e) 1068532172 50 (.fn 262 .u8 bpL17) (.e))) 1068532215 51 (.fn 263 .u8 bpL17) (.n (.n (.n (.e) 1068532258 52 (.fn 264 .u8 bpL17) (.e)) 1068532301 53 (.fn 265 .i64 bpL17) (.e)) 1068532344 54 (.fn 266 .u8 bpL17) (.n (.e) 1068532387 55 (.fn 267 .u8 bpL17) (.e)))) 1068532430 56 (.fn 268 .u8 bpL17) (.n (.n (.n (.n (.e) 1068532473 57 (.fn 269 .u8 bpL17) (.e)) 1068532516 58 (.fn 270 .u8 bpL17) (.e)) 1068532559 59 (.fn 271 .u8 bpL17) (.n (.e) 1068532602 60 (.fn 272 .u8 bpL17) (.e))) 1068532645 61 (.fn 273 .u8 bpL17) (.n (.n (.e) 1068532731 63 (.fn 275 .u8 bpL17) (.e)) 1068532774 64 (.fn 276 .u8 bpL17) (.n (.e) 1068532817 65 (.fn 277 .u8 bpL17) (.e)))))

def btickX : Ing := { m := 32, ins := (cellsOf btickI).map kindC, G := btickG, T := btickT, hook := tblHook (tabOf dvFs) dvTbl, tab := tabOf dvFs }
def btickA : List AVal := [.symi .u8 0, .symi .u8 1, .symi .u8 2, .symi .i64 44, .symi .u8 45, .symi .u8 46, .symi .u8 47, .symi .u8 48, .symi .u8 49, .symi .u8 50, .symi .u8 51, .symi .u8 52, .symi .i64 53, .symi .u8 54, .symi .u8 55, .symi .u8 56, .symi .u8 57, .symi .u8 58, .symi .u8 59, .symi .u8 60, .symi .u8 61, .symb 62, .symi .u8 63, .symi .u8 64, .symi .u16 32, .symi .u16 33, .symi .u16 34, .symi .u16 38, .symi .u16 39, .symi .u16 40, .symi .u8 30, .symi .u8 69, .symi .u8 65, .symb 66]
def btickF : List Int → List Int := dagF btickX.tab 32 btickG btickA
theorem btick_ok : okG btickG 32 = true := by kernel_rfl
theorem btick_lt : okLT 32 btickG btickT = true := by kernel_rfl
theorem btick_run : okW (fun F => (evD Try.prog (cxOf btickX) true 1000 40).1 F 34 (symSh btickI 0) ⟨[], []⟩) (.run (.leaf (.tuple [.agg [.symi .u8 0, .symi .u8 1, .symi .u8 2, .symi .i64 44, .symi .u8 45, .symi .u8 46, .symi .u8 47, .symi .u8 48, .symi .u8 49, .symi .u8 50, .symi .u8 51, .symi .u8 52, .symi .i64 53, .symi .u8 54, .symi .u8 55, .symi .u8 56, .symi .u8 57, .symi .u8 58, .symi .u8 59, .symi .u8 60, .symi .u8 61, .symb 62, .symi .u8 63, .symi .u8 64, .symi .u16 32, .symi .u16 33, .symi .u16 34, .symi .u16 38, .symi .u16 39, .symi .u16 40, .symi .u8 30, .symi .u8 69], .symi .u8 65, .symb 66]))) [] = true := by kernel_rfl
theorem btick_contract : FnOk Try.prog 34 btickI btickO btickF :=
  dag_contract (X := btickX) (cs := btickA) (cs1 := btickA) 12 fc.mixed ⟨rfl, rfl, rfl, rfl, rfl⟩ btick_ok btick_lt (fun F => tbl_hooks btick_lt rfl rfl dv_all F) btick_run (by kernel_rfl) (by kernel_rfl) (fun σ _ _ _ => rfl)
def btickM : Mac := ⟨34, btickI, btickO, 32, btickG, btickA⟩
theorem btick_mac : MacOk Try.prog (tabOf dvFs) btickM := ⟨btick_contract, btick_ok, rfl, by kernel_rfl⟩

def ballI : List Sh := [b32]
def ballO : List Sh := [.agg [.i .i32, .i .i32, .i .i32, .i .i32, .i .i32, .i .i32, .i .i32, .i .i32, .i .i32, .i .i32, .i .i32, .i .i32, .i .i32, .i .i32, .i .i32]]
def bpL18 : List AVal := [.symi .i64 3, .symi .u8 4, .symi .u8 5, .symi .u8 6, .symi .u8 7, .symi .u8 8, .symi .u8 9, .symi .u8 10, .symi .u8 11, .symi .i64 12, .symi .u8 13, .symi .u8 14, .symi .u8 15, .symi .u8 16, .symi .u8 17, .symi .u8 18, .symi .u8 19, .symi .u8 20, .symb 21, .symi .u8 22, .symi .u8 23, .int .i64 3]
def bpL19 : List AVal := [.symi .i64 3, .symi .u8 4, .symi .u8 5, .symi .u8 6, .symi .u8 7, .symi .u8 8, .symi .u8 9, .symi .u8 10, .symi .u8 11, .symi .i64 12, .symi .u8 13, .symi .u8 14, .symi .u8 15, .symi .u8 16, .symi .u8 17, .symi .u8 18, .symi .u8 19, .symi .u8 20, .symb 21, .symi .u8 22, .symi .u8 23, .int .i64 4]
def bpL20 : List AVal := [.symi .i64 3, .symi .u8 4, .symi .u8 5, .symi .u8 6, .symi .u8 7, .symi .u8 8, .symi .u8 9, .symi .u8 10, .symi .u8 11, .symi .i64 12, .symi .u8 13, .symi .u8 14, .symi .u8 15, .symi .u8 16, .symi .u8 17, .symi .u8 18, .symi .u8 19, .symi .u8 20, .symb 21, .symi .u8 22, .symi .u8 23, .int .i64 5]
set_option maxRecDepth 100000 in
def ballG : List SDef := [.fn 320 .i32 [.symi .u8 0, .symi .u8 1, .symi .u8 2, .int .i64 0],
  .conv .i32 (.symi .u8 30),
  .conv .i32 (.symi .u8 31),
  .fn 320 .i32 [.symi .u8 0, .symi .u8 1, .symi .u8 2, .int .i64 1],
  .fn 320 .i32 [.symi .u8 0, .symi .u8 1, .symi .u8 2, .int .i64 2],
  .fn 0 .i32 bpL18,
  .fn 0 .i32 bpL19,
  .fn 0 .i32 bpL20,
  .fn 448 .i32 [.symi .u16 24, .symi .u16 25, .symi .u16 26, .int .i64 0],
  .fn 448 .i32 [.symi .u16 24, .symi .u16 25, .symi .u16 26, .int .i64 1],
  .fn 448 .i32 [.symi .u16 24, .symi .u16 25, .symi .u16 26, .int .i64 2],
  .fn 448 .i32 [.symi .u16 27, .symi .u16 28, .symi .u16 29, .int .i64 0],
  .fn 448 .i32 [.symi .u16 27, .symi .u16 28, .symi .u16 29, .int .i64 1],
  .fn 448 .i32 [.symi .u16 27, .symi .u16 28, .symi .u16 29, .int .i64 2]]

set_option maxRecDepth 100000 in
def ballT : LT := .n (.n (.n (.n (.e) 17665405 42 (.fn 448 .i32 [.symi .u16 24, .symi .u16 25, .symi .u16 26, .int .i64 2]) (.e)) 418500631 32 (.fn 320 .i32 [.symi .u8 0, .symi .u8 1, .symi .u8 2, .int .i64 0]) (.n (.e) 438013736 35 (.fn 320 .i32 [.symi .u8 0, .symi .u8 1, .symi .u8 2, .int .i64 1]) (.e))) 452445467 39 (.fn 0 .i32 bpL20) (.n (.n (.e) 457526841 36 (.fn 320 .i32 [.symi .u8 0, .symi .u8 1, .symi .u8 2, .int .i64 2]) (.e)) 460526741 43 (.fn 448 .i32 [.symi .u16 27, .symi .u16 28, .symi .u16 29, .int .i64 0]) (.n (.e) 480039846 44 (.fn 448 .i32 [.symi .u16 27, .symi .u16 28, .symi .u16 29, .int .i64 1]) (.e)))) 499552951 45 (.fn 448 .i32 [.symi .u16 27, .symi .u16 28, .symi .u16 29, .int .i64 2]) (.n (.n (.n (.e) 641669931 38 (.fn 0 .i32 bpL19) (.e)) 830894395 37 (.fn 0 .i32 bpL18) (.n (.e) 942525948 33 (.conv .i32 (.symi .u8 30)) (.e))) 1045526257 34 (.conv .i32 (.symi .u8 31)) (.n (.n (.e) 1052381022 40 (.fn 448 .i32 [.symi .u16 24, .symi .u16 25, .symi .u16 26, .int .i64 0]) (.e)) 1071894127 41 (.fn 448 .i32 [.symi .u16 24, .symi .u16 25, .symi .u16 26, .int .i64 1]) (.e)))

def ballKd : KdT := .n (.n (.n (.n (.n (.n .e (some .u8) .e) (some .u8) .e) (some .u8) (.n (.n .e (some .i32) .e) (some .u8) .e)) (some .i64) (.n (.n (.n .e (some .i32) .e) (some .u8) .e) (some .u8) (.n (.n .e (some .i32) .e) (some .u16) .e))) (some .u8) (.n (.n (.n (.n .e (some .i32) .e) (some .u8) .e) (some .u8) (.n (.n .e (some .i32) .e) (some .u16) .e)) (some .u8) (.n (.n (.n .e (some .i32) .e) none .e) (some .u8) (.n (.n .e (some .i32) .e) (some .u16) .e)))) (some .u8) (.n (.n (.n (.n (.n .e (some .i32) .e) (some .u8) .e) (some .u8) (.n (.n .e (some .i32) .e) (some .u16) .e)) (some .u8) (.n (.n (.n .e (some .i32) .e) (some .u8) .e) (some .i64) (.n (.n .e (some .i32) .e) (some .u16) .e))) (some .u8) (.n (.n (.n (.n .e (some .i32) .e) (some .u8) .e) (some .u8) (.n (.n .e (some .i32) .e) (some .u16) .e)) (some .u8) (.n (.n (.n .e (some .i32) .e) (some .u8) .e) (some .u8) (.n .e (some .u8) .e))))
def ballX : Ing := { m := 32, ins := (cellsOf ballI).map kindC, G := ballG, T := ballT, hook := macHook [bpeekM], tab := tabOf dvFs, kb := 46, kt := ballKd }
def bpL21 : List AVal := [.symi .i32 32, .symi .i32 35, .symi .i32 36, .symi .i32 37, .symi .i32 38, .symi .i32 39, .symi .i32 40, .symi .i32 41, .symi .i32 42, .symi .i32 43, .symi .i32 44, .symi .i32 45, .symi .i32 33, .symi .i32 34, .int .i32 0]
def ballA : List AVal := bpL21
def ballF : List Int → List Int := dagF ballX.tab 32 ballG ballA
theorem ball_ok : okG ballG 32 = true := by kernel_rfl
theorem ball_lt : okLT 32 ballG ballT = true := by kernel_rfl
theorem ball_macs : ∀ e, e ∈ [bpeekM] → MacOk Try.prog ballX.tab e := by
  intro e he
  simp only [List.mem_cons, List.not_mem_nil, or_false] at he
  rcases he with rfl
  · exact bpeek_mac
theorem ball_run : okW (fun F => (evD Try.prog (cxOf ballX) true 1000 40).1 F 40 (symSh ballI 0) ⟨[], []⟩) (.run (.leaf (.agg bpL21))) [] = true := by kernel_rfl
theorem ball_contract : FnOk Try.prog 40 ballI ballO ballF :=
  dag_contract (X := ballX) (cs := ballA) (cs1 := ballA) 12 fc.mixed ⟨rfl, rfl, rfl, rfl, rfl⟩ ball_ok ball_lt (fun F => fun f args v hv hp => mac_at ball_lt ball_macs F f args v hv hp) ball_run (by kernel_rfl) (by kernel_rfl) (fun σ _ _ _ => rfl) (hkt := by kernel_rfl)
def ballM : Mac := ⟨40, ballI, ballO, 32, ballG, ballA⟩
theorem ball_mac : MacOk Try.prog (tabOf dvFs) ballM := ⟨ball_contract, ball_ok, rfl, by kernel_rfl⟩
end Go.Proofs.Ytgifnmiggloclab.bp
