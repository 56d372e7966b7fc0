/-
  The contracts of uart.Read, Write, Arrive, Tick, and of ploverref12's: each pair does the same.
  No conditions.
-/
import Derived.Test.YtgifnmiggloclabChecked
import Derived.Test.YtgifnmiggloclabUcb
import Derived.Test.YtgifnmiggloclabEwZe
import Derived.ProofKit
namespace Go.Proofs.Ytgifnmiggloclab.ud
open Go.RowKit Go.Ev Go.Proofs.Ytgifnmiggloclab.fc Go.Proofs.Ytgifnmiggloclab.uc
set_option linter.unusedVariables false
set_option linter.unusedSimpArgs false

def readI : List Sh := [u21, .one (.i .i64)]
def readO : List Sh := [.one (.i .i32), u21]
def writeI : List Sh := [u21, .one (.i .i64), .one (.i .i32)]
def writeO : List Sh := [u21]
def arriveI : List Sh := [u21, .one (.i .u8)]
def arriveO : List Sh := [u21, .one .b]
def tickI : List Sh := [u21]
def tickO : List Sh := [u21, .one (.i .u8), .one .b, .one .b]

set_option maxRecDepth 100000 in
def ureadG : List SDef := [.fn 192 .i32 [.symi .i64 0, .symi .u8 1, .symi .u8 2, .symi .u8 3, .symi .u8 4, .symi .u8 5, .symi .u8 6, .symi .u8 7, .symi .u8 8, .symi .i64 9, .symi .u8 10, .symi .u8 11, .symi .u8 12, .symi .u8 13, .symi .u8 14, .symi .u8 15, .symi .u8 16, .symi .u8 17, .symb 18, .symi .u8 19, .symi .u8 20, .symi .i64 21],
  .fn 0 .i64 [.symi .i64 0, .symi .u8 1, .symi .u8 2, .symi .u8 3, .symi .u8 4, .symi .u8 5, .symi .u8 6, .symi .u8 7, .symi .u8 8],
  .fn 1 .u8 [.symi .i64 0, .symi .u8 1, .symi .u8 2, .symi .u8 3, .symi .u8 4, .symi .u8 5, .symi .u8 6, .symi .u8 7, .symi .u8 8],
  .fn 2 .u8 [.symi .i64 0, .symi .u8 1, .symi .u8 2, .symi .u8 3, .symi .u8 4, .symi .u8 5, .symi .u8 6, .symi .u8 7, .symi .u8 8],
  .fn 3 .u8 [.symi .i64 0, .symi .u8 1, .symi .u8 2, .symi .u8 3, .symi .u8 4, .symi .u8 5, .symi .u8 6, .symi .u8 7, .symi .u8 8],
  .fn 4 .u8 [.symi .i64 0, .symi .u8 1, .symi .u8 2, .symi .u8 3, .symi .u8 4, .symi .u8 5, .symi .u8 6, .symi .u8 7, .symi .u8 8],
  .fn 5 .u8 [.symi .i64 0, .symi .u8 1, .symi .u8 2, .symi .u8 3, .symi .u8 4, .symi .u8 5, .symi .u8 6, .symi .u8 7, .symi .u8 8],
  .fn 6 .u8 [.symi .i64 0, .symi .u8 1, .symi .u8 2, .symi .u8 3, .symi .u8 4, .symi .u8 5, .symi .u8 6, .symi .u8 7, .symi .u8 8],
  .fn 7 .u8 [.symi .i64 0, .symi .u8 1, .symi .u8 2, .symi .u8 3, .symi .u8 4, .symi .u8 5, .symi .u8 6, .symi .u8 7, .symi .u8 8],
  .fn 8 .u8 [.symi .i64 0, .symi .u8 1, .symi .u8 2, .symi .u8 3, .symi .u8 4, .symi .u8 5, .symi .u8 6, .symi .u8 7, .symi .u8 8],
  .fn 0 .i64 [.symi .i64 9, .symi .u8 10, .symi .u8 11, .symi .u8 12, .symi .u8 13, .symi .u8 14, .symi .u8 15, .symi .u8 16, .symi .u8 17],
  .fn 1 .u8 [.symi .i64 9, .symi .u8 10, .symi .u8 11, .symi .u8 12, .symi .u8 13, .symi .u8 14, .symi .u8 15, .symi .u8 16, .symi .u8 17],
  .fn 2 .u8 [.symi .i64 9, .symi .u8 10, .symi .u8 11, .symi .u8 12, .symi .u8 13, .symi .u8 14, .symi .u8 15, .symi .u8 16, .symi .u8 17],
  .fn 3 .u8 [.symi .i64 9, .symi .u8 10, .symi .u8 11, .symi .u8 12, .symi .u8 13, .symi .u8 14, .symi .u8 15, .symi .u8 16, .symi .u8 17],
  .fn 4 .u8 [.symi .i64 9, .symi .u8 10, .symi .u8 11, .symi .u8 12, .symi .u8 13, .symi .u8 14, .symi .u8 15, .symi .u8 16, .symi .u8 17],
  .fn 5 .u8 [.symi .i64 9, .symi .u8 10, .symi .u8 11, .symi .u8 12, .symi .u8 13, .symi .u8 14, .symi .u8 15, .symi .u8 16, .symi .u8 17],
  .fn 6 .u8 [.symi .i64 9, .symi .u8 10, .symi .u8 11, .symi .u8 12, .symi .u8 13, .symi .u8 14, .symi .u8 15, .symi .u8 16, .symi .u8 17],
  .fn 7 .u8 [.symi .i64 9, .symi .u8 10, .symi .u8 11, .symi .u8 12, .symi .u8 13, .symi .u8 14, .symi .u8 15, .symi .u8 16, .symi .u8 17],
  .fn 8 .u8 [.symi .i64 9, .symi .u8 10, .symi .u8 11, .symi .u8 12, .symi .u8 13, .symi .u8 14, .symi .u8 15, .symi .u8 16, .symi .u8 17],
  .bin .eql (.symi .i64 32) (.int .i64 0),
  .bin .geq (.symi .u8 20) (.int .u8 4),
  .ite (.symb 42) (.int .u8 0) (.symi .u8 20),
  .ite (.symb 41) (.int .u8 0) (.symi .u8 43),
  .bin .eql (.symi .i64 21) (.int .i64 3),
  .bin .eql (.symi .i64 21) (.int .i64 4),
  .fn 128 .u8 [.symi .i64 23, .symi .u8 24, .symi .u8 25, .symi .u8 26, .symi .u8 27, .symi .u8 28, .symi .u8 29, .symi .u8 30, .symi .u8 31],
  .fn 129 .i64 [.symi .i64 23, .symi .u8 24, .symi .u8 25, .symi .u8 26, .symi .u8 27, .symi .u8 28, .symi .u8 29, .symi .u8 30, .symi .u8 31],
  .fn 130 .u8 [.symi .i64 23, .symi .u8 24, .symi .u8 25, .symi .u8 26, .symi .u8 27, .symi .u8 28, .symi .u8 29, .symi .u8 30, .symi .u8 31],
  .fn 131 .u8 [.symi .i64 23, .symi .u8 24, .symi .u8 25, .symi .u8 26, .symi .u8 27, .symi .u8 28, .symi .u8 29, .symi .u8 30, .symi .u8 31],
  .fn 132 .u8 [.symi .i64 23, .symi .u8 24, .symi .u8 25, .symi .u8 26, .symi .u8 27, .symi .u8 28, .symi .u8 29, .symi .u8 30, .symi .u8 31],
  .fn 133 .u8 [.symi .i64 23, .symi .u8 24, .symi .u8 25, .symi .u8 26, .symi .u8 27, .symi .u8 28, .symi .u8 29, .symi .u8 30, .symi .u8 31],
  .fn 134 .u8 [.symi .i64 23, .symi .u8 24, .symi .u8 25, .symi .u8 26, .symi .u8 27, .symi .u8 28, .symi .u8 29, .symi .u8 30, .symi .u8 31],
  .fn 135 .u8 [.symi .i64 23, .symi .u8 24, .symi .u8 25, .symi .u8 26, .symi .u8 27, .symi .u8 28, .symi .u8 29, .symi .u8 30, .symi .u8 31],
  .fn 136 .u8 [.symi .i64 23, .symi .u8 24, .symi .u8 25, .symi .u8 26, .symi .u8 27, .symi .u8 28, .symi .u8 29, .symi .u8 30, .symi .u8 31],
  .fn 137 .u8 [.symi .i64 23, .symi .u8 24, .symi .u8 25, .symi .u8 26, .symi .u8 27, .symi .u8 28, .symi .u8 29, .symi .u8 30, .symi .u8 31],
  .fnb 138 [.symi .i64 23, .symi .u8 24, .symi .u8 25, .symi .u8 26, .symi .u8 27, .symi .u8 28, .symi .u8 29, .symi .u8 30, .symi .u8 31],
  .ite (.symb 46) (.bool false) (.symb 18),
  .ite (.symb 45) (.symi .i64 48) (.symi .i64 23),
  .ite (.symb 45) (.symi .u8 49) (.symi .u8 24),
  .ite (.symb 45) (.symi .u8 50) (.symi .u8 25),
  .ite (.symb 45) (.symi .u8 51) (.symi .u8 26),
  .ite (.symb 45) (.symi .u8 52) (.symi .u8 27),
  .ite (.symb 45) (.symi .u8 53) (.symi .u8 28),
  .ite (.symb 45) (.symi .u8 54) (.symi .u8 29),
  .ite (.symb 45) (.symi .u8 55) (.symi .u8 30),
  .ite (.symb 45) (.symi .u8 56) (.symi .u8 31),
  .ite (.symb 45) (.symb 18) (.symb 58),
  .ite (.symb 41) (.int .u8 0) (.symi .u8 20),
  .ite (.symb 42) (.int .u8 0) (.symi .u8 69),
  .fn 192 .i32 [.symi .i64 23, .symi .u8 24, .symi .u8 25, .symi .u8 26, .symi .u8 27, .symi .u8 28, .symi .u8 29, .symi .u8 30, .symi .u8 31, .symi .i64 32, .symi .u8 33, .symi .u8 34, .symi .u8 35, .symi .u8 36, .symi .u8 37, .symi .u8 38, .symi .u8 39, .symi .u8 40, .symb 18, .symi .u8 19, .symi .u8 70, .symi .i64 21]]

set_option maxRecDepth 100000 in
def ureadT : LT := .n (.n (.n (.n (.n (.n (.e) 371892 60 (.ite (.symb 45) (.symi .u8 49) (.symi .u8 24)) (.e)) 10794609 41 (.bin .eql (.symi .i64 32) (.int .i64 0)) (.n (.e) 126633665 64 (.ite (.symb 45) (.symi .u8 53) (.symi .u8 28)) (.e))) 129264147 69 (.ite (.symb 41) (.int .u8 0) (.symi .u8 20)) (.n (.n (.e) 151098142 70 (.ite (.symb 42) (.int .u8 0) (.symi .u8 69)) (.e)) 217925691 22 (.fn 192 .i32 [.symi .i64 0, .symi .u8 1, .symi .u8 2, .symi .u8 3, .symi .u8 4, .symi .u8 5, .symi .u8 6, .symi .u8 7, .symi .u8 8, .symi .i64 9, .symi .u8 10, .symi .u8 11, .symi .u8 12, .symi .u8 13, .symi .u8 14, .symi .u8 15, .symi .u8 16, .symi .u8 17, .symb 18, .symi .u8 19, .symi .u8 20, .symi .i64 21]) (.e))) 268268734 43 (.ite (.symb 42) (.int .u8 0) (.symi .u8 20)) (.n (.n (.n (.e) 300372792 61 (.ite (.symb 45) (.symi .u8 50) (.symi .u8 25)) (.e)) 339945573 57 (.fnb 138 [.symi .i64 23, .symi .u8 24, .symi .u8 25, .symi .u8 26, .symi .u8 27, .symi .u8 28, .symi .u8 29, .symi .u8 30, .symi .u8 31]) (.e)) 375727183 32 (.fn 0 .i64 [.symi .i64 9, .symi .u8 10, .symi .u8 11, .symi .u8 12, .symi .u8 13, .symi .u8 14, .symi .u8 15, .symi .u8 16, .symi .u8 17]) (.n (.n (.e) 375727226 33 (.fn 1 .u8 [.symi .i64 9, .symi .u8 10, .symi .u8 11, .symi .u8 12, .symi .u8 13, .symi .u8 14, .symi .u8 15, .symi .u8 16, .symi .u8 17]) (.e)) 375727269 34 (.fn 2 .u8 [.symi .i64 9, .symi .u8 10, .symi .u8 11, .symi .u8 12, .symi .u8 13, .symi .u8 14, .symi .u8 15, .symi .u8 16, .symi .u8 17]) (.e)))) 375727312 35 (.fn 3 .u8 [.symi .i64 9, .symi .u8 10, .symi .u8 11, .symi .u8 12, .symi .u8 13, .symi .u8 14, .symi .u8 15, .symi .u8 16, .symi .u8 17]) (.n (.n (.n (.n (.e) 375727355 36 (.fn 4 .u8 [.symi .i64 9, .symi .u8 10, .symi .u8 11, .symi .u8 12, .symi .u8 13, .symi .u8 14, .symi .u8 15, .symi .u8 16, .symi .u8 17]) (.e)) 375727398 37 (.fn 5 .u8 [.symi .i64 9, .symi .u8 10, .symi .u8 11, .symi .u8 12, .symi .u8 13, .symi .u8 14, .symi .u8 15, .symi .u8 16, .symi .u8 17]) (.n (.e) 375727441 38 (.fn 6 .u8 [.symi .i64 9, .symi .u8 10, .symi .u8 11, .symi .u8 12, .symi .u8 13, .symi .u8 14, .symi .u8 15, .symi .u8 16, .symi .u8 17]) (.e))) 375727484 39 (.fn 7 .u8 [.symi .i64 9, .symi .u8 10, .symi .u8 11, .symi .u8 12, .symi .u8 13, .symi .u8 14, .symi .u8 15, .symi .u8 16, .symi .u8 17]) (.n (.n (.e) 375727527 40 (.fn 8 .u8 [.symi .i64 9, .symi .u8 10, .symi .u8 11, .symi .u8 12, .symi .u8 13, .symi .u8 14, .symi .u8 15, .symi .u8 16, .symi .u8 17]) (.e)) 381049085 44 (.ite (.symb 41) (.int .u8 0) (.symi .u8 43)) (.e))) 426634565 65 (.ite (.symb 45) (.symi .u8 54) (.symi .u8 29)) (.n (.n (.n (.e) 485560756 23 (.fn 0 .i64 [.symi .i64 0, .symi .u8 1, .symi .u8 2, .symi .u8 3, .symi .u8 4, .symi .u8 5, .symi .u8 6, .symi .u8 7, .symi .u8 8]) (.e)) 485560799 24 (.fn 1 .u8 [.symi .i64 0, .symi .u8 1, .symi .u8 2, .symi .u8 3, .symi .u8 4, .symi .u8 5, .symi .u8 6, .symi .u8 7, .symi .u8 8]) (.e)) 485560842 25 (.fn 2 .u8 [.symi .i64 0, .symi .u8 1, .symi .u8 2, .symi .u8 3, .symi .u8 4, .symi .u8 5, .symi .u8 6, .symi .u8 7, .symi .u8 8]) (.n (.n (.e) 485560885 26 (.fn 3 .u8 [.symi .i64 0, .symi .u8 1, .symi .u8 2, .symi .u8 3, .symi .u8 4, .symi .u8 5, .symi .u8 6, .symi .u8 7, .symi .u8 8]) (.e)) 485560928 27 (.fn 4 .u8 [.symi .i64 0, .symi .u8 1, .symi .u8 2, .symi .u8 3, .symi .u8 4, .symi .u8 5, .symi .u8 6, .symi .u8 7, .symi .u8 8]) (.e))))) 485560971 28 (.fn 5 .u8 [.symi .i64 0, .symi .u8 1, .symi .u8 2, .symi .u8 3, .symi .u8 4, .symi .u8 5, .symi .u8 6, .symi .u8 7, .symi .u8 8]) (.n (.n (.n (.n (.n (.e) 485561014 29 (.fn 6 .u8 [.symi .i64 0, .symi .u8 1, .symi .u8 2, .symi .u8 3, .symi .u8 4, .symi .u8 5, .symi .u8 6, .symi .u8 7, .symi .u8 8]) (.e)) 485561057 30 (.fn 7 .u8 [.symi .i64 0, .symi .u8 1, .symi .u8 2, .symi .u8 3, .symi .u8 4, .symi .u8 5, .symi .u8 6, .symi .u8 7, .symi .u8 8]) (.n (.e) 485561100 31 (.fn 8 .u8 [.symi .i64 0, .symi .u8 1, .symi .u8 2, .symi .u8 3, .symi .u8 4, .symi .u8 5, .symi .u8 6, .symi .u8 7, .symi .u8 8]) (.e))) 515717837 68 (.ite (.symb 45) (.symb 18) (.symb 58)) (.n (.n (.e) 522370704 58 (.ite (.symb 46) (.bool false) (.symb 18)) (.e)) 540464832 71 (.fn 192 .i32 [.symi .i64 23, .symi .u8 24, .symi .u8 25, .symi .u8 26, .symi .u8 27, .symi .u8 28, .symi .u8 29, .symi .u8 30, .symi .u8 31, .symi .i64 32, .symi .u8 33, .symi .u8 34, .symi .u8 35, .symi .u8 36, .symi .u8 37, .symi .u8 38, .symi .u8 39, .symi .u8 40, .symb 18, .symi .u8 19, .symi .u8 70, .symi .i64 21]) (.e))) 600373692 62 (.ite (.symb 45) (.symi .u8 51) (.symi .u8 26)) (.n (.n (.n (.e) 726635465 66 (.ite (.symb 45) (.symi .u8 55) (.symi .u8 30)) (.e)) 774112819 59 (.ite (.symb 45) (.symi .i64 48) (.symi .i64 23)) (.e)) 900374592 63 (.ite (.symb 45) (.symi .u8 52) (.symi .u8 27)) (.n (.n (.e) 920708347 47 (.fn 128 .u8 [.symi .i64 23, .symi .u8 24, .symi .u8 25, .symi .u8 26, .symi .u8 27, .symi .u8 28, .symi .u8 29, .symi .u8 30, .symi .u8 31]) (.e)) 920708390 48 (.fn 129 .i64 [.symi .i64 23, .symi .u8 24, .symi .u8 25, .symi .u8 26, .symi .u8 27, .symi .u8 28, .symi .u8 29, .symi .u8 30, .symi .u8 31]) (.e)))) 920708433 49 (.fn 130 .u8 [.symi .i64 23, .symi .u8 24, .symi .u8 25, .symi .u8 26, .symi .u8 27, .symi .u8 28, .symi .u8 29, .symi .u8 30, .symi .u8 31]) (.n (.n (.n (.n (.e) 920708476 50 (.fn 131 .u8 [.symi .i64 23, .symi .u8 24, .symi .u8 25, .symi .u8 26, .symi .u8 27, .symi .u8 28, .symi .u8 29, .symi .u8 30, .symi .u8 31]) (.e)) 920708519 51 (.fn 132 .u8 [.symi .i64 23, .symi .u8 24, .symi .u8 25, .symi .u8 26, .symi .u8 27, .symi .u8 28, .symi .u8 29, .symi .u8 30, .symi .u8 31]) (.e)) 920708562 52 (.fn 133 .u8 [.symi .i64 23, .symi .u8 24, .symi .u8 25, .symi .u8 26, .symi .u8 27, .symi .u8 28, .symi .u8 29, .symi .u8 30, .symi .u8 31]) (.n (.n (.e) 920708605 53 (.fn 134 .u8 [.symi .i64 23, .symi .u8 24, .symi .u8 25, .symi .u8 26, .symi .u8 27, .symi .u8 28, .symi .u8 29, .symi .u8 30, .symi .u8 31]) (.e)) 920708648 54 (.fn 135 .u8 [.symi .i64 23, .symi .u8 24, .symi .u8 25, .symi .u8 26, .symi .u8 27, .symi .u8 28, .symi .u8 29, .symi .u8 30, .symi .u8 31]) (.e))) 920708691 55 (.fn 136 .u8 [.symi .i64 23, .symi .u8 24, .symi .u8 25, .symi .u8 26, .symi .u8 27, .symi .u8 28, .symi .u8 29, .symi .u8 30, .symi .u8 31]) (.n (.n (.n (.e) 920708734 56 (.fn 137 .u8 [.symi .i64 23, .symi .u8 24, .symi .u8 25, .symi .u8 26, .symi .u8 27, .symi .u8 28, .symi .u8 29, .symi .u8 30, .symi .u8 31]) (.e)) 946474802 42 (.bin .geq (.symi .u8 20) (.int .u8 4)) (.e)) 1026636365 67 (.ite (.symb 45) (.symi .u8 56) (.symi .u8 31)) (.n (.n (.e) 1047425035 45 (.bin .eql (.symi .i64 21) (.int .i64 3)) (.e)) 1047475070 46 (.bin .eql (.symi .i64 21) (.int .i64 4)) (.e)))))

def ureadX : Ing := { m := 22, ins := (cellsOf readI).map kindC, G := ureadG, T := ureadT, hook := tblHook (tabOf upFs) upTbl, tab := tabOf upFs }
def ureadA : List AVal := [.symi .i32 22, .symi .i64 59, .symi .u8 60, .symi .u8 61, .symi .u8 62, .symi .u8 63, .symi .u8 64, .symi .u8 65, .symi .u8 66, .symi .u8 67, .symi .i64 32, .symi .u8 33, .symi .u8 34, .symi .u8 35, .symi .u8 36, .symi .u8 37, .symi .u8 38, .symi .u8 39, .symi .u8 40, .symb 68, .symi .u8 19, .symi .u8 44]
def ureadB : List AVal := [.symi .i32 71, .symi .i64 59, .symi .u8 60, .symi .u8 61, .symi .u8 62, .symi .u8 63, .symi .u8 64, .symi .u8 65, .symi .u8 66, .symi .u8 67, .symi .i64 32, .symi .u8 33, .symi .u8 34, .symi .u8 35, .symi .u8 36, .symi .u8 37, .symi .u8 38, .symi .u8 39, .symi .u8 40, .symb 58, .symi .u8 19, .symi .u8 70]
def ureadF : List Int → List Int := dagF (tabOf upFs) 22 ureadG ureadA
theorem uread_ok : okG ureadG 22 = true := by kernel_rfl
theorem uread_lt : okLT 22 ureadG ureadT = true := by kernel_rfl
theorem uread_run0 : okW (fun F => (evD Try.prog (cxOf ureadX) true 1000 40).1 F 21 (symSh readI 0) ⟨[], []⟩) (.run (.leaf (.tuple [.symi .i32 22, .agg [.symi .i64 59, .symi .u8 60, .symi .u8 61, .symi .u8 62, .symi .u8 63, .symi .u8 64, .symi .u8 65, .symi .u8 66, .symi .u8 67, .symi .i64 32, .symi .u8 33, .symi .u8 34, .symi .u8 35, .symi .u8 36, .symi .u8 37, .symi .u8 38, .symi .u8 39, .symi .u8 40, .symb 68, .symi .u8 19, .symi .u8 44]]))) [] = true := by kernel_rfl
theorem uread_run1 : okW (fun F => (evD Try.prog (cxOf ureadX) true 1000 40).1 F 56 (symSh readI 0) ⟨[], []⟩) (.run (.leaf (.tuple [.symi .i32 71, .agg [.symi .i64 59, .symi .u8 60, .symi .u8 61, .symi .u8 62, .symi .u8 63, .symi .u8 64, .symi .u8 65, .symi .u8 66, .symi .u8 67, .symi .i64 32, .symi .u8 33, .symi .u8 34, .symi .u8 35, .symi .u8 36, .symi .u8 37, .symi .u8 38, .symi .u8 39, .symi .u8 40, .symb 58, .symi .u8 19, .symi .u8 70]]))) [] = true := by kernel_rfl
set_option maxRecDepth 100000 in
theorem uread_eq (σ : Sig) (e : Eqs σ 22 ureadG) (ht : σ.tab = tabOf upFs) (hin : InsOk σ 22 ((cellsOf readI).map kindC)) : numsOf σ ureadB = numsOf σ ureadA := by
  have e22 : σ.ival 22 = IntKind.i32.wrap (σ.tab 192 [σ.ival 0, σ.ival 1, σ.ival 2, σ.ival 3, σ.ival 4, σ.ival 5, σ.ival 6, σ.ival 7, σ.ival 8, σ.ival 9, σ.ival 10, σ.ival 11, σ.ival 12, σ.ival 13, σ.ival 14, σ.ival 15, σ.ival 16, σ.ival 17, (if σ.bval 18 then 1 else 0), σ.ival 19, σ.ival 20, σ.ival 21]) := eqI (e.at 0 _ rfl rfl) rfl
  have e23 : σ.ival 23 = IntKind.i64.wrap (σ.tab 0 [σ.ival 0, σ.ival 1, σ.ival 2, σ.ival 3, σ.ival 4, σ.ival 5, σ.ival 6, σ.ival 7, σ.ival 8]) := eqI (e.at 1 _ rfl rfl) rfl
  have e24 : σ.ival 24 = IntKind.u8.wrap (σ.tab 1 [σ.ival 0, σ.ival 1, σ.ival 2, σ.ival 3, σ.ival 4, σ.ival 5, σ.ival 6, σ.ival 7, σ.ival 8]) := eqI (e.at 2 _ rfl rfl) rfl
  have e25 : σ.ival 25 = IntKind.u8.wrap (σ.tab 2 [σ.ival 0, σ.ival 1, σ.ival 2, σ.ival 3, σ.ival 4, σ.ival 5, σ.ival 6, σ.ival 7, σ.ival 8]) := eqI (e.at 3 _ rfl rfl) rfl
  have e26 : σ.ival 26 = IntKind.u8.wrap (σ.tab 3 [σ.ival 0, σ.ival 1, σ.ival 2, σ.ival 3, σ.ival 4, σ.ival 5, σ.ival 6, σ.ival 7, σ.ival 8]) := eqI (e.at 4 _ rfl rfl) rfl
  have e27 : σ.ival 27 = IntKind.u8.wrap (σ.tab 4 [σ.ival 0, σ.ival 1, σ.ival 2, σ.ival 3, σ.ival 4, σ.ival 5, σ.ival 6, σ.ival 7, σ.ival 8]) := eqI (e.at 5 _ rfl rfl) rfl
  have e28 : σ.ival 28 = IntKind.u8.wrap (σ.tab 5 [σ.ival 0, σ.ival 1, σ.ival 2, σ.ival 3, σ.ival 4, σ.ival 5, σ.ival 6, σ.ival 7, σ.ival 8]) := eqI (e.at 6 _ rfl rfl) rfl
  have e29 : σ.ival 29 = IntKind.u8.wrap (σ.tab 6 [σ.ival 0, σ.ival 1, σ.ival 2, σ.ival 3, σ.ival 4, σ.ival 5, σ.ival 6, σ.ival 7, σ.ival 8]) := eqI (e.at 7 _ rfl rfl) rfl
  have e30 : σ.ival 30 = IntKind.u8.wrap (σ.tab 7 [σ.ival 0, σ.ival 1, σ.ival 2, σ.ival 3, σ.ival 4, σ.ival 5, σ.ival 6, σ.ival 7, σ.ival 8]) := eqI (e.at 8 _ rfl rfl) rfl
  have e31 : σ.ival 31 = IntKind.u8.wrap (σ.tab 8 [σ.ival 0, σ.ival 1, σ.ival 2, σ.ival 3, σ.ival 4, σ.ival 5, σ.ival 6, σ.ival 7, σ.ival 8]) := eqI (e.at 9 _ rfl rfl) rfl
  have e32 : σ.ival 32 = IntKind.i64.wrap (σ.tab 0 [σ.ival 9, σ.ival 10, σ.ival 11, σ.ival 12, σ.ival 13, σ.ival 14, σ.ival 15, σ.ival 16, σ.ival 17]) := eqI (e.at 10 _ rfl rfl) rfl
  have e33 : σ.ival 33 = IntKind.u8.wrap (σ.tab 1 [σ.ival 9, σ.ival 10, σ.ival 11, σ.ival 12, σ.ival 13, σ.ival 14, σ.ival 15, σ.ival 16, σ.ival 17]) := eqI (e.at 11 _ rfl rfl) rfl
  have e34 : σ.ival 34 = IntKind.u8.wrap (σ.tab 2 [σ.ival 9, σ.ival 10, σ.ival 11, σ.ival 12, σ.ival 13, σ.ival 14, σ.ival 15, σ.ival 16, σ.ival 17]) := eqI (e.at 12 _ rfl rfl) rfl
  have e35 : σ.ival 35 = IntKind.u8.wrap (σ.tab 3 [σ.ival 9, σ.ival 10, σ.ival 11, σ.ival 12, σ.ival 13, σ.ival 14, σ.ival 15, σ.ival 16, σ.ival 17]) := eqI (e.at 13 _ rfl rfl) rfl
  have e36 : σ.ival 36 = IntKind.u8.wrap (σ.tab 4 [σ.ival 9, σ.ival 10, σ.ival 11, σ.ival 12, σ.ival 13, σ.ival 14, σ.ival 15, σ.ival 16, σ.ival 17]) := eqI (e.at 14 _ rfl rfl) rfl
  have e37 : σ.ival 37 = IntKind.u8.wrap (σ.tab 5 [σ.ival 9, σ.ival 10, σ.ival 11, σ.ival 12, σ.ival 13, σ.ival 14, σ.ival 15, σ.ival 16, σ.ival 17]) := eqI (e.at 15 _ rfl rfl) rfl
  have e38 : σ.ival 38 = IntKind.u8.wrap (σ.tab 6 [σ.ival 9, σ.ival 10, σ.ival 11, σ.ival 12, σ.ival 13, σ.ival 14, σ.ival 15, σ.ival 16, σ.ival 17]) := eqI (e.at 16 _ rfl rfl) rfl
  have e39 : σ.ival 39 = IntKind.u8.wrap (σ.tab 7 [σ.ival 9, σ.ival 10, σ.ival 11, σ.ival 12, σ.ival 13, σ.ival 14, σ.ival 15, σ.ival 16, σ.ival 17]) := eqI (e.at 17 _ rfl rfl) rfl
  have e40 : σ.ival 40 = IntKind.u8.wrap (σ.tab 8 [σ.ival 9, σ.ival 10, σ.ival 11, σ.ival 12, σ.ival 13, σ.ival 14, σ.ival 15, σ.ival 16, σ.ival 17]) := eqI (e.at 18 _ rfl rfl) rfl
  have e41 : σ.bval 41 = (σ.ival 32 == 0) := eqB (e.at 19 _ rfl rfl) rfl
  have e42 : σ.bval 42 = decide (σ.ival 20 ≥ 4) := eqB (e.at 20 _ rfl rfl) rfl
  have e43 : σ.ival 43 = (bif σ.bval 42 then 0 else σ.ival 20) := eqIteI (e.at 21 _ rfl rfl) rfl rfl rfl
  have e44 : σ.ival 44 = (bif σ.bval 41 then 0 else σ.ival 43) := eqIteI (e.at 22 _ rfl rfl) rfl rfl rfl
  have e45 : σ.bval 45 = (σ.ival 21 == 3) := eqB (e.at 23 _ rfl rfl) rfl
  have e46 : σ.bval 46 = (σ.ival 21 == 4) := eqB (e.at 24 _ rfl rfl) rfl
  have e47 : σ.ival 47 = IntKind.u8.wrap (σ.tab 128 [σ.ival 23, σ.ival 24, σ.ival 25, σ.ival 26, σ.ival 27, σ.ival 28, σ.ival 29, σ.ival 30, σ.ival 31]) := eqI (e.at 25 _ rfl rfl) rfl
  have e48 : σ.ival 48 = IntKind.i64.wrap (σ.tab 129 [σ.ival 23, σ.ival 24, σ.ival 25, σ.ival 26, σ.ival 27, σ.ival 28, σ.ival 29, σ.ival 30, σ.ival 31]) := eqI (e.at 26 _ rfl rfl) rfl
  have e49 : σ.ival 49 = IntKind.u8.wrap (σ.tab 130 [σ.ival 23, σ.ival 24, σ.ival 25, σ.ival 26, σ.ival 27, σ.ival 28, σ.ival 29, σ.ival 30, σ.ival 31]) := eqI (e.at 27 _ rfl rfl) rfl
  have e50 : σ.ival 50 = IntKind.u8.wrap (σ.tab 131 [σ.ival 23, σ.ival 24, σ.ival 25, σ.ival 26, σ.ival 27, σ.ival 28, σ.ival 29, σ.ival 30, σ.ival 31]) := eqI (e.at 28 _ rfl rfl) rfl
  have e51 : σ.ival 51 = IntKind.u8.wrap (σ.tab 132 [σ.ival 23, σ.ival 24, σ.ival 25, σ.ival 26, σ.ival 27, σ.ival 28, σ.ival 29, σ.ival 30, σ.ival 31]) := eqI (e.at 29 _ rfl rfl) rfl
  have e52 : σ.ival 52 = IntKind.u8.wrap (σ.tab 133 [σ.ival 23, σ.ival 24, σ.ival 25, σ.ival 26, σ.ival 27, σ.ival 28, σ.ival 29, σ.ival 30, σ.ival 31]) := eqI (e.at 30 _ rfl rfl) rfl
  have e53 : σ.ival 53 = IntKind.u8.wrap (σ.tab 134 [σ.ival 23, σ.ival 24, σ.ival 25, σ.ival 26, σ.ival 27, σ.ival 28, σ.ival 29, σ.ival 30, σ.ival 31]) := eqI (e.at 31 _ rfl rfl) rfl
  have e54 : σ.ival 54 = IntKind.u8.wrap (σ.tab 135 [σ.ival 23, σ.ival 24, σ.ival 25, σ.ival 26, σ.ival 27, σ.ival 28, σ.ival 29, σ.ival 30, σ.ival 31]) := eqI (e.at 32 _ rfl rfl) rfl
  have e55 : σ.ival 55 = IntKind.u8.wrap (σ.tab 136 [σ.ival 23, σ.ival 24, σ.ival 25, σ.ival 26, σ.ival 27, σ.ival 28, σ.ival 29, σ.ival 30, σ.ival 31]) := eqI (e.at 33 _ rfl rfl) rfl
  have e56 : σ.ival 56 = IntKind.u8.wrap (σ.tab 137 [σ.ival 23, σ.ival 24, σ.ival 25, σ.ival 26, σ.ival 27, σ.ival 28, σ.ival 29, σ.ival 30, σ.ival 31]) := eqI (e.at 34 _ rfl rfl) rfl
  have e57 : σ.bval 57 = (!(σ.tab 138 [σ.ival 23, σ.ival 24, σ.ival 25, σ.ival 26, σ.ival 27, σ.ival 28, σ.ival 29, σ.ival 30, σ.ival 31] == 0)) := eqB (e.at 35 _ rfl rfl) rfl
  have e58 : σ.bval 58 = (bif σ.bval 46 then false else σ.bval 18) := eqIteB (e.at 36 _ rfl rfl) rfl rfl rfl
  have e59 : σ.ival 59 = (bif σ.bval 45 then σ.ival 48 else σ.ival 23) := eqIteI (e.at 37 _ rfl rfl) rfl rfl rfl
  have e60 : σ.ival 60 = (bif σ.bval 45 then σ.ival 49 else σ.ival 24) := eqIteI (e.at 38 _ rfl rfl) rfl rfl rfl
  have e61 : σ.ival 61 = (bif σ.bval 45 then σ.ival 50 else σ.ival 25) := eqIteI (e.at 39 _ rfl rfl) rfl rfl rfl
  have e62 : σ.ival 62 = (bif σ.bval 45 then σ.ival 51 else σ.ival 26) := eqIteI (e.at 40 _ rfl rfl) rfl rfl rfl
  have e63 : σ.ival 63 = (bif σ.bval 45 then σ.ival 52 else σ.ival 27) := eqIteI (e.at 41 _ rfl rfl) rfl rfl rfl
  have e64 : σ.ival 64 = (bif σ.bval 45 then σ.ival 53 else σ.ival 28) := eqIteI (e.at 42 _ rfl rfl) rfl rfl rfl
  have e65 : σ.ival 65 = (bif σ.bval 45 then σ.ival 54 else σ.ival 29) := eqIteI (e.at 43 _ rfl rfl) rfl rfl rfl
  have e66 : σ.ival 66 = (bif σ.bval 45 then σ.ival 55 else σ.ival 30) := eqIteI (e.at 44 _ rfl rfl) rfl rfl rfl
  have e67 : σ.ival 67 = (bif σ.bval 45 then σ.ival 56 else σ.ival 31) := eqIteI (e.at 45 _ rfl rfl) rfl rfl rfl
  have e68 : σ.bval 68 = (bif σ.bval 45 then σ.bval 18 else σ.bval 58) := eqIteB (e.at 46 _ rfl rfl) rfl rfl rfl
  have e69 : σ.ival 69 = (bif σ.bval 41 then 0 else σ.ival 20) := eqIteI (e.at 47 _ rfl rfl) rfl rfl rfl
  have e70 : σ.ival 70 = (bif σ.bval 42 then 0 else σ.ival 69) := eqIteI (e.at 48 _ rfl rfl) rfl rfl rfl
  have e71 : σ.ival 71 = IntKind.i32.wrap (σ.tab 192 [σ.ival 23, σ.ival 24, σ.ival 25, σ.ival 26, σ.ival 27, σ.ival 28, σ.ival 29, σ.ival 30, σ.ival 31, σ.ival 32, σ.ival 33, σ.ival 34, σ.ival 35, σ.ival 36, σ.ival 37, σ.ival 38, σ.ival 39, σ.ival 40, (if σ.bval 18 then 1 else 0), σ.ival 19, σ.ival 70, σ.ival 21]) := eqI (e.at 49 _ rfl rfl) rfl
  have w0 : IntKind.i64.wrap (σ.ival 0) = σ.ival 0 := hin 0 .i64 (by decide) rfl
  have w1 : IntKind.u8.wrap (σ.ival 1) = σ.ival 1 := hin 1 .u8 (by decide) rfl
  have w2 : IntKind.u8.wrap (σ.ival 2) = σ.ival 2 := hin 2 .u8 (by decide) rfl
  have w3 : IntKind.u8.wrap (σ.ival 3) = σ.ival 3 := hin 3 .u8 (by decide) rfl
  have w4 : IntKind.u8.wrap (σ.ival 4) = σ.ival 4 := hin 4 .u8 (by decide) rfl
  have w5 : IntKind.u8.wrap (σ.ival 5) = σ.ival 5 := hin 5 .u8 (by decide) rfl
  have w6 : IntKind.u8.wrap (σ.ival 6) = σ.ival 6 := hin 6 .u8 (by decide) rfl
  have w7 : IntKind.u8.wrap (σ.ival 7) = σ.ival 7 := hin 7 .u8 (by decide) rfl
  have w8 : IntKind.u8.wrap (σ.ival 8) = σ.ival 8 := hin 8 .u8 (by decide) rfl
  have m23 : σ.ival 23 = qk [σ.ival 0, σ.ival 1, σ.ival 2, σ.ival 3, σ.ival 4, σ.ival 5, σ.ival 6, σ.ival 7, σ.ival 8] := by rw [e23, ht]; exact qk_w [σ.ival 0, σ.ival 1, σ.ival 2, σ.ival 3, σ.ival 4, σ.ival 5, σ.ival 6, σ.ival 7, σ.ival 8]
  have m24 : σ.ival 24 = qb [σ.ival 0, σ.ival 1, σ.ival 2, σ.ival 3, σ.ival 4, σ.ival 5, σ.ival 6, σ.ival 7, σ.ival 8] 0 := by rw [e24, ht]; exact qb_w (l := [σ.ival 0, σ.ival 1, σ.ival 2, σ.ival 3, σ.ival 4, σ.ival 5, σ.ival 6, σ.ival 7, σ.ival 8]) 0 w1
  have m25 : σ.ival 25 = qb [σ.ival 0, σ.ival 1, σ.ival 2, σ.ival 3, σ.ival 4, σ.ival 5, σ.ival 6, σ.ival 7, σ.ival 8] 1 := by rw [e25, ht]; exact qb_w (l := [σ.ival 0, σ.ival 1, σ.ival 2, σ.ival 3, σ.ival 4, σ.ival 5, σ.ival 6, σ.ival 7, σ.ival 8]) 1 w2
  have m26 : σ.ival 26 = qb [σ.ival 0, σ.ival 1, σ.ival 2, σ.ival 3, σ.ival 4, σ.ival 5, σ.ival 6, σ.ival 7, σ.ival 8] 2 := by rw [e26, ht]; exact qb_w (l := [σ.ival 0, σ.ival 1, σ.ival 2, σ.ival 3, σ.ival 4, σ.ival 5, σ.ival 6, σ.ival 7, σ.ival 8]) 2 w3
  have m27 : σ.ival 27 = qb [σ.ival 0, σ.ival 1, σ.ival 2, σ.ival 3, σ.ival 4, σ.ival 5, σ.ival 6, σ.ival 7, σ.ival 8] 3 := by rw [e27, ht]; exact qb_w (l := [σ.ival 0, σ.ival 1, σ.ival 2, σ.ival 3, σ.ival 4, σ.ival 5, σ.ival 6, σ.ival 7, σ.ival 8]) 3 w4
  have m28 : σ.ival 28 = qb [σ.ival 0, σ.ival 1, σ.ival 2, σ.ival 3, σ.ival 4, σ.ival 5, σ.ival 6, σ.ival 7, σ.ival 8] 4 := by rw [e28, ht]; exact qb_w (l := [σ.ival 0, σ.ival 1, σ.ival 2, σ.ival 3, σ.ival 4, σ.ival 5, σ.ival 6, σ.ival 7, σ.ival 8]) 4 w5
  have m29 : σ.ival 29 = qb [σ.ival 0, σ.ival 1, σ.ival 2, σ.ival 3, σ.ival 4, σ.ival 5, σ.ival 6, σ.ival 7, σ.ival 8] 5 := by rw [e29, ht]; exact qb_w (l := [σ.ival 0, σ.ival 1, σ.ival 2, σ.ival 3, σ.ival 4, σ.ival 5, σ.ival 6, σ.ival 7, σ.ival 8]) 5 w6
  have m30 : σ.ival 30 = qb [σ.ival 0, σ.ival 1, σ.ival 2, σ.ival 3, σ.ival 4, σ.ival 5, σ.ival 6, σ.ival 7, σ.ival 8] 6 := by rw [e30, ht]; exact qb_w (l := [σ.ival 0, σ.ival 1, σ.ival 2, σ.ival 3, σ.ival 4, σ.ival 5, σ.ival 6, σ.ival 7, σ.ival 8]) 6 w7
  have m31 : σ.ival 31 = qb [σ.ival 0, σ.ival 1, σ.ival 2, σ.ival 3, σ.ival 4, σ.ival 5, σ.ival 6, σ.ival 7, σ.ival 8] 7 := by rw [e31, ht]; exact qb_w (l := [σ.ival 0, σ.ival 1, σ.ival 2, σ.ival 3, σ.ival 4, σ.ival 5, σ.ival 6, σ.ival 7, σ.ival 8]) 7 w8
  have w9 : IntKind.i64.wrap (σ.ival 9) = σ.ival 9 := hin 9 .i64 (by decide) rfl
  have w10 : IntKind.u8.wrap (σ.ival 10) = σ.ival 10 := hin 10 .u8 (by decide) rfl
  have w11 : IntKind.u8.wrap (σ.ival 11) = σ.ival 11 := hin 11 .u8 (by decide) rfl
  have w12 : IntKind.u8.wrap (σ.ival 12) = σ.ival 12 := hin 12 .u8 (by decide) rfl
  have w13 : IntKind.u8.wrap (σ.ival 13) = σ.ival 13 := hin 13 .u8 (by decide) rfl
  have w14 : IntKind.u8.wrap (σ.ival 14) = σ.ival 14 := hin 14 .u8 (by decide) rfl
  have w15 : IntKind.u8.wrap (σ.ival 15) = σ.ival 15 := hin 15 .u8 (by decide) rfl
  have w16 : IntKind.u8.wrap (σ.ival 16) = σ.ival 16 := hin 16 .u8 (by decide) rfl
  have w17 : IntKind.u8.wrap (σ.ival 17) = σ.ival 17 := hin 17 .u8 (by decide) rfl
  have m32 : σ.ival 32 = qk [σ.ival 9, σ.ival 10, σ.ival 11, σ.ival 12, σ.ival 13, σ.ival 14, σ.ival 15, σ.ival 16, σ.ival 17] := by rw [e32, ht]; exact qk_w [σ.ival 9, σ.ival 10, σ.ival 11, σ.ival 12, σ.ival 13, σ.ival 14, σ.ival 15, σ.ival 16, σ.ival 17]
  have m33 : σ.ival 33 = qb [σ.ival 9, σ.ival 10, σ.ival 11, σ.ival 12, σ.ival 13, σ.ival 14, σ.ival 15, σ.ival 16, σ.ival 17] 0 := by rw [e33, ht]; exact qb_w (l := [σ.ival 9, σ.ival 10, σ.ival 11, σ.ival 12, σ.ival 13, σ.ival 14, σ.ival 15, σ.ival 16, σ.ival 17]) 0 w10
  have m34 : σ.ival 34 = qb [σ.ival 9, σ.ival 10, σ.ival 11, σ.ival 12, σ.ival 13, σ.ival 14, σ.ival 15, σ.ival 16, σ.ival 17] 1 := by rw [e34, ht]; exact qb_w (l := [σ.ival 9, σ.ival 10, σ.ival 11, σ.ival 12, σ.ival 13, σ.ival 14, σ.ival 15, σ.ival 16, σ.ival 17]) 1 w11
  have m35 : σ.ival 35 = qb [σ.ival 9, σ.ival 10, σ.ival 11, σ.ival 12, σ.ival 13, σ.ival 14, σ.ival 15, σ.ival 16, σ.ival 17] 2 := by rw [e35, ht]; exact qb_w (l := [σ.ival 9, σ.ival 10, σ.ival 11, σ.ival 12, σ.ival 13, σ.ival 14, σ.ival 15, σ.ival 16, σ.ival 17]) 2 w12
  have m36 : σ.ival 36 = qb [σ.ival 9, σ.ival 10, σ.ival 11, σ.ival 12, σ.ival 13, σ.ival 14, σ.ival 15, σ.ival 16, σ.ival 17] 3 := by rw [e36, ht]; exact qb_w (l := [σ.ival 9, σ.ival 10, σ.ival 11, σ.ival 12, σ.ival 13, σ.ival 14, σ.ival 15, σ.ival 16, σ.ival 17]) 3 w13
  have m37 : σ.ival 37 = qb [σ.ival 9, σ.ival 10, σ.ival 11, σ.ival 12, σ.ival 13, σ.ival 14, σ.ival 15, σ.ival 16, σ.ival 17] 4 := by rw [e37, ht]; exact qb_w (l := [σ.ival 9, σ.ival 10, σ.ival 11, σ.ival 12, σ.ival 13, σ.ival 14, σ.ival 15, σ.ival 16, σ.ival 17]) 4 w14
  have m38 : σ.ival 38 = qb [σ.ival 9, σ.ival 10, σ.ival 11, σ.ival 12, σ.ival 13, σ.ival 14, σ.ival 15, σ.ival 16, σ.ival 17] 5 := by rw [e38, ht]; exact qb_w (l := [σ.ival 9, σ.ival 10, σ.ival 11, σ.ival 12, σ.ival 13, σ.ival 14, σ.ival 15, σ.ival 16, σ.ival 17]) 5 w15
  have m39 : σ.ival 39 = qb [σ.ival 9, σ.ival 10, σ.ival 11, σ.ival 12, σ.ival 13, σ.ival 14, σ.ival 15, σ.ival 16, σ.ival 17] 6 := by rw [e39, ht]; exact qb_w (l := [σ.ival 9, σ.ival 10, σ.ival 11, σ.ival 12, σ.ival 13, σ.ival 14, σ.ival 15, σ.ival 16, σ.ival 17]) 6 w16
  have m40 : σ.ival 40 = qb [σ.ival 9, σ.ival 10, σ.ival 11, σ.ival 12, σ.ival 13, σ.ival 14, σ.ival 15, σ.ival 16, σ.ival 17] 7 := by rw [e40, ht]; exact qb_w (l := [σ.ival 9, σ.ival 10, σ.ival 11, σ.ival 12, σ.ival 13, σ.ival 14, σ.ival 15, σ.ival 16, σ.ival 17]) 7 w17
  have c70 : σ.ival 70 = σ.ival 44 := by rw [e70, e69, e44, e43]; cases σ.bval 41 <;> cases σ.bval 42 <;> rfl
  have c58 : σ.bval 58 = σ.bval 68 := by
    rw [e68, e58]
    cases h : σ.bval 45
    · rfl
    · rw [e45, beq_iff_eq] at h
      rw [e46, h]; rfl
  have c71 : σ.ival 71 = σ.ival 22 := by
    have q1 : qk [σ.ival 23, σ.ival 24, σ.ival 25, σ.ival 26, σ.ival 27, σ.ival 28, σ.ival 29, σ.ival 30, σ.ival 31, σ.ival 32, σ.ival 33, σ.ival 34, σ.ival 35, σ.ival 36, σ.ival 37, σ.ival 38, σ.ival 39, σ.ival 40, (if σ.bval 18 then 1 else 0), σ.ival 19, σ.ival 70, σ.ival 21] = qk [σ.ival 0, σ.ival 1, σ.ival 2, σ.ival 3, σ.ival 4, σ.ival 5, σ.ival 6, σ.ival 7, σ.ival 8, σ.ival 9, σ.ival 10, σ.ival 11, σ.ival 12, σ.ival 13, σ.ival 14, σ.ival 15, σ.ival 16, σ.ival 17, (if σ.bval 18 then 1 else 0), σ.ival 19, σ.ival 20, σ.ival 21] := by show clamp (σ.ival 23) = clamp (σ.ival 0); rw [m23]; exact clamp_clamp _
    have q2 : qk ([σ.ival 23, σ.ival 24, σ.ival 25, σ.ival 26, σ.ival 27, σ.ival 28, σ.ival 29, σ.ival 30, σ.ival 31, σ.ival 32, σ.ival 33, σ.ival 34, σ.ival 35, σ.ival 36, σ.ival 37, σ.ival 38, σ.ival 39, σ.ival 40, (if σ.bval 18 then 1 else 0), σ.ival 19, σ.ival 70, σ.ival 21].drop 9) = qk ([σ.ival 0, σ.ival 1, σ.ival 2, σ.ival 3, σ.ival 4, σ.ival 5, σ.ival 6, σ.ival 7, σ.ival 8, σ.ival 9, σ.ival 10, σ.ival 11, σ.ival 12, σ.ival 13, σ.ival 14, σ.ival 15, σ.ival 16, σ.ival 17, (if σ.bval 18 then 1 else 0), σ.ival 19, σ.ival 20, σ.ival 21].drop 9) := by show clamp (σ.ival 32) = clamp (σ.ival 9); rw [m32]; exact clamp_clamp _
    have q3 : qb [σ.ival 23, σ.ival 24, σ.ival 25, σ.ival 26, σ.ival 27, σ.ival 28, σ.ival 29, σ.ival 30, σ.ival 31, σ.ival 32, σ.ival 33, σ.ival 34, σ.ival 35, σ.ival 36, σ.ival 37, σ.ival 38, σ.ival 39, σ.ival 40, (if σ.bval 18 then 1 else 0), σ.ival 19, σ.ival 70, σ.ival 21] 0 = qb [σ.ival 0, σ.ival 1, σ.ival 2, σ.ival 3, σ.ival 4, σ.ival 5, σ.ival 6, σ.ival 7, σ.ival 8, σ.ival 9, σ.ival 10, σ.ival 11, σ.ival 12, σ.ival 13, σ.ival 14, σ.ival 15, σ.ival 16, σ.ival 17, (if σ.bval 18 then 1 else 0), σ.ival 19, σ.ival 20, σ.ival 21] 0 := by
      unfold qb
      rw [q1]
      show (if _ then σ.ival 24 else 0) = if _ then σ.ival 1 else 0
      rw [m24]; unfold qb
      show (if _ < clamp (σ.ival 0) then (if _ < clamp (σ.ival 0) then _ else _) else _) = if _ < clamp (σ.ival 0) then _ else _
      split <;> rfl
    have hp : peekF [σ.ival 23, σ.ival 24, σ.ival 25, σ.ival 26, σ.ival 27, σ.ival 28, σ.ival 29, σ.ival 30, σ.ival 31, σ.ival 32, σ.ival 33, σ.ival 34, σ.ival 35, σ.ival 36, σ.ival 37, σ.ival 38, σ.ival 39, σ.ival 40, (if σ.bval 18 then 1 else 0), σ.ival 19, σ.ival 70, σ.ival 21] = peekF [σ.ival 0, σ.ival 1, σ.ival 2, σ.ival 3, σ.ival 4, σ.ival 5, σ.ival 6, σ.ival 7, σ.ival 8, σ.ival 9, σ.ival 10, σ.ival 11, σ.ival 12, σ.ival 13, σ.ival 14, σ.ival 15, σ.ival 16, σ.ival 17, (if σ.bval 18 then 1 else 0), σ.ival 19, σ.ival 20, σ.ival 21] := by unfold peekF; rw [q1, q2, q3]; rfl
    rw [e71, e22, ht]
    show IntKind.i32.wrap ((peekF [σ.ival 23, σ.ival 24, σ.ival 25, σ.ival 26, σ.ival 27, σ.ival 28, σ.ival 29, σ.ival 30, σ.ival 31, σ.ival 32, σ.ival 33, σ.ival 34, σ.ival 35, σ.ival 36, σ.ival 37, σ.ival 38, σ.ival 39, σ.ival 40, (if σ.bval 18 then 1 else 0), σ.ival 19, σ.ival 70, σ.ival 21]).getD 0 0) = IntKind.i32.wrap ((peekF [σ.ival 0, σ.ival 1, σ.ival 2, σ.ival 3, σ.ival 4, σ.ival 5, σ.ival 6, σ.ival 7, σ.ival 8, σ.ival 9, σ.ival 10, σ.ival 11, σ.ival 12, σ.ival 13, σ.ival 14, σ.ival 15, σ.ival 16, σ.ival 17, (if σ.bval 18 then 1 else 0), σ.ival 19, σ.ival 20, σ.ival 21]).getD 0 0)
    rw [hp]
  unfold numsOf ureadA ureadB
  simp only [List.map_cons, List.map_nil, den, numS, c71, c58, c70]
theorem uread_contract0 : FnOk Try.prog 21 readI readO ureadF :=
  dag_contract (X := ureadX) (cs := ureadA) (cs1 := ureadA) 12 mixed ⟨rfl, rfl, rfl, rfl, rfl⟩ uread_ok uread_lt (fun F => tbl_hooks uread_lt rfl rfl up_all F) uread_run0 (by kernel_rfl) (by kernel_rfl) (fun σ _ _ _ => rfl)
theorem uread_contract1 : FnOk Try.prog 56 readI readO ureadF :=
  dag_contract (X := ureadX) (cs := ureadB) (cs1 := ureadA) 12 mixed ⟨rfl, rfl, rfl, rfl, rfl⟩ uread_ok uread_lt (fun F => tbl_hooks uread_lt rfl rfl up_all F) uread_run1 (by kernel_rfl) (by kernel_rfl) (fun σ e ht hin => uread_eq σ e ht hin)

set_option maxRecDepth 100000 in
def uwriteG : List SDef := [.fn 0 .i64 [.symi .i64 0, .symi .u8 1, .symi .u8 2, .symi .u8 3, .symi .u8 4, .symi .u8 5, .symi .u8 6, .symi .u8 7, .symi .u8 8],
  .fn 1 .u8 [.symi .i64 0, .symi .u8 1, .symi .u8 2, .symi .u8 3, .symi .u8 4, .symi .u8 5, .symi .u8 6, .symi .u8 7, .symi .u8 8],
  .fn 2 .u8 [.symi .i64 0, .symi .u8 1, .symi .u8 2, .symi .u8 3, .symi .u8 4, .symi .u8 5, .symi .u8 6, .symi .u8 7, .symi .u8 8],
  .fn 3 .u8 [.symi .i64 0, .symi .u8 1, .symi .u8 2, .symi .u8 3, .symi .u8 4, .symi .u8 5, .symi .u8 6, .symi .u8 7, .symi .u8 8],
  .fn 4 .u8 [.symi .i64 0, .symi .u8 1, .symi .u8 2, .symi .u8 3, .symi .u8 4, .symi .u8 5, .symi .u8 6, .symi .u8 7, .symi .u8 8],
  .fn 5 .u8 [.symi .i64 0, .symi .u8 1, .symi .u8 2, .symi .u8 3, .symi .u8 4, .symi .u8 5, .symi .u8 6, .symi .u8 7, .symi .u8 8],
  .fn 6 .u8 [.symi .i64 0, .symi .u8 1, .symi .u8 2, .symi .u8 3, .symi .u8 4, .symi .u8 5, .symi .u8 6, .symi .u8 7, .symi .u8 8],
  .fn 7 .u8 [.symi .i64 0, .symi .u8 1, .symi .u8 2, .symi .u8 3, .symi .u8 4, .symi .u8 5, .symi .u8 6, .symi .u8 7, .symi .u8 8],
  .fn 8 .u8 [.symi .i64 0, .symi .u8 1, .symi .u8 2, .symi .u8 3, .symi .u8 4, .symi .u8 5, .symi .u8 6, .symi .u8 7, .symi .u8 8],
  .fn 0 .i64 [.symi .i64 9, .symi .u8 10, .symi .u8 11, .symi .u8 12, .symi .u8 13, .symi .u8 14, .symi .u8 15, .symi .u8 16, .symi .u8 17],
  .fn 1 .u8 [.symi .i64 9, .symi .u8 10, .symi .u8 11, .symi .u8 12, .symi .u8 13, .symi .u8 14, .symi .u8 15, .symi .u8 16, .symi .u8 17],
  .fn 2 .u8 [.symi .i64 9, .symi .u8 10, .symi .u8 11, .symi .u8 12, .symi .u8 13, .symi .u8 14, .symi .u8 15, .symi .u8 16, .symi .u8 17],
  .fn 3 .u8 [.symi .i64 9, .symi .u8 10, .symi .u8 11, .symi .u8 12, .symi .u8 13, .symi .u8 14, .symi .u8 15, .symi .u8 16, .symi .u8 17],
  .fn 4 .u8 [.symi .i64 9, .symi .u8 10, .symi .u8 11, .symi .u8 12, .symi .u8 13, .symi .u8 14, .symi .u8 15, .symi .u8 16, .symi .u8 17],
  .fn 5 .u8 [.symi .i64 9, .symi .u8 10, .symi .u8 11, .symi .u8 12, .symi .u8 13, .symi .u8 14, .symi .u8 15, .symi .u8 16, .symi .u8 17],
  .fn 6 .u8 [.symi .i64 9, .symi .u8 10, .symi .u8 11, .symi .u8 12, .symi .u8 13, .symi .u8 14, .symi .u8 15, .symi .u8 16, .symi .u8 17],
  .fn 7 .u8 [.symi .i64 9, .symi .u8 10, .symi .u8 11, .symi .u8 12, .symi .u8 13, .symi .u8 14, .symi .u8 15, .symi .u8 16, .symi .u8 17],
  .fn 8 .u8 [.symi .i64 9, .symi .u8 10, .symi .u8 11, .symi .u8 12, .symi .u8 13, .symi .u8 14, .symi .u8 15, .symi .u8 16, .symi .u8 17],
  .bin .eql (.symi .i64 32) (.int .i64 0),
  .bin .geq (.symi .u8 20) (.int .u8 4),
  .ite (.symb 42) (.int .u8 0) (.symi .u8 20),
  .ite (.symb 41) (.int .u8 0) (.symi .u8 43),
  .bin .eql (.symi .i64 21) (.int .i64 3),
  .conv .u8 (.symi .i32 22),
  .fn 64 .i64 [.symi .i64 32, .symi .u8 33, .symi .u8 34, .symi .u8 35, .symi .u8 36, .symi .u8 37, .symi .u8 38, .symi .u8 39, .symi .u8 40, .symi .u8 46],
  .fn 65 .u8 [.symi .i64 32, .symi .u8 33, .symi .u8 34, .symi .u8 35, .symi .u8 36, .symi .u8 37, .symi .u8 38, .symi .u8 39, .symi .u8 40, .symi .u8 46],
  .fn 66 .u8 [.symi .i64 32, .symi .u8 33, .symi .u8 34, .symi .u8 35, .symi .u8 36, .symi .u8 37, .symi .u8 38, .symi .u8 39, .symi .u8 40, .symi .u8 46],
  .fn 67 .u8 [.symi .i64 32, .symi .u8 33, .symi .u8 34, .symi .u8 35, .symi .u8 36, .symi .u8 37, .symi .u8 38, .symi .u8 39, .symi .u8 40, .symi .u8 46],
  .fn 68 .u8 [.symi .i64 32, .symi .u8 33, .symi .u8 34, .symi .u8 35, .symi .u8 36, .symi .u8 37, .symi .u8 38, .symi .u8 39, .symi .u8 40, .symi .u8 46],
  .fn 69 .u8 [.symi .i64 32, .symi .u8 33, .symi .u8 34, .symi .u8 35, .symi .u8 36, .symi .u8 37, .symi .u8 38, .symi .u8 39, .symi .u8 40, .symi .u8 46],
  .fn 70 .u8 [.symi .i64 32, .symi .u8 33, .symi .u8 34, .symi .u8 35, .symi .u8 36, .symi .u8 37, .symi .u8 38, .symi .u8 39, .symi .u8 40, .symi .u8 46],
  .fn 71 .u8 [.symi .i64 32, .symi .u8 33, .symi .u8 34, .symi .u8 35, .symi .u8 36, .symi .u8 37, .symi .u8 38, .symi .u8 39, .symi .u8 40, .symi .u8 46],
  .fn 72 .u8 [.symi .i64 32, .symi .u8 33, .symi .u8 34, .symi .u8 35, .symi .u8 36, .symi .u8 37, .symi .u8 38, .symi .u8 39, .symi .u8 40, .symi .u8 46],
  .fnb 73 [.symi .i64 32, .symi .u8 33, .symi .u8 34, .symi .u8 35, .symi .u8 36, .symi .u8 37, .symi .u8 38, .symi .u8 39, .symi .u8 40, .symi .u8 46],
  .bin .eql (.symi .i64 21) (.int .i64 5),
  .ite (.symb 57) (.symi .u8 46) (.symi .u8 19),
  .ite (.symb 45) (.symi .i64 47) (.symi .i64 32),
  .ite (.symb 45) (.symi .u8 48) (.symi .u8 33),
  .ite (.symb 45) (.symi .u8 49) (.symi .u8 34),
  .ite (.symb 45) (.symi .u8 50) (.symi .u8 35),
  .ite (.symb 45) (.symi .u8 51) (.symi .u8 36),
  .ite (.symb 45) (.symi .u8 52) (.symi .u8 37),
  .ite (.symb 45) (.symi .u8 53) (.symi .u8 38),
  .ite (.symb 45) (.symi .u8 54) (.symi .u8 39),
  .ite (.symb 45) (.symi .u8 55) (.symi .u8 40),
  .ite (.symb 45) (.symi .u8 19) (.symi .u8 58),
  .ite (.symb 41) (.int .u8 0) (.symi .u8 20),
  .ite (.symb 42) (.int .u8 0) (.symi .u8 69)]

set_option maxRecDepth 100000 in
def uwriteT : LT := .n (.n (.n (.n (.n (.n (.e) 10794609 41 (.bin .eql (.symi .i64 32) (.int .i64 0)) (.e)) 89156341 67 (.ite (.symb 45) (.symi .u8 55) (.symi .u8 40)) (.n (.e) 118523476 46 (.conv .u8 (.symi .i32 22)) (.e))) 129264147 69 (.ite (.symb 41) (.int .u8 0) (.symi .u8 20)) (.n (.n (.e) 136633695 60 (.ite (.symb 45) (.symi .u8 48) (.symi .u8 33)) (.e)) 151098142 70 (.ite (.symb 42) (.int .u8 0) (.symi .u8 69)) (.e))) 215714896 47 (.fn 64 .i64 [.symi .i64 32, .symi .u8 33, .symi .u8 34, .symi .u8 35, .symi .u8 36, .symi .u8 37, .symi .u8 38, .symi .u8 39, .symi .u8 40, .symi .u8 46]) (.n (.n (.n (.e) 215714939 48 (.fn 65 .u8 [.symi .i64 32, .symi .u8 33, .symi .u8 34, .symi .u8 35, .symi .u8 36, .symi .u8 37, .symi .u8 38, .symi .u8 39, .symi .u8 40, .symi .u8 46]) (.e)) 215714982 49 (.fn 66 .u8 [.symi .i64 32, .symi .u8 33, .symi .u8 34, .symi .u8 35, .symi .u8 36, .symi .u8 37, .symi .u8 38, .symi .u8 39, .symi .u8 40, .symi .u8 46]) (.e)) 215715025 50 (.fn 67 .u8 [.symi .i64 32, .symi .u8 33, .symi .u8 34, .symi .u8 35, .symi .u8 36, .symi .u8 37, .symi .u8 38, .symi .u8 39, .symi .u8 40, .symi .u8 46]) (.n (.n (.e) 215715068 51 (.fn 68 .u8 [.symi .i64 32, .symi .u8 33, .symi .u8 34, .symi .u8 35, .symi .u8 36, .symi .u8 37, .symi .u8 38, .symi .u8 39, .symi .u8 40, .symi .u8 46]) (.e)) 215715111 52 (.fn 69 .u8 [.symi .i64 32, .symi .u8 33, .symi .u8 34, .symi .u8 35, .symi .u8 36, .symi .u8 37, .symi .u8 38, .symi .u8 39, .symi .u8 40, .symi .u8 46]) (.e)))) 215715154 53 (.fn 70 .u8 [.symi .i64 32, .symi .u8 33, .symi .u8 34, .symi .u8 35, .symi .u8 36, .symi .u8 37, .symi .u8 38, .symi .u8 39, .symi .u8 40, .symi .u8 46]) (.n (.n (.n (.n (.e) 215715197 54 (.fn 71 .u8 [.symi .i64 32, .symi .u8 33, .symi .u8 34, .symi .u8 35, .symi .u8 36, .symi .u8 37, .symi .u8 38, .symi .u8 39, .symi .u8 40, .symi .u8 46]) (.e)) 215715240 55 (.fn 72 .u8 [.symi .i64 32, .symi .u8 33, .symi .u8 34, .symi .u8 35, .symi .u8 36, .symi .u8 37, .symi .u8 38, .symi .u8 39, .symi .u8 40, .symi .u8 46]) (.e)) 262895468 64 (.ite (.symb 45) (.symi .u8 52) (.symi .u8 37)) (.n (.n (.e) 268268734 43 (.ite (.symb 42) (.int .u8 0) (.symi .u8 20)) (.e)) 375727183 32 (.fn 0 .i64 [.symi .i64 9, .symi .u8 10, .symi .u8 11, .symi .u8 12, .symi .u8 13, .symi .u8 14, .symi .u8 15, .symi .u8 16, .symi .u8 17]) (.e))) 375727226 33 (.fn 1 .u8 [.symi .i64 9, .symi .u8 10, .symi .u8 11, .symi .u8 12, .symi .u8 13, .symi .u8 14, .symi .u8 15, .symi .u8 16, .symi .u8 17]) (.n (.n (.n (.e) 375727269 34 (.fn 2 .u8 [.symi .i64 9, .symi .u8 10, .symi .u8 11, .symi .u8 12, .symi .u8 13, .symi .u8 14, .symi .u8 15, .symi .u8 16, .symi .u8 17]) (.e)) 375727312 35 (.fn 3 .u8 [.symi .i64 9, .symi .u8 10, .symi .u8 11, .symi .u8 12, .symi .u8 13, .symi .u8 14, .symi .u8 15, .symi .u8 16, .symi .u8 17]) (.e)) 375727355 36 (.fn 4 .u8 [.symi .i64 9, .symi .u8 10, .symi .u8 11, .symi .u8 12, .symi .u8 13, .symi .u8 14, .symi .u8 15, .symi .u8 16, .symi .u8 17]) (.n (.n (.e) 375727398 37 (.fn 5 .u8 [.symi .i64 9, .symi .u8 10, .symi .u8 11, .symi .u8 12, .symi .u8 13, .symi .u8 14, .symi .u8 15, .symi .u8 16, .symi .u8 17]) (.e)) 375727441 38 (.fn 6 .u8 [.symi .i64 9, .symi .u8 10, .symi .u8 11, .symi .u8 12, .symi .u8 13, .symi .u8 14, .symi .u8 15, .symi .u8 16, .symi .u8 17]) (.e))))) 375727484 39 (.fn 7 .u8 [.symi .i64 9, .symi .u8 10, .symi .u8 11, .symi .u8 12, .symi .u8 13, .symi .u8 14, .symi .u8 15, .symi .u8 16, .symi .u8 17]) (.n (.n (.n (.n (.n (.e) 375727527 40 (.fn 8 .u8 [.symi .i64 9, .symi .u8 10, .symi .u8 11, .symi .u8 12, .symi .u8 13, .symi .u8 14, .symi .u8 15, .symi .u8 16, .symi .u8 17]) (.e)) 381049085 44 (.ite (.symb 41) (.int .u8 0) (.symi .u8 43)) (.e)) 436634595 61 (.ite (.symb 45) (.symi .u8 49) (.symi .u8 34)) (.n (.n (.e) 466423330 58 (.ite (.symb 57) (.symi .u8 46) (.symi .u8 19)) (.e)) 485560756 23 (.fn 0 .i64 [.symi .i64 0, .symi .u8 1, .symi .u8 2, .symi .u8 3, .symi .u8 4, .symi .u8 5, .symi .u8 6, .symi .u8 7, .symi .u8 8]) (.e))) 485560799 24 (.fn 1 .u8 [.symi .i64 0, .symi .u8 1, .symi .u8 2, .symi .u8 3, .symi .u8 4, .symi .u8 5, .symi .u8 6, .symi .u8 7, .symi .u8 8]) (.n (.n (.n (.e) 485560842 25 (.fn 2 .u8 [.symi .i64 0, .symi .u8 1, .symi .u8 2, .symi .u8 3, .symi .u8 4, .symi .u8 5, .symi .u8 6, .symi .u8 7, .symi .u8 8]) (.e)) 485560885 26 (.fn 3 .u8 [.symi .i64 0, .symi .u8 1, .symi .u8 2, .symi .u8 3, .symi .u8 4, .symi .u8 5, .symi .u8 6, .symi .u8 7, .symi .u8 8]) (.e)) 485560928 27 (.fn 4 .u8 [.symi .i64 0, .symi .u8 1, .symi .u8 2, .symi .u8 3, .symi .u8 4, .symi .u8 5, .symi .u8 6, .symi .u8 7, .symi .u8 8]) (.n (.n (.e) 485560971 28 (.fn 5 .u8 [.symi .i64 0, .symi .u8 1, .symi .u8 2, .symi .u8 3, .symi .u8 4, .symi .u8 5, .symi .u8 6, .symi .u8 7, .symi .u8 8]) (.e)) 485561014 29 (.fn 6 .u8 [.symi .i64 0, .symi .u8 1, .symi .u8 2, .symi .u8 3, .symi .u8 4, .symi .u8 5, .symi .u8 6, .symi .u8 7, .symi .u8 8]) (.e)))) 485561057 30 (.fn 7 .u8 [.symi .i64 0, .symi .u8 1, .symi .u8 2, .symi .u8 3, .symi .u8 4, .symi .u8 5, .symi .u8 6, .symi .u8 7, .symi .u8 8]) (.n (.n (.n (.n (.e) 485561100 31 (.fn 8 .u8 [.symi .i64 0, .symi .u8 1, .symi .u8 2, .symi .u8 3, .symi .u8 4, .symi .u8 5, .symi .u8 6, .symi .u8 7, .symi .u8 8]) (.e)) 562896368 65 (.ite (.symb 45) (.symi .u8 53) (.symi .u8 38)) (.e)) 664373884 68 (.ite (.symb 45) (.symi .u8 19) (.symi .u8 58)) (.n (.n (.e) 736635495 62 (.ite (.symb 45) (.symi .u8 50) (.symi .u8 35)) (.e)) 862897268 66 (.ite (.symb 45) (.symi .u8 54) (.symi .u8 39)) (.e))) 910374622 59 (.ite (.symb 45) (.symi .i64 47) (.symi .i64 32)) (.n (.n (.n (.e) 946474802 42 (.bin .geq (.symi .u8 20) (.int .u8 4)) (.e)) 1028853213 56 (.fnb 73 [.symi .i64 32, .symi .u8 33, .symi .u8 34, .symi .u8 35, .symi .u8 36, .symi .u8 37, .symi .u8 38, .symi .u8 39, .symi .u8 40, .symi .u8 46]) (.e)) 1036636395 63 (.ite (.symb 45) (.symi .u8 51) (.symi .u8 36)) (.n (.n (.e) 1047425035 45 (.bin .eql (.symi .i64 21) (.int .i64 3)) (.e)) 1047525105 57 (.bin .eql (.symi .i64 21) (.int .i64 5)) (.e)))))

def uwriteX : Ing := { m := 23, ins := (cellsOf writeI).map kindC, G := uwriteG, T := uwriteT, hook := tblHook (tabOf upFs) upTbl, tab := tabOf upFs }
def uwriteA : List AVal := [.symi .i64 23, .symi .u8 24, .symi .u8 25, .symi .u8 26, .symi .u8 27, .symi .u8 28, .symi .u8 29, .symi .u8 30, .symi .u8 31, .symi .i64 59, .symi .u8 60, .symi .u8 61, .symi .u8 62, .symi .u8 63, .symi .u8 64, .symi .u8 65, .symi .u8 66, .symi .u8 67, .symb 18, .symi .u8 68, .symi .u8 44]
def uwriteB : List AVal := [.symi .i64 23, .symi .u8 24, .symi .u8 25, .symi .u8 26, .symi .u8 27, .symi .u8 28, .symi .u8 29, .symi .u8 30, .symi .u8 31, .symi .i64 59, .symi .u8 60, .symi .u8 61, .symi .u8 62, .symi .u8 63, .symi .u8 64, .symi .u8 65, .symi .u8 66, .symi .u8 67, .symb 18, .symi .u8 58, .symi .u8 70]
def uwriteF : List Int → List Int := dagF (tabOf upFs) 23 uwriteG uwriteA
theorem uwrite_ok : okG uwriteG 23 = true := by kernel_rfl
theorem uwrite_lt : okLT 23 uwriteG uwriteT = true := by kernel_rfl
theorem uwrite_run0 : okW (fun F => (evD Try.prog (cxOf uwriteX) true 1000 40).1 F 22 (symSh writeI 0) ⟨[], []⟩) (.run (.leaf (.agg [.symi .i64 23, .symi .u8 24, .symi .u8 25, .symi .u8 26, .symi .u8 27, .symi .u8 28, .symi .u8 29, .symi .u8 30, .symi .u8 31, .symi .i64 59, .symi .u8 60, .symi .u8 61, .symi .u8 62, .symi .u8 63, .symi .u8 64, .symi .u8 65, .symi .u8 66, .symi .u8 67, .symb 18, .symi .u8 68, .symi .u8 44]))) [] = true := by kernel_rfl
theorem uwrite_run1 : okW (fun F => (evD Try.prog (cxOf uwriteX) true 1000 40).1 F 60 (symSh writeI 0) ⟨[], []⟩) (.run (.leaf (.agg [.symi .i64 23, .symi .u8 24, .symi .u8 25, .symi .u8 26, .symi .u8 27, .symi .u8 28, .symi .u8 29, .symi .u8 30, .symi .u8 31, .symi .i64 59, .symi .u8 60, .symi .u8 61, .symi .u8 62, .symi .u8 63, .symi .u8 64, .symi .u8 65, .symi .u8 66, .symi .u8 67, .symb 18, .symi .u8 58, .symi .u8 70]))) [] = true := by kernel_rfl
set_option maxRecDepth 100000 in
theorem uwrite_eq (σ : Sig) (e : Eqs σ 23 uwriteG) (ht : σ.tab = tabOf upFs) (hin : InsOk σ 23 ((cellsOf writeI).map kindC)) : numsOf σ uwriteB = numsOf σ uwriteA := by
  have e23 : σ.ival 23 = IntKind.i64.wrap (σ.tab 0 [σ.ival 0, σ.ival 1, σ.ival 2, σ.ival 3, σ.ival 4, σ.ival 5, σ.ival 6, σ.ival 7, σ.ival 8]) := eqI (e.at 0 _ rfl rfl) rfl
  have e24 : σ.ival 24 = IntKind.u8.wrap (σ.tab 1 [σ.ival 0, σ.ival 1, σ.ival 2, σ.ival 3, σ.ival 4, σ.ival 5, σ.ival 6, σ.ival 7, σ.ival 8]) := eqI (e.at 1 _ rfl rfl) rfl
  have e25 : σ.ival 25 = IntKind.u8.wrap (σ.tab 2 [σ.ival 0, σ.ival 1, σ.ival 2, σ.ival 3, σ.ival 4, σ.ival 5, σ.ival 6, σ.ival 7, σ.ival 8]) := eqI (e.at 2 _ rfl rfl) rfl
  have e26 : σ.ival 26 = IntKind.u8.wrap (σ.tab 3 [σ.ival 0, σ.ival 1, σ.ival 2, σ.ival 3, σ.ival 4, σ.ival 5, σ.ival 6, σ.ival 7, σ.ival 8]) := eqI (e.at 3 _ rfl rfl) rfl
  have e27 : σ.ival 27 = IntKind.u8.wrap (σ.tab 4 [σ.ival 0, σ.ival 1, σ.ival 2, σ.ival 3, σ.ival 4, σ.ival 5, σ.ival 6, σ.ival 7, σ.ival 8]) := eqI (e.at 4 _ rfl rfl) rfl
  have e28 : σ.ival 28 = IntKind.u8.wrap (σ.tab 5 [σ.ival 0, σ.ival 1, σ.ival 2, σ.ival 3, σ.ival 4, σ.ival 5, σ.ival 6, σ.ival 7, σ.ival 8]) := eqI (e.at 5 _ rfl rfl) rfl
  have e29 : σ.ival 29 = IntKind.u8.wrap (σ.tab 6 [σ.ival 0, σ.ival 1, σ.ival 2, σ.ival 3, σ.ival 4, σ.ival 5, σ.ival 6, σ.ival 7, σ.ival 8]) := eqI (e.at 6 _ rfl rfl) rfl
  have e30 : σ.ival 30 = IntKind.u8.wrap (σ.tab 7 [σ.ival 0, σ.ival 1, σ.ival 2, σ.ival 3, σ.ival 4, σ.ival 5, σ.ival 6, σ.ival 7, σ.ival 8]) := eqI (e.at 7 _ rfl rfl) rfl
  have e31 : σ.ival 31 = IntKind.u8.wrap (σ.tab 8 [σ.ival 0, σ.ival 1, σ.ival 2, σ.ival 3, σ.ival 4, σ.ival 5, σ.ival 6, σ.ival 7, σ.ival 8]) := eqI (e.at 8 _ rfl rfl) rfl
  have e32 : σ.ival 32 = IntKind.i64.wrap (σ.tab 0 [σ.ival 9, σ.ival 10, σ.ival 11, σ.ival 12, σ.ival 13, σ.ival 14, σ.ival 15, σ.ival 16, σ.ival 17]) := eqI (e.at 9 _ rfl rfl) rfl
  have e33 : σ.ival 33 = IntKind.u8.wrap (σ.tab 1 [σ.ival 9, σ.ival 10, σ.ival 11, σ.ival 12, σ.ival 13, σ.ival 14, σ.ival 15, σ.ival 16, σ.ival 17]) := eqI (e.at 10 _ rfl rfl) rfl
  have e34 : σ.ival 34 = IntKind.u8.wrap (σ.tab 2 [σ.ival 9, σ.ival 10, σ.ival 11, σ.ival 12, σ.ival 13, σ.ival 14, σ.ival 15, σ.ival 16, σ.ival 17]) := eqI (e.at 11 _ rfl rfl) rfl
  have e35 : σ.ival 35 = IntKind.u8.wrap (σ.tab 3 [σ.ival 9, σ.ival 10, σ.ival 11, σ.ival 12, σ.ival 13, σ.ival 14, σ.ival 15, σ.ival 16, σ.ival 17]) := eqI (e.at 12 _ rfl rfl) rfl
  have e36 : σ.ival 36 = IntKind.u8.wrap (σ.tab 4 [σ.ival 9, σ.ival 10, σ.ival 11, σ.ival 12, σ.ival 13, σ.ival 14, σ.ival 15, σ.ival 16, σ.ival 17]) := eqI (e.at 13 _ rfl rfl) rfl
  have e37 : σ.ival 37 = IntKind.u8.wrap (σ.tab 5 [σ.ival 9, σ.ival 10, σ.ival 11, σ.ival 12, σ.ival 13, σ.ival 14, σ.ival 15, σ.ival 16, σ.ival 17]) := eqI (e.at 14 _ rfl rfl) rfl
  have e38 : σ.ival 38 = IntKind.u8.wrap (σ.tab 6 [σ.ival 9, σ.ival 10, σ.ival 11, σ.ival 12, σ.ival 13, σ.ival 14, σ.ival 15, σ.ival 16, σ.ival 17]) := eqI (e.at 15 _ rfl rfl) rfl
  have e39 : σ.ival 39 = IntKind.u8.wrap (σ.tab 7 [σ.ival 9, σ.ival 10, σ.ival 11, σ.ival 12, σ.ival 13, σ.ival 14, σ.ival 15, σ.ival 16, σ.ival 17]) := eqI (e.at 16 _ rfl rfl) rfl
  have e40 : σ.ival 40 = IntKind.u8.wrap (σ.tab 8 [σ.ival 9, σ.ival 10, σ.ival 11, σ.ival 12, σ.ival 13, σ.ival 14, σ.ival 15, σ.ival 16, σ.ival 17]) := eqI (e.at 17 _ rfl rfl) rfl
  have e41 : σ.bval 41 = (σ.ival 32 == 0) := eqB (e.at 18 _ rfl rfl) rfl
  have e42 : σ.bval 42 = decide (σ.ival 20 ≥ 4) := eqB (e.at 19 _ rfl rfl) rfl
  have e43 : σ.ival 43 = (bif σ.bval 42 then 0 else σ.ival 20) := eqIteI (e.at 20 _ rfl rfl) rfl rfl rfl
  have e44 : σ.ival 44 = (bif σ.bval 41 then 0 else σ.ival 43) := eqIteI (e.at 21 _ rfl rfl) rfl rfl rfl
  have e45 : σ.bval 45 = (σ.ival 21 == 3) := eqB (e.at 22 _ rfl rfl) rfl
  have e46 : σ.ival 46 = IntKind.u8.wrap (σ.ival 22) := eqI (e.at 23 _ rfl rfl) rfl
  have e47 : σ.ival 47 = IntKind.i64.wrap (σ.tab 64 [σ.ival 32, σ.ival 33, σ.ival 34, σ.ival 35, σ.ival 36, σ.ival 37, σ.ival 38, σ.ival 39, σ.ival 40, σ.ival 46]) := eqI (e.at 24 _ rfl rfl) rfl
  have e48 : σ.ival 48 = IntKind.u8.wrap (σ.tab 65 [σ.ival 32, σ.ival 33, σ.ival 34, σ.ival 35, σ.ival 36, σ.ival 37, σ.ival 38, σ.ival 39, σ.ival 40, σ.ival 46]) := eqI (e.at 25 _ rfl rfl) rfl
  have e49 : σ.ival 49 = IntKind.u8.wrap (σ.tab 66 [σ.ival 32, σ.ival 33, σ.ival 34, σ.ival 35, σ.ival 36, σ.ival 37, σ.ival 38, σ.ival 39, σ.ival 40, σ.ival 46]) := eqI (e.at 26 _ rfl rfl) rfl
  have e50 : σ.ival 50 = IntKind.u8.wrap (σ.tab 67 [σ.ival 32, σ.ival 33, σ.ival 34, σ.ival 35, σ.ival 36, σ.ival 37, σ.ival 38, σ.ival 39, σ.ival 40, σ.ival 46]) := eqI (e.at 27 _ rfl rfl) rfl
  have e51 : σ.ival 51 = IntKind.u8.wrap (σ.tab 68 [σ.ival 32, σ.ival 33, σ.ival 34, σ.ival 35, σ.ival 36, σ.ival 37, σ.ival 38, σ.ival 39, σ.ival 40, σ.ival 46]) := eqI (e.at 28 _ rfl rfl) rfl
  have e52 : σ.ival 52 = IntKind.u8.wrap (σ.tab 69 [σ.ival 32, σ.ival 33, σ.ival 34, σ.ival 35, σ.ival 36, σ.ival 37, σ.ival 38, σ.ival 39, σ.ival 40, σ.ival 46]) := eqI (e.at 29 _ rfl rfl) rfl
  have e53 : σ.ival 53 = IntKind.u8.wrap (σ.tab 70 [σ.ival 32, σ.ival 33, σ.ival 34, σ.ival 35, σ.ival 36, σ.ival 37, σ.ival 38, σ.ival 39, σ.ival 40, σ.ival 46]) := eqI (e.at 30 _ rfl rfl) rfl
  have e54 : σ.ival 54 = IntKind.u8.wrap (σ.tab 71 [σ.ival 32, σ.ival 33, σ.ival 34, σ.ival 35, σ.ival 36, σ.ival 37, σ.ival 38, σ.ival 39, σ.ival 40, σ.ival 46]) := eqI (e.at 31 _ rfl rfl) rfl
  have e55 : σ.ival 55 = IntKind.u8.wrap (σ.tab 72 [σ.ival 32, σ.ival 33, σ.ival 34, σ.ival 35, σ.ival 36, σ.ival 37, σ.ival 38, σ.ival 39, σ.ival 40, σ.ival 46]) := eqI (e.at 32 _ rfl rfl) rfl
  have e56 : σ.bval 56 = (!(σ.tab 73 [σ.ival 32, σ.ival 33, σ.ival 34, σ.ival 35, σ.ival 36, σ.ival 37, σ.ival 38, σ.ival 39, σ.ival 40, σ.ival 46] == 0)) := eqB (e.at 33 _ rfl rfl) rfl
  have e57 : σ.bval 57 = (σ.ival 21 == 5) := eqB (e.at 34 _ rfl rfl) rfl
  have e58 : σ.ival 58 = (bif σ.bval 57 then σ.ival 46 else σ.ival 19) := eqIteI (e.at 35 _ rfl rfl) rfl rfl rfl
  have e59 : σ.ival 59 = (bif σ.bval 45 then σ.ival 47 else σ.ival 32) := eqIteI (e.at 36 _ rfl rfl) rfl rfl rfl
  have e60 : σ.ival 60 = (bif σ.bval 45 then σ.ival 48 else σ.ival 33) := eqIteI (e.at 37 _ rfl rfl) rfl rfl rfl
  have e61 : σ.ival 61 = (bif σ.bval 45 then σ.ival 49 else σ.ival 34) := eqIteI (e.at 38 _ rfl rfl) rfl rfl rfl
  have e62 : σ.ival 62 = (bif σ.bval 45 then σ.ival 50 else σ.ival 35) := eqIteI (e.at 39 _ rfl rfl) rfl rfl rfl
  have e63 : σ.ival 63 = (bif σ.bval 45 then σ.ival 51 else σ.ival 36) := eqIteI (e.at 40 _ rfl rfl) rfl rfl rfl
  have e64 : σ.ival 64 = (bif σ.bval 45 then σ.ival 52 else σ.ival 37) := eqIteI (e.at 41 _ rfl rfl) rfl rfl rfl
  have e65 : σ.ival 65 = (bif σ.bval 45 then σ.ival 53 else σ.ival 38) := eqIteI (e.at 42 _ rfl rfl) rfl rfl rfl
  have e66 : σ.ival 66 = (bif σ.bval 45 then σ.ival 54 else σ.ival 39) := eqIteI (e.at 43 _ rfl rfl) rfl rfl rfl
  have e67 : σ.ival 67 = (bif σ.bval 45 then σ.ival 55 else σ.ival 40) := eqIteI (e.at 44 _ rfl rfl) rfl rfl rfl
  have e68 : σ.ival 68 = (bif σ.bval 45 then σ.ival 19 else σ.ival 58) := eqIteI (e.at 45 _ rfl rfl) rfl rfl rfl
  have e69 : σ.ival 69 = (bif σ.bval 41 then 0 else σ.ival 20) := eqIteI (e.at 46 _ rfl rfl) rfl rfl rfl
  have e70 : σ.ival 70 = (bif σ.bval 42 then 0 else σ.ival 69) := eqIteI (e.at 47 _ rfl rfl) rfl rfl rfl
  have c70 : σ.ival 70 = σ.ival 44 := by rw [e70, e69, e44, e43]; cases σ.bval 41 <;> cases σ.bval 42 <;> rfl
  have c58 : σ.ival 58 = σ.ival 68 := by
    rw [e68, e58]
    cases h : σ.bval 45
    · rfl
    · rw [e45, beq_iff_eq] at h
      rw [e57, h]; rfl
  unfold numsOf uwriteA uwriteB
  simp only [List.map_cons, List.map_nil, den, numS, c58, c70]
theorem uwrite_contract0 : FnOk Try.prog 22 writeI writeO uwriteF :=
  dag_contract (X := uwriteX) (cs := uwriteA) (cs1 := uwriteA) 12 mixed ⟨rfl, rfl, rfl, rfl, rfl⟩ uwrite_ok uwrite_lt (fun F => tbl_hooks uwrite_lt rfl rfl up_all F) uwrite_run0 (by kernel_rfl) (by kernel_rfl) (fun σ _ _ _ => rfl)
theorem uwrite_contract1 : FnOk Try.prog 60 writeI writeO uwriteF :=
  dag_contract (X := uwriteX) (cs := uwriteB) (cs1 := uwriteA) 12 mixed ⟨rfl, rfl, rfl, rfl, rfl⟩ uwrite_ok uwrite_lt (fun F => tbl_hooks uwrite_lt rfl rfl up_all F) uwrite_run1 (by kernel_rfl) (by kernel_rfl) (fun σ e ht hin => uwrite_eq σ e ht hin)

set_option maxRecDepth 100000 in
def uarriveG : List SDef := [.fn 0 .i64 [.symi .i64 0, .symi .u8 1, .symi .u8 2, .symi .u8 3, .symi .u8 4, .symi .u8 5, .symi .u8 6, .symi .u8 7, .symi .u8 8],
  .fn 1 .u8 [.symi .i64 0, .symi .u8 1, .symi .u8 2, .symi .u8 3, .symi .u8 4, .symi .u8 5, .symi .u8 6, .symi .u8 7, .symi .u8 8],
  .fn 2 .u8 [.symi .i64 0, .symi .u8 1, .symi .u8 2, .symi .u8 3, .symi .u8 4, .symi .u8 5, .symi .u8 6, .symi .u8 7, .symi .u8 8],
  .fn 3 .u8 [.symi .i64 0, .symi .u8 1, .symi .u8 2, .symi .u8 3, .symi .u8 4, .symi .u8 5, .symi .u8 6, .symi .u8 7, .symi .u8 8],
  .fn 4 .u8 [.symi .i64 0, .symi .u8 1, .symi .u8 2, .symi .u8 3, .symi .u8 4, .symi .u8 5, .symi .u8 6, .symi .u8 7, .symi .u8 8],
  .fn 5 .u8 [.symi .i64 0, .symi .u8 1, .symi .u8 2, .symi .u8 3, .symi .u8 4, .symi .u8 5, .symi .u8 6, .symi .u8 7, .symi .u8 8],
  .fn 6 .u8 [.symi .i64 0, .symi .u8 1, .symi .u8 2, .symi .u8 3, .symi .u8 4, .symi .u8 5, .symi .u8 6, .symi .u8 7, .symi .u8 8],
  .fn 7 .u8 [.symi .i64 0, .symi .u8 1, .symi .u8 2, .symi .u8 3, .symi .u8 4, .symi .u8 5, .symi .u8 6, .symi .u8 7, .symi .u8 8],
  .fn 8 .u8 [.symi .i64 0, .symi .u8 1, .symi .u8 2, .symi .u8 3, .symi .u8 4, .symi .u8 5, .symi .u8 6, .symi .u8 7, .symi .u8 8],
  .fn 0 .i64 [.symi .i64 9, .symi .u8 10, .symi .u8 11, .symi .u8 12, .symi .u8 13, .symi .u8 14, .symi .u8 15, .symi .u8 16, .symi .u8 17],
  .fn 1 .u8 [.symi .i64 9, .symi .u8 10, .symi .u8 11, .symi .u8 12, .symi .u8 13, .symi .u8 14, .symi .u8 15, .symi .u8 16, .symi .u8 17],
  .fn 2 .u8 [.symi .i64 9, .symi .u8 10, .symi .u8 11, .symi .u8 12, .symi .u8 13, .symi .u8 14, .symi .u8 15, .symi .u8 16, .symi .u8 17],
  .fn 3 .u8 [.symi .i64 9, .symi .u8 10, .symi .u8 11, .symi .u8 12, .symi .u8 13, .symi .u8 14, .symi .u8 15, .symi .u8 16, .symi .u8 17],
  .fn 4 .u8 [.symi .i64 9, .symi .u8 10, .symi .u8 11, .symi .u8 12, .symi .u8 13, .symi .u8 14, .symi .u8 15, .symi .u8 16, .symi .u8 17],
  .fn 5 .u8 [.symi .i64 9, .symi .u8 10, .symi .u8 11, .symi .u8 12, .symi .u8 13, .symi .u8 14, .symi .u8 15, .symi .u8 16, .symi .u8 17],
  .fn 6 .u8 [.symi .i64 9, .symi .u8 10, .symi .u8 11, .symi .u8 12, .symi .u8 13, .symi .u8 14, .symi .u8 15, .symi .u8 16, .symi .u8 17],
  .fn 7 .u8 [.symi .i64 9, .symi .u8 10, .symi .u8 11, .symi .u8 12, .symi .u8 13, .symi .u8 14, .symi .u8 15, .symi .u8 16, .symi .u8 17],
  .fn 8 .u8 [.symi .i64 9, .symi .u8 10, .symi .u8 11, .symi .u8 12, .symi .u8 13, .symi .u8 14, .symi .u8 15, .symi .u8 16, .symi .u8 17],
  .bin .eql (.symi .i64 31) (.int .i64 0),
  .bin .geq (.symi .u8 20) (.int .u8 4),
  .ite (.symb 41) (.int .u8 0) (.symi .u8 20),
  .ite (.symb 40) (.int .u8 0) (.symi .u8 42),
  .fn 64 .i64 [.symi .i64 22, .symi .u8 23, .symi .u8 24, .symi .u8 25, .symi .u8 26, .symi .u8 27, .symi .u8 28, .symi .u8 29, .symi .u8 30, .symi .u8 21],
  .fn 65 .u8 [.symi .i64 22, .symi .u8 23, .symi .u8 24, .symi .u8 25, .symi .u8 26, .symi .u8 27, .symi .u8 28, .symi .u8 29, .symi .u8 30, .symi .u8 21],
  .fn 66 .u8 [.symi .i64 22, .symi .u8 23, .symi .u8 24, .symi .u8 25, .symi .u8 26, .symi .u8 27, .symi .u8 28, .symi .u8 29, .symi .u8 30, .symi .u8 21],
  .fn 67 .u8 [.symi .i64 22, .symi .u8 23, .symi .u8 24, .symi .u8 25, .symi .u8 26, .symi .u8 27, .symi .u8 28, .symi .u8 29, .symi .u8 30, .symi .u8 21],
  .fn 68 .u8 [.symi .i64 22, .symi .u8 23, .symi .u8 24, .symi .u8 25, .symi .u8 26, .symi .u8 27, .symi .u8 28, .symi .u8 29, .symi .u8 30, .symi .u8 21],
  .fn 69 .u8 [.symi .i64 22, .symi .u8 23, .symi .u8 24, .symi .u8 25, .symi .u8 26, .symi .u8 27, .symi .u8 28, .symi .u8 29, .symi .u8 30, .symi .u8 21],
  .fn 70 .u8 [.symi .i64 22, .symi .u8 23, .symi .u8 24, .symi .u8 25, .symi .u8 26, .symi .u8 27, .symi .u8 28, .symi .u8 29, .symi .u8 30, .symi .u8 21],
  .fn 71 .u8 [.symi .i64 22, .symi .u8 23, .symi .u8 24, .symi .u8 25, .symi .u8 26, .symi .u8 27, .symi .u8 28, .symi .u8 29, .symi .u8 30, .symi .u8 21],
  .fn 72 .u8 [.symi .i64 22, .symi .u8 23, .symi .u8 24, .symi .u8 25, .symi .u8 26, .symi .u8 27, .symi .u8 28, .symi .u8 29, .symi .u8 30, .symi .u8 21],
  .fnb 73 [.symi .i64 22, .symi .u8 23, .symi .u8 24, .symi .u8 25, .symi .u8 26, .symi .u8 27, .symi .u8 28, .symi .u8 29, .symi .u8 30, .symi .u8 21],
  .un .not (.symb 53),
  .bin .and (.symi .u8 19) (.int .u8 1),
  .bin .neq (.symi .u8 55) (.int .u8 0),
  .ite (.symb 53) (.symb 56) (.bool false),
  .ite (.symb 18) (.bool true) (.symb 54),
  .ite (.symb 40) (.int .u8 0) (.symi .u8 20),
  .ite (.symb 41) (.int .u8 0) (.symi .u8 59),
  .bin .eql (.symi .u8 55) (.int .u8 1),
  .ite (.symb 54) (.symi .i64 22) (.symi .i64 44),
  .ite (.symb 54) (.symi .u8 23) (.symi .u8 45),
  .ite (.symb 54) (.symi .u8 24) (.symi .u8 46),
  .ite (.symb 54) (.symi .u8 25) (.symi .u8 47),
  .ite (.symb 54) (.symi .u8 26) (.symi .u8 48),
  .ite (.symb 54) (.symi .u8 27) (.symi .u8 49),
  .ite (.symb 54) (.symi .u8 28) (.symi .u8 50),
  .ite (.symb 54) (.symi .u8 29) (.symi .u8 51),
  .ite (.symb 54) (.symi .u8 30) (.symi .u8 52),
  .ite (.symb 54) (.bool true) (.symb 18),
  .ite (.symb 54) (.bool false) (.symb 61)]

set_option maxRecDepth 100000 in
def uarriveT : LT := .n (.n (.n (.n (.n (.n (.e) 74671039 65 (.ite (.symb 54) (.symi .u8 25) (.symi .u8 47)) (.e)) 91044045 43 (.ite (.symb 40) (.int .u8 0) (.symi .u8 42)) (.n (.e) 129264147 42 (.ite (.symb 41) (.int .u8 0) (.symi .u8 20)) (.e))) 186317931 56 (.bin .neq (.symi .u8 55) (.int .u8 0)) (.n (.n (.e) 186367959 61 (.bin .eql (.symi .u8 55) (.int .u8 1)) (.e)) 200932812 69 (.ite (.symb 54) (.symi .u8 29) (.symi .u8 51)) (.e))) 248410166 62 (.ite (.symb 54) (.symi .i64 22) (.symi .i64 44)) (.n (.n (.n (.e) 374671939 66 (.ite (.symb 54) (.symi .u8 26) (.symi .u8 48)) (.e)) 375727183 31 (.fn 0 .i64 [.symi .i64 9, .symi .u8 10, .symi .u8 11, .symi .u8 12, .symi .u8 13, .symi .u8 14, .symi .u8 15, .symi .u8 16, .symi .u8 17]) (.e)) 375727226 32 (.fn 1 .u8 [.symi .i64 9, .symi .u8 10, .symi .u8 11, .symi .u8 12, .symi .u8 13, .symi .u8 14, .symi .u8 15, .symi .u8 16, .symi .u8 17]) (.n (.n (.e) 375727269 33 (.fn 2 .u8 [.symi .i64 9, .symi .u8 10, .symi .u8 11, .symi .u8 12, .symi .u8 13, .symi .u8 14, .symi .u8 15, .symi .u8 16, .symi .u8 17]) (.e)) 375727312 34 (.fn 3 .u8 [.symi .i64 9, .symi .u8 10, .symi .u8 11, .symi .u8 12, .symi .u8 13, .symi .u8 14, .symi .u8 15, .symi .u8 16, .symi .u8 17]) (.e)))) 375727355 35 (.fn 4 .u8 [.symi .i64 9, .symi .u8 10, .symi .u8 11, .symi .u8 12, .symi .u8 13, .symi .u8 14, .symi .u8 15, .symi .u8 16, .symi .u8 17]) (.n (.n (.n (.n (.e) 375727398 36 (.fn 5 .u8 [.symi .i64 9, .symi .u8 10, .symi .u8 11, .symi .u8 12, .symi .u8 13, .symi .u8 14, .symi .u8 15, .symi .u8 16, .symi .u8 17]) (.e)) 375727441 37 (.fn 6 .u8 [.symi .i64 9, .symi .u8 10, .symi .u8 11, .symi .u8 12, .symi .u8 13, .symi .u8 14, .symi .u8 15, .symi .u8 16, .symi .u8 17]) (.n (.e) 375727484 38 (.fn 7 .u8 [.symi .i64 9, .symi .u8 10, .symi .u8 11, .symi .u8 12, .symi .u8 13, .symi .u8 14, .symi .u8 15, .symi .u8 16, .symi .u8 17]) (.e))) 375727527 39 (.fn 8 .u8 [.symi .i64 9, .symi .u8 10, .symi .u8 11, .symi .u8 12, .symi .u8 13, .symi .u8 14, .symi .u8 15, .symi .u8 16, .symi .u8 17]) (.n (.n (.e) 485560756 22 (.fn 0 .i64 [.symi .i64 0, .symi .u8 1, .symi .u8 2, .symi .u8 3, .symi .u8 4, .symi .u8 5, .symi .u8 6, .symi .u8 7, .symi .u8 8]) (.e)) 485560799 23 (.fn 1 .u8 [.symi .i64 0, .symi .u8 1, .symi .u8 2, .symi .u8 3, .symi .u8 4, .symi .u8 5, .symi .u8 6, .symi .u8 7, .symi .u8 8]) (.e))) 485560842 24 (.fn 2 .u8 [.symi .i64 0, .symi .u8 1, .symi .u8 2, .symi .u8 3, .symi .u8 4, .symi .u8 5, .symi .u8 6, .symi .u8 7, .symi .u8 8]) (.n (.n (.n (.e) 485560885 25 (.fn 3 .u8 [.symi .i64 0, .symi .u8 1, .symi .u8 2, .symi .u8 3, .symi .u8 4, .symi .u8 5, .symi .u8 6, .symi .u8 7, .symi .u8 8]) (.e)) 485560928 26 (.fn 4 .u8 [.symi .i64 0, .symi .u8 1, .symi .u8 2, .symi .u8 3, .symi .u8 4, .symi .u8 5, .symi .u8 6, .symi .u8 7, .symi .u8 8]) (.e)) 485560971 27 (.fn 5 .u8 [.symi .i64 0, .symi .u8 1, .symi .u8 2, .symi .u8 3, .symi .u8 4, .symi .u8 5, .symi .u8 6, .symi .u8 7, .symi .u8 8]) (.n (.n (.e) 485561014 28 (.fn 6 .u8 [.symi .i64 0, .symi .u8 1, .symi .u8 2, .symi .u8 3, .symi .u8 4, .symi .u8 5, .symi .u8 6, .symi .u8 7, .symi .u8 8]) (.e)) 485561057 29 (.fn 7 .u8 [.symi .i64 0, .symi .u8 1, .symi .u8 2, .symi .u8 3, .symi .u8 4, .symi .u8 5, .symi .u8 6, .symi .u8 7, .symi .u8 8]) (.e))))) 485561100 30 (.fn 8 .u8 [.symi .i64 0, .symi .u8 1, .symi .u8 2, .symi .u8 3, .symi .u8 4, .symi .u8 5, .symi .u8 6, .symi .u8 7, .symi .u8 8]) (.n (.n (.n (.n (.n (.e) 488917047 44 (.fn 64 .i64 [.symi .i64 22, .symi .u8 23, .symi .u8 24, .symi .u8 25, .symi .u8 26, .symi .u8 27, .symi .u8 28, .symi .u8 29, .symi .u8 30, .symi .u8 21]) (.e)) 488917090 45 (.fn 65 .u8 [.symi .i64 22, .symi .u8 23, .symi .u8 24, .symi .u8 25, .symi .u8 26, .symi .u8 27, .symi .u8 28, .symi .u8 29, .symi .u8 30, .symi .u8 21]) (.n (.e) 488917133 46 (.fn 66 .u8 [.symi .i64 22, .symi .u8 23, .symi .u8 24, .symi .u8 25, .symi .u8 26, .symi .u8 27, .symi .u8 28, .symi .u8 29, .symi .u8 30, .symi .u8 21]) (.e))) 488917176 47 (.fn 67 .u8 [.symi .i64 22, .symi .u8 23, .symi .u8 24, .symi .u8 25, .symi .u8 26, .symi .u8 27, .symi .u8 28, .symi .u8 29, .symi .u8 30, .symi .u8 21]) (.n (.n (.e) 488917219 48 (.fn 68 .u8 [.symi .i64 22, .symi .u8 23, .symi .u8 24, .symi .u8 25, .symi .u8 26, .symi .u8 27, .symi .u8 28, .symi .u8 29, .symi .u8 30, .symi .u8 21]) (.e)) 488917262 49 (.fn 69 .u8 [.symi .i64 22, .symi .u8 23, .symi .u8 24, .symi .u8 25, .symi .u8 26, .symi .u8 27, .symi .u8 28, .symi .u8 29, .symi .u8 30, .symi .u8 21]) (.e))) 488917305 50 (.fn 70 .u8 [.symi .i64 22, .symi .u8 23, .symi .u8 24, .symi .u8 25, .symi .u8 26, .symi .u8 27, .symi .u8 28, .symi .u8 29, .symi .u8 30, .symi .u8 21]) (.n (.n (.n (.e) 488917348 51 (.fn 71 .u8 [.symi .i64 22, .symi .u8 23, .symi .u8 24, .symi .u8 25, .symi .u8 26, .symi .u8 27, .symi .u8 28, .symi .u8 29, .symi .u8 30, .symi .u8 21]) (.e)) 488917391 52 (.fn 72 .u8 [.symi .i64 22, .symi .u8 23, .symi .u8 24, .symi .u8 25, .symi .u8 26, .symi .u8 27, .symi .u8 28, .symi .u8 29, .symi .u8 30, .symi .u8 21]) (.e)) 494918190 53 (.fnb 73 [.symi .i64 22, .symi .u8 23, .symi .u8 24, .symi .u8 25, .symi .u8 26, .symi .u8 27, .symi .u8 28, .symi .u8 29, .symi .u8 30, .symi .u8 21]) (.n (.n (.e) 500933712 70 (.ite (.symb 54) (.symi .u8 30) (.symi .u8 52)) (.e)) 548411066 63 (.ite (.symb 54) (.symi .u8 23) (.symi .u8 45)) (.e)))) 560664977 71 (.ite (.symb 54) (.bool true) (.symb 18)) (.n (.n (.n (.n (.e) 611428880 72 (.ite (.symb 54) (.bool false) (.symb 61)) (.e)) 649572679 60 (.ite (.symb 41) (.int .u8 0) (.symi .u8 59)) (.n (.e) 674672839 67 (.ite (.symb 54) (.symi .u8 27) (.symi .u8 49)) (.e))) 679137529 57 (.ite (.symb 53) (.symb 56) (.bool false)) (.n (.n (.e) 845324317 55 (.bin .and (.symi .u8 19) (.int .u8 1)) (.e)) 848411966 64 (.ite (.symb 54) (.symi .u8 24) (.symi .u8 46)) (.e))) 946474802 41 (.bin .geq (.symi .u8 20) (.int .u8 4)) (.n (.n (.n (.e) 974673739 68 (.ite (.symb 54) (.symi .u8 28) (.symi .u8 50)) (.e)) 983536133 40 (.bin .eql (.symi .i64 31) (.int .i64 0)) (.e)) 992679233 58 (.ite (.symb 18) (.bool true) (.symb 54)) (.n (.n (.e) 1058210067 54 (.un .not (.symb 53)) (.e)) 1064001387 59 (.ite (.symb 40) (.int .u8 0) (.symi .u8 20)) (.e)))))

def uarriveX : Ing := { m := 22, ins := (cellsOf arriveI).map kindC, G := uarriveG, T := uarriveT, hook := tblHook (tabOf upFs) upTbl, tab := tabOf upFs }
def uarriveA : List AVal := [.symi .i64 44, .symi .u8 45, .symi .u8 46, .symi .u8 47, .symi .u8 48, .symi .u8 49, .symi .u8 50, .symi .u8 51, .symi .u8 52, .symi .i64 31, .symi .u8 32, .symi .u8 33, .symi .u8 34, .symi .u8 35, .symi .u8 36, .symi .u8 37, .symi .u8 38, .symi .u8 39, .symb 58, .symi .u8 19, .symi .u8 43, .symb 57]
def uarriveB : List AVal := [.symi .i64 62, .symi .u8 63, .symi .u8 64, .symi .u8 65, .symi .u8 66, .symi .u8 67, .symi .u8 68, .symi .u8 69, .symi .u8 70, .symi .i64 31, .symi .u8 32, .symi .u8 33, .symi .u8 34, .symi .u8 35, .symi .u8 36, .symi .u8 37, .symi .u8 38, .symi .u8 39, .symb 71, .symi .u8 19, .symi .u8 60, .symb 72]
def uarriveF : List Int → List Int := dagF (tabOf upFs) 22 uarriveG uarriveA
theorem uarrive_ok : okG uarriveG 22 = true := by kernel_rfl
theorem uarrive_lt : okLT 22 uarriveG uarriveT = true := by kernel_rfl
theorem uarrive_run0 : okW (fun F => (evD Try.prog (cxOf uarriveX) true 1000 40).1 F 20 (symSh arriveI 0) ⟨[], []⟩) (.run (.leaf (.tuple [.agg [.symi .i64 44, .symi .u8 45, .symi .u8 46, .symi .u8 47, .symi .u8 48, .symi .u8 49, .symi .u8 50, .symi .u8 51, .symi .u8 52, .symi .i64 31, .symi .u8 32, .symi .u8 33, .symi .u8 34, .symi .u8 35, .symi .u8 36, .symi .u8 37, .symi .u8 38, .symi .u8 39, .symb 58, .symi .u8 19, .symi .u8 43], .symb 57]))) [] = true := by kernel_rfl
theorem uarrive_run1 : okW (fun F => (evD Try.prog (cxOf uarriveX) true 1000 40).1 F 57 (symSh arriveI 0) ⟨[], []⟩) (.run (.leaf (.tuple [.agg [.symi .i64 62, .symi .u8 63, .symi .u8 64, .symi .u8 65, .symi .u8 66, .symi .u8 67, .symi .u8 68, .symi .u8 69, .symi .u8 70, .symi .i64 31, .symi .u8 32, .symi .u8 33, .symi .u8 34, .symi .u8 35, .symi .u8 36, .symi .u8 37, .symi .u8 38, .symi .u8 39, .symb 71, .symi .u8 19, .symi .u8 60], .symb 72]))) [] = true := by kernel_rfl
set_option maxRecDepth 100000 in
theorem uarrive_eq (σ : Sig) (e : Eqs σ 22 uarriveG) (ht : σ.tab = tabOf upFs) (hin : InsOk σ 22 ((cellsOf arriveI).map kindC)) : numsOf σ uarriveB = numsOf σ uarriveA := by
  have e22 : σ.ival 22 = IntKind.i64.wrap (σ.tab 0 [σ.ival 0, σ.ival 1, σ.ival 2, σ.ival 3, σ.ival 4, σ.ival 5, σ.ival 6, σ.ival 7, σ.ival 8]) := eqI (e.at 0 _ rfl rfl) rfl
  have e23 : σ.ival 23 = IntKind.u8.wrap (σ.tab 1 [σ.ival 0, σ.ival 1, σ.ival 2, σ.ival 3, σ.ival 4, σ.ival 5, σ.ival 6, σ.ival 7, σ.ival 8]) := eqI (e.at 1 _ rfl rfl) rfl
  have e24 : σ.ival 24 = IntKind.u8.wrap (σ.tab 2 [σ.ival 0, σ.ival 1, σ.ival 2, σ.ival 3, σ.ival 4, σ.ival 5, σ.ival 6, σ.ival 7, σ.ival 8]) := eqI (e.at 2 _ rfl rfl) rfl
  have e25 : σ.ival 25 = IntKind.u8.wrap (σ.tab 3 [σ.ival 0, σ.ival 1, σ.ival 2, σ.ival 3, σ.ival 4, σ.ival 5, σ.ival 6, σ.ival 7, σ.ival 8]) := eqI (e.at 3 _ rfl rfl) rfl
  have e26 : σ.ival 26 = IntKind.u8.wrap (σ.tab 4 [σ.ival 0, σ.ival 1, σ.ival 2, σ.ival 3, σ.ival 4, σ.ival 5, σ.ival 6, σ.ival 7, σ.ival 8]) := eqI (e.at 4 _ rfl rfl) rfl
  have e27 : σ.ival 27 = IntKind.u8.wrap (σ.tab 5 [σ.ival 0, σ.ival 1, σ.ival 2, σ.ival 3, σ.ival 4, σ.ival 5, σ.ival 6, σ.ival 7, σ.ival 8]) := eqI (e.at 5 _ rfl rfl) rfl
  have e28 : σ.ival 28 = IntKind.u8.wrap (σ.tab 6 [σ.ival 0, σ.ival 1, σ.ival 2, σ.ival 3, σ.ival 4, σ.ival 5, σ.ival 6, σ.ival 7, σ.ival 8]) := eqI (e.at 6 _ rfl rfl) rfl
  have e29 : σ.ival 29 = IntKind.u8.wrap (σ.tab 7 [σ.ival 0, σ.ival 1, σ.ival 2, σ.ival 3, σ.ival 4, σ.ival 5, σ.ival 6, σ.ival 7, σ.ival 8]) := eqI (e.at 7 _ rfl rfl) rfl
  have e30 : σ.ival 30 = IntKind.u8.wrap (σ.tab 8 [σ.ival 0, σ.ival 1, σ.ival 2, σ.ival 3, σ.ival 4, σ.ival 5, σ.ival 6, σ.ival 7, σ.ival 8]) := eqI (e.at 8 _ rfl rfl) rfl
  have e31 : σ.ival 31 = IntKind.i64.wrap (σ.tab 0 [σ.ival 9, σ.ival 10, σ.ival 11, σ.ival 12, σ.ival 13, σ.ival 14, σ.ival 15, σ.ival 16, σ.ival 17]) := eqI (e.at 9 _ rfl rfl) rfl
  have e32 : σ.ival 32 = IntKind.u8.wrap (σ.tab 1 [σ.ival 9, σ.ival 10, σ.ival 11, σ.ival 12, σ.ival 13, σ.ival 14, σ.ival 15, σ.ival 16, σ.ival 17]) := eqI (e.at 10 _ rfl rfl) rfl
  have e33 : σ.ival 33 = IntKind.u8.wrap (σ.tab 2 [σ.ival 9, σ.ival 10, σ.ival 11, σ.ival 12, σ.ival 13, σ.ival 14, σ.ival 15, σ.ival 16, σ.ival 17]) := eqI (e.at 11 _ rfl rfl) rfl
  have e34 : σ.ival 34 = IntKind.u8.wrap (σ.tab 3 [σ.ival 9, σ.ival 10, σ.ival 11, σ.ival 12, σ.ival 13, σ.ival 14, σ.ival 15, σ.ival 16, σ.ival 17]) := eqI (e.at 12 _ rfl rfl) rfl
  have e35 : σ.ival 35 = IntKind.u8.wrap (σ.tab 4 [σ.ival 9, σ.ival 10, σ.ival 11, σ.ival 12, σ.ival 13, σ.ival 14, σ.ival 15, σ.ival 16, σ.ival 17]) := eqI (e.at 13 _ rfl rfl) rfl
  have e36 : σ.ival 36 = IntKind.u8.wrap (σ.tab 5 [σ.ival 9, σ.ival 10, σ.ival 11, σ.ival 12, σ.ival 13, σ.ival 14, σ.ival 15, σ.ival 16, σ.ival 17]) := eqI (e.at 14 _ rfl rfl) rfl
  have e37 : σ.ival 37 = IntKind.u8.wrap (σ.tab 6 [σ.ival 9, σ.ival 10, σ.ival 11, σ.ival 12, σ.ival 13, σ.ival 14, σ.ival 15, σ.ival 16, σ.ival 17]) := eqI (e.at 15 _ rfl rfl) rfl
  have e38 : σ.ival 38 = IntKind.u8.wrap (σ.tab 7 [σ.ival 9, σ.ival 10, σ.ival 11, σ.ival 12, σ.ival 13, σ.ival 14, σ.ival 15, σ.ival 16, σ.ival 17]) := eqI (e.at 16 _ rfl rfl) rfl
  have e39 : σ.ival 39 = IntKind.u8.wrap (σ.tab 8 [σ.ival 9, σ.ival 10, σ.ival 11, σ.ival 12, σ.ival 13, σ.ival 14, σ.ival 15, σ.ival 16, σ.ival 17]) := eqI (e.at 17 _ rfl rfl) rfl
  have e40 : σ.bval 40 = (σ.ival 31 == 0) := eqB (e.at 18 _ rfl rfl) rfl
  have e41 : σ.bval 41 = decide (σ.ival 20 ≥ 4) := eqB (e.at 19 _ rfl rfl) rfl
  have e42 : σ.ival 42 = (bif σ.bval 41 then 0 else σ.ival 20) := eqIteI (e.at 20 _ rfl rfl) rfl rfl rfl
  have e43 : σ.ival 43 = (bif σ.bval 40 then 0 else σ.ival 42) := eqIteI (e.at 21 _ rfl rfl) rfl rfl rfl
  have e44 : σ.ival 44 = IntKind.i64.wrap (σ.tab 64 [σ.ival 22, σ.ival 23, σ.ival 24, σ.ival 25, σ.ival 26, σ.ival 27, σ.ival 28, σ.ival 29, σ.ival 30, σ.ival 21]) := eqI (e.at 22 _ rfl rfl) rfl
  have e45 : σ.ival 45 = IntKind.u8.wrap (σ.tab 65 [σ.ival 22, σ.ival 23, σ.ival 24, σ.ival 25, σ.ival 26, σ.ival 27, σ.ival 28, σ.ival 29, σ.ival 30, σ.ival 21]) := eqI (e.at 23 _ rfl rfl) rfl
  have e46 : σ.ival 46 = IntKind.u8.wrap (σ.tab 66 [σ.ival 22, σ.ival 23, σ.ival 24, σ.ival 25, σ.ival 26, σ.ival 27, σ.ival 28, σ.ival 29, σ.ival 30, σ.ival 21]) := eqI (e.at 24 _ rfl rfl) rfl
  have e47 : σ.ival 47 = IntKind.u8.wrap (σ.tab 67 [σ.ival 22, σ.ival 23, σ.ival 24, σ.ival 25, σ.ival 26, σ.ival 27, σ.ival 28, σ.ival 29, σ.ival 30, σ.ival 21]) := eqI (e.at 25 _ rfl rfl) rfl
  have e48 : σ.ival 48 = IntKind.u8.wrap (σ.tab 68 [σ.ival 22, σ.ival 23, σ.ival 24, σ.ival 25, σ.ival 26, σ.ival 27, σ.ival 28, σ.ival 29, σ.ival 30, σ.ival 21]) := eqI (e.at 26 _ rfl rfl) rfl
  have e49 : σ.ival 49 = IntKind.u8.wrap (σ.tab 69 [σ.ival 22, σ.ival 23, σ.ival 24, σ.ival 25, σ.ival 26, σ.ival 27, σ.ival 28, σ.ival 29, σ.ival 30, σ.ival 21]) := eqI (e.at 27 _ rfl rfl) rfl
  have e50 : σ.ival 50 = IntKind.u8.wrap (σ.tab 70 [σ.ival 22, σ.ival 23, σ.ival 24, σ.ival 25, σ.ival 26, σ.ival 27, σ.ival 28, σ.ival 29, σ.ival 30, σ.ival 21]) := eqI (e.at 28 _ rfl rfl) rfl
  have e51 : σ.ival 51 = IntKind.u8.wrap (σ.tab 71 [σ.ival 22, σ.ival 23, σ.ival 24, σ.ival 25, σ.ival 26, σ.ival 27, σ.ival 28, σ.ival 29, σ.ival 30, σ.ival 21]) := eqI (e.at 29 _ rfl rfl) rfl
  have e52 : σ.ival 52 = IntKind.u8.wrap (σ.tab 72 [σ.ival 22, σ.ival 23, σ.ival 24, σ.ival 25, σ.ival 26, σ.ival 27, σ.ival 28, σ.ival 29, σ.ival 30, σ.ival 21]) := eqI (e.at 30 _ rfl rfl) rfl
  have e53 : σ.bval 53 = (!(σ.tab 73 [σ.ival 22, σ.ival 23, σ.ival 24, σ.ival 25, σ.ival 26, σ.ival 27, σ.ival 28, σ.ival 29, σ.ival 30, σ.ival 21] == 0)) := eqB (e.at 31 _ rfl rfl) rfl
  have e54 : σ.bval 54 = (!σ.bval 53) := eqB (e.at 32 _ rfl rfl) rfl
  have e55 : σ.ival 55 = IntKind.u8.wrap (BitVec.ofInt IntKind.u8.bits (σ.ival 19) &&& BitVec.ofInt IntKind.u8.bits (1)).toNat := eqI (e.at 33 _ rfl rfl) rfl
  have e56 : σ.bval 56 = (σ.ival 55 != 0) := eqB (e.at 34 _ rfl rfl) rfl
  have e57 : σ.bval 57 = (bif σ.bval 53 then σ.bval 56 else false) := eqIteB (e.at 35 _ rfl rfl) rfl rfl rfl
  have e58 : σ.bval 58 = (bif σ.bval 18 then true else σ.bval 54) := eqIteB (e.at 36 _ rfl rfl) rfl rfl rfl
  have e59 : σ.ival 59 = (bif σ.bval 40 then 0 else σ.ival 20) := eqIteI (e.at 37 _ rfl rfl) rfl rfl rfl
  have e60 : σ.ival 60 = (bif σ.bval 41 then 0 else σ.ival 59) := eqIteI (e.at 38 _ rfl rfl) rfl rfl rfl
  have e61 : σ.bval 61 = (σ.ival 55 == 1) := eqB (e.at 39 _ rfl rfl) rfl
  have e62 : σ.ival 62 = (bif σ.bval 54 then σ.ival 22 else σ.ival 44) := eqIteI (e.at 40 _ rfl rfl) rfl rfl rfl
  have e63 : σ.ival 63 = (bif σ.bval 54 then σ.ival 23 else σ.ival 45) := eqIteI (e.at 41 _ rfl rfl) rfl rfl rfl
  have e64 : σ.ival 64 = (bif σ.bval 54 then σ.ival 24 else σ.ival 46) := eqIteI (e.at 42 _ rfl rfl) rfl rfl rfl
  have e65 : σ.ival 65 = (bif σ.bval 54 then σ.ival 25 else σ.ival 47) := eqIteI (e.at 43 _ rfl rfl) rfl rfl rfl
  have e66 : σ.ival 66 = (bif σ.bval 54 then σ.ival 26 else σ.ival 48) := eqIteI (e.at 44 _ rfl rfl) rfl rfl rfl
  have e67 : σ.ival 67 = (bif σ.bval 54 then σ.ival 27 else σ.ival 49) := eqIteI (e.at 45 _ rfl rfl) rfl rfl rfl
  have e68 : σ.ival 68 = (bif σ.bval 54 then σ.ival 28 else σ.ival 50) := eqIteI (e.at 46 _ rfl rfl) rfl rfl rfl
  have e69 : σ.ival 69 = (bif σ.bval 54 then σ.ival 29 else σ.ival 51) := eqIteI (e.at 47 _ rfl rfl) rfl rfl rfl
  have e70 : σ.ival 70 = (bif σ.bval 54 then σ.ival 30 else σ.ival 52) := eqIteI (e.at 48 _ rfl rfl) rfl rfl rfl
  have e71 : σ.bval 71 = (bif σ.bval 54 then true else σ.bval 18) := eqIteB (e.at 49 _ rfl rfl) rfl rfl rfl
  have e72 : σ.bval 72 = (bif σ.bval 54 then false else σ.bval 61) := eqIteB (e.at 50 _ rfl rfl) rfl rfl rfl
  have w0 : IntKind.i64.wrap (σ.ival 0) = σ.ival 0 := hin 0 .i64 (by decide) rfl
  have w1 : IntKind.u8.wrap (σ.ival 1) = σ.ival 1 := hin 1 .u8 (by decide) rfl
  have w2 : IntKind.u8.wrap (σ.ival 2) = σ.ival 2 := hin 2 .u8 (by decide) rfl
  have w3 : IntKind.u8.wrap (σ.ival 3) = σ.ival 3 := hin 3 .u8 (by decide) rfl
  have w4 : IntKind.u8.wrap (σ.ival 4) = σ.ival 4 := hin 4 .u8 (by decide) rfl
  have w5 : IntKind.u8.wrap (σ.ival 5) = σ.ival 5 := hin 5 .u8 (by decide) rfl
  have w6 : IntKind.u8.wrap (σ.ival 6) = σ.ival 6 := hin 6 .u8 (by decide) rfl
  have w7 : IntKind.u8.wrap (σ.ival 7) = σ.ival 7 := hin 7 .u8 (by decide) rfl
  have w8 : IntKind.u8.wrap (σ.ival 8) = σ.ival 8 := hin 8 .u8 (by decide) rfl
  have m22 : σ.ival 22 = qk [σ.ival 0, σ.ival 1, σ.ival 2, σ.ival 3, σ.ival 4, σ.ival 5, σ.ival 6, σ.ival 7, σ.ival 8] := by rw [e22, ht]; exact qk_w [σ.ival 0, σ.ival 1, σ.ival 2, σ.ival 3, σ.ival 4, σ.ival 5, σ.ival 6, σ.ival 7, σ.ival 8]
  have m23 : σ.ival 23 = qb [σ.ival 0, σ.ival 1, σ.ival 2, σ.ival 3, σ.ival 4, σ.ival 5, σ.ival 6, σ.ival 7, σ.ival 8] 0 := by rw [e23, ht]; exact qb_w (l := [σ.ival 0, σ.ival 1, σ.ival 2, σ.ival 3, σ.ival 4, σ.ival 5, σ.ival 6, σ.ival 7, σ.ival 8]) 0 w1
  have m24 : σ.ival 24 = qb [σ.ival 0, σ.ival 1, σ.ival 2, σ.ival 3, σ.ival 4, σ.ival 5, σ.ival 6, σ.ival 7, σ.ival 8] 1 := by rw [e24, ht]; exact qb_w (l := [σ.ival 0, σ.ival 1, σ.ival 2, σ.ival 3, σ.ival 4, σ.ival 5, σ.ival 6, σ.ival 7, σ.ival 8]) 1 w2
  have m25 : σ.ival 25 = qb [σ.ival 0, σ.ival 1, σ.ival 2, σ.ival 3, σ.ival 4, σ.ival 5, σ.ival 6, σ.ival 7, σ.ival 8] 2 := by rw [e25, ht]; exact qb_w (l := [σ.ival 0, σ.ival 1, σ.ival 2, σ.ival 3, σ.ival 4, σ.ival 5, σ.ival 6, σ.ival 7, σ.ival 8]) 2 w3
  have m26 : σ.ival 26 = qb [σ.ival 0, σ.ival 1, σ.ival 2, σ.ival 3, σ.ival 4, σ.ival 5, σ.ival 6, σ.ival 7, σ.ival 8] 3 := by rw [e26, ht]; exact qb_w (l := [σ.ival 0, σ.ival 1, σ.ival 2, σ.ival 3, σ.ival 4, σ.ival 5, σ.ival 6, σ.ival 7, σ.ival 8]) 3 w4
  have m27 : σ.ival 27 = qb [σ.ival 0, σ.ival 1, σ.ival 2, σ.ival 3, σ.ival 4, σ.ival 5, σ.ival 6, σ.ival 7, σ.ival 8] 4 := by rw [e27, ht]; exact qb_w (l := [σ.ival 0, σ.ival 1, σ.ival 2, σ.ival 3, σ.ival 4, σ.ival 5, σ.ival 6, σ.ival 7, σ.ival 8]) 4 w5
  have m28 : σ.ival 28 = qb [σ.ival 0, σ.ival 1, σ.ival 2, σ.ival 3, σ.ival 4, σ.ival 5, σ.ival 6, σ.ival 7, σ.ival 8] 5 := by rw [e28, ht]; exact qb_w (l := [σ.ival 0, σ.ival 1, σ.ival 2, σ.ival 3, σ.ival 4, σ.ival 5, σ.ival 6, σ.ival 7, σ.ival 8]) 5 w6
  have m29 : σ.ival 29 = qb [σ.ival 0, σ.ival 1, σ.ival 2, σ.ival 3, σ.ival 4, σ.ival 5, σ.ival 6, σ.ival 7, σ.ival 8] 6 := by rw [e29, ht]; exact qb_w (l := [σ.ival 0, σ.ival 1, σ.ival 2, σ.ival 3, σ.ival 4, σ.ival 5, σ.ival 6, σ.ival 7, σ.ival 8]) 6 w7
  have m30 : σ.ival 30 = qb [σ.ival 0, σ.ival 1, σ.ival 2, σ.ival 3, σ.ival 4, σ.ival 5, σ.ival 6, σ.ival 7, σ.ival 8] 7 := by rw [e30, ht]; exact qb_w (l := [σ.ival 0, σ.ival 1, σ.ival 2, σ.ival 3, σ.ival 4, σ.ival 5, σ.ival 6, σ.ival 7, σ.ival 8]) 7 w8
  have c60 : σ.ival 60 = σ.ival 43 := by rw [e60, e59, e43, e42]; cases σ.bval 40 <;> cases σ.bval 41 <;> rfl
  have k22 : qk [σ.ival 22, σ.ival 23, σ.ival 24, σ.ival 25, σ.ival 26, σ.ival 27, σ.ival 28, σ.ival 29, σ.ival 30, σ.ival 21] = qk [σ.ival 0, σ.ival 1, σ.ival 2, σ.ival 3, σ.ival 4, σ.ival 5, σ.ival 6, σ.ival 7, σ.ival 8] := qk_of (l := [σ.ival 0, σ.ival 1, σ.ival 2, σ.ival 3, σ.ival 4, σ.ival 5, σ.ival 6, σ.ival 7, σ.ival 8]) (L := [σ.ival 22, σ.ival 23, σ.ival 24, σ.ival 25, σ.ival 26, σ.ival 27, σ.ival 28, σ.ival 29, σ.ival 30, σ.ival 21]) m22
  have hpush : σ.bval 53 = false → σ.ival 44 = σ.ival 22 ∧ σ.ival 45 = σ.ival 23 ∧ σ.ival 46 = σ.ival 24 ∧ σ.ival 47 = σ.ival 25 ∧ σ.ival 48 = σ.ival 26 ∧ σ.ival 49 = σ.ival 27 ∧ σ.ival 50 = σ.ival 28 ∧ σ.ival 51 = σ.ival 29 ∧ σ.ival 52 = σ.ival 30 := by
    intro h
    rw [e53, ht] at h
    replace h : (!((pushF [σ.ival 22, σ.ival 23, σ.ival 24, σ.ival 25, σ.ival 26, σ.ival 27, σ.ival 28, σ.ival 29, σ.ival 30, σ.ival 21]).getD 9 0 == 0)) = false := h
    by_cases k8 : qk [σ.ival 22, σ.ival 23, σ.ival 24, σ.ival 25, σ.ival 26, σ.ival 27, σ.ival 28, σ.ival 29, σ.ival 30, σ.ival 21] = 8
    · have hp : pushF [σ.ival 22, σ.ival 23, σ.ival 24, σ.ival 25, σ.ival 26, σ.ival 27, σ.ival 28, σ.ival 29, σ.ival 30, σ.ival 21] = [8, qb [σ.ival 22, σ.ival 23, σ.ival 24, σ.ival 25, σ.ival 26, σ.ival 27, σ.ival 28, σ.ival 29, σ.ival 30, σ.ival 21] 0, qb [σ.ival 22, σ.ival 23, σ.ival 24, σ.ival 25, σ.ival 26, σ.ival 27, σ.ival 28, σ.ival 29, σ.ival 30, σ.ival 21] 1, qb [σ.ival 22, σ.ival 23, σ.ival 24, σ.ival 25, σ.ival 26, σ.ival 27, σ.ival 28, σ.ival 29, σ.ival 30, σ.ival 21] 2, qb [σ.ival 22, σ.ival 23, σ.ival 24, σ.ival 25, σ.ival 26, σ.ival 27, σ.ival 28, σ.ival 29, σ.ival 30, σ.ival 21] 3, qb [σ.ival 22, σ.ival 23, σ.ival 24, σ.ival 25, σ.ival 26, σ.ival 27, σ.ival 28, σ.ival 29, σ.ival 30, σ.ival 21] 4, qb [σ.ival 22, σ.ival 23, σ.ival 24, σ.ival 25, σ.ival 26, σ.ival 27, σ.ival 28, σ.ival 29, σ.ival 30, σ.ival 21] 5, qb [σ.ival 22, σ.ival 23, σ.ival 24, σ.ival 25, σ.ival 26, σ.ival 27, σ.ival 28, σ.ival 29, σ.ival 30, σ.ival 21] 6, qb [σ.ival 22, σ.ival 23, σ.ival 24, σ.ival 25, σ.ival 26, σ.ival 27, σ.ival 28, σ.ival 29, σ.ival 30, σ.ival 21] 7, 0] := if_pos k8
      have k8' : qk [σ.ival 0, σ.ival 1, σ.ival 2, σ.ival 3, σ.ival 4, σ.ival 5, σ.ival 6, σ.ival 7, σ.ival 8] = 8 := k22.symm.trans k8
      have b0 : qb [σ.ival 22, σ.ival 23, σ.ival 24, σ.ival 25, σ.ival 26, σ.ival 27, σ.ival 28, σ.ival 29, σ.ival 30, σ.ival 21] 0 = σ.ival 23 := (qb_of (l := [σ.ival 0, σ.ival 1, σ.ival 2, σ.ival 3, σ.ival 4, σ.ival 5, σ.ival 6, σ.ival 7, σ.ival 8]) (L := [σ.ival 22, σ.ival 23, σ.ival 24, σ.ival 25, σ.ival 26, σ.ival 27, σ.ival 28, σ.ival 29, σ.ival 30, σ.ival 21]) 0 m22 m23).trans m23.symm
      have b1 : qb [σ.ival 22, σ.ival 23, σ.ival 24, σ.ival 25, σ.ival 26, σ.ival 27, σ.ival 28, σ.ival 29, σ.ival 30, σ.ival 21] 1 = σ.ival 24 := (qb_of (l := [σ.ival 0, σ.ival 1, σ.ival 2, σ.ival 3, σ.ival 4, σ.ival 5, σ.ival 6, σ.ival 7, σ.ival 8]) (L := [σ.ival 22, σ.ival 23, σ.ival 24, σ.ival 25, σ.ival 26, σ.ival 27, σ.ival 28, σ.ival 29, σ.ival 30, σ.ival 21]) 1 m22 m24).trans m24.symm
      have b2 : qb [σ.ival 22, σ.ival 23, σ.ival 24, σ.ival 25, σ.ival 26, σ.ival 27, σ.ival 28, σ.ival 29, σ.ival 30, σ.ival 21] 2 = σ.ival 25 := (qb_of (l := [σ.ival 0, σ.ival 1, σ.ival 2, σ.ival 3, σ.ival 4, σ.ival 5, σ.ival 6, σ.ival 7, σ.ival 8]) (L := [σ.ival 22, σ.ival 23, σ.ival 24, σ.ival 25, σ.ival 26, σ.ival 27, σ.ival 28, σ.ival 29, σ.ival 30, σ.ival 21]) 2 m22 m25).trans m25.symm
      have b3 : qb [σ.ival 22, σ.ival 23, σ.ival 24, σ.ival 25, σ.ival 26, σ.ival 27, σ.ival 28, σ.ival 29, σ.ival 30, σ.ival 21] 3 = σ.ival 26 := (qb_of (l := [σ.ival 0, σ.ival 1, σ.ival 2, σ.ival 3, σ.ival 4, σ.ival 5, σ.ival 6, σ.ival 7, σ.ival 8]) (L := [σ.ival 22, σ.ival 23, σ.ival 24, σ.ival 25, σ.ival 26, σ.ival 27, σ.ival 28, σ.ival 29, σ.ival 30, σ.ival 21]) 3 m22 m26).trans m26.symm
      have b4 : qb [σ.ival 22, σ.ival 23, σ.ival 24, σ.ival 25, σ.ival 26, σ.ival 27, σ.ival 28, σ.ival 29, σ.ival 30, σ.ival 21] 4 = σ.ival 27 := (qb_of (l := [σ.ival 0, σ.ival 1, σ.ival 2, σ.ival 3, σ.ival 4, σ.ival 5, σ.ival 6, σ.ival 7, σ.ival 8]) (L := [σ.ival 22, σ.ival 23, σ.ival 24, σ.ival 25, σ.ival 26, σ.ival 27, σ.ival 28, σ.ival 29, σ.ival 30, σ.ival 21]) 4 m22 m27).trans m27.symm
      have b5 : qb [σ.ival 22, σ.ival 23, σ.ival 24, σ.ival 25, σ.ival 26, σ.ival 27, σ.ival 28, σ.ival 29, σ.ival 30, σ.ival 21] 5 = σ.ival 28 := (qb_of (l := [σ.ival 0, σ.ival 1, σ.ival 2, σ.ival 3, σ.ival 4, σ.ival 5, σ.ival 6, σ.ival 7, σ.ival 8]) (L := [σ.ival 22, σ.ival 23, σ.ival 24, σ.ival 25, σ.ival 26, σ.ival 27, σ.ival 28, σ.ival 29, σ.ival 30, σ.ival 21]) 5 m22 m28).trans m28.symm
      have b6 : qb [σ.ival 22, σ.ival 23, σ.ival 24, σ.ival 25, σ.ival 26, σ.ival 27, σ.ival 28, σ.ival 29, σ.ival 30, σ.ival 21] 6 = σ.ival 29 := (qb_of (l := [σ.ival 0, σ.ival 1, σ.ival 2, σ.ival 3, σ.ival 4, σ.ival 5, σ.ival 6, σ.ival 7, σ.ival 8]) (L := [σ.ival 22, σ.ival 23, σ.ival 24, σ.ival 25, σ.ival 26, σ.ival 27, σ.ival 28, σ.ival 29, σ.ival 30, σ.ival 21]) 6 m22 m29).trans m29.symm
      have b7 : qb [σ.ival 22, σ.ival 23, σ.ival 24, σ.ival 25, σ.ival 26, σ.ival 27, σ.ival 28, σ.ival 29, σ.ival 30, σ.ival 21] 7 = σ.ival 30 := (qb_of (l := [σ.ival 0, σ.ival 1, σ.ival 2, σ.ival 3, σ.ival 4, σ.ival 5, σ.ival 6, σ.ival 7, σ.ival 8]) (L := [σ.ival 22, σ.ival 23, σ.ival 24, σ.ival 25, σ.ival 26, σ.ival 27, σ.ival 28, σ.ival 29, σ.ival 30, σ.ival 21]) 7 m22 m30).trans m30.symm
      refine ⟨?_, ?_, ?_, ?_, ?_, ?_, ?_, ?_, ?_⟩
      · rw [e44, ht]
        show IntKind.i64.wrap ((pushF [σ.ival 22, σ.ival 23, σ.ival 24, σ.ival 25, σ.ival 26, σ.ival 27, σ.ival 28, σ.ival 29, σ.ival 30, σ.ival 21]).getD 0 0) = _
        rw [hp, m22, k8']; rfl
      · rw [e45, ht]
        show IntKind.u8.wrap ((pushF [σ.ival 22, σ.ival 23, σ.ival 24, σ.ival 25, σ.ival 26, σ.ival 27, σ.ival 28, σ.ival 29, σ.ival 30, σ.ival 21]).getD 1 0) = _
        rw [hp]
        show IntKind.u8.wrap (qb [σ.ival 22, σ.ival 23, σ.ival 24, σ.ival 25, σ.ival 26, σ.ival 27, σ.ival 28, σ.ival 29, σ.ival 30, σ.ival 21] 0) = _
        rw [b0, m23]; exact qb_w (l := [σ.ival 0, σ.ival 1, σ.ival 2, σ.ival 3, σ.ival 4, σ.ival 5, σ.ival 6, σ.ival 7, σ.ival 8]) 0 w1
      · rw [e46, ht]
        show IntKind.u8.wrap ((pushF [σ.ival 22, σ.ival 23, σ.ival 24, σ.ival 25, σ.ival 26, σ.ival 27, σ.ival 28, σ.ival 29, σ.ival 30, σ.ival 21]).getD 2 0) = _
        rw [hp]
        show IntKind.u8.wrap (qb [σ.ival 22, σ.ival 23, σ.ival 24, σ.ival 25, σ.ival 26, σ.ival 27, σ.ival 28, σ.ival 29, σ.ival 30, σ.ival 21] 1) = _
        rw [b1, m24]; exact qb_w (l := [σ.ival 0, σ.ival 1, σ.ival 2, σ.ival 3, σ.ival 4, σ.ival 5, σ.ival 6, σ.ival 7, σ.ival 8]) 1 w2
      · rw [e47, ht]
        show IntKind.u8.wrap ((pushF [σ.ival 22, σ.ival 23, σ.ival 24, σ.ival 25, σ.ival 26, σ.ival 27, σ.ival 28, σ.ival 29, σ.ival 30, σ.ival 21]).getD 3 0) = _
        rw [hp]
        show IntKind.u8.wrap (qb [σ.ival 22, σ.ival 23, σ.ival 24, σ.ival 25, σ.ival 26, σ.ival 27, σ.ival 28, σ.ival 29, σ.ival 30, σ.ival 21] 2) = _
        rw [b2, m25]; exact qb_w (l := [σ.ival 0, σ.ival 1, σ.ival 2, σ.ival 3, σ.ival 4, σ.ival 5, σ.ival 6, σ.ival 7, σ.ival 8]) 2 w3
      · rw [e48, ht]
        show IntKind.u8.wrap ((pushF [σ.ival 22, σ.ival 23, σ.ival 24, σ.ival 25, σ.ival 26, σ.ival 27, σ.ival 28, σ.ival 29, σ.ival 30, σ.ival 21]).getD 4 0) = _
        rw [hp]
        show IntKind.u8.wrap (qb [σ.ival 22, σ.ival 23, σ.ival 24, σ.ival 25, σ.ival 26, σ.ival 27, σ.ival 28, σ.ival 29, σ.ival 30, σ.ival 21] 3) = _
        rw [b3, m26]; exact qb_w (l := [σ.ival 0, σ.ival 1, σ.ival 2, σ.ival 3, σ.ival 4, σ.ival 5, σ.ival 6, σ.ival 7, σ.ival 8]) 3 w4
      · rw [e49, ht]
        show IntKind.u8.wrap ((pushF [σ.ival 22, σ.ival 23, σ.ival 24, σ.ival 25, σ.ival 26, σ.ival 27, σ.ival 28, σ.ival 29, σ.ival 30, σ.ival 21]).getD 5 0) = _
        rw [hp]
        show IntKind.u8.wrap (qb [σ.ival 22, σ.ival 23, σ.ival 24, σ.ival 25, σ.ival 26, σ.ival 27, σ.ival 28, σ.ival 29, σ.ival 30, σ.ival 21] 4) = _
        rw [b4, m27]; exact qb_w (l := [σ.ival 0, σ.ival 1, σ.ival 2, σ.ival 3, σ.ival 4, σ.ival 5, σ.ival 6, σ.ival 7, σ.ival 8]) 4 w5
      · rw [e50, ht]
        show IntKind.u8.wrap ((pushF [σ.ival 22, σ.ival 23, σ.ival 24, σ.ival 25, σ.ival 26, σ.ival 27, σ.ival 28, σ.ival 29, σ.ival 30, σ.ival 21]).getD 6 0) = _
        rw [hp]
        show IntKind.u8.wrap (qb [σ.ival 22, σ.ival 23, σ.ival 24, σ.ival 25, σ.ival 26, σ.ival 27, σ.ival 28, σ.ival 29, σ.ival 30, σ.ival 21] 5) = _
        rw [b5, m28]; exact qb_w (l := [σ.ival 0, σ.ival 1, σ.ival 2, σ.ival 3, σ.ival 4, σ.ival 5, σ.ival 6, σ.ival 7, σ.ival 8]) 5 w6
      · rw [e51, ht]
        show IntKind.u8.wrap ((pushF [σ.ival 22, σ.ival 23, σ.ival 24, σ.ival 25, σ.ival 26, σ.ival 27, σ.ival 28, σ.ival 29, σ.ival 30, σ.ival 21]).getD 7 0) = _
        rw [hp]
        show IntKind.u8.wrap (qb [σ.ival 22, σ.ival 23, σ.ival 24, σ.ival 25, σ.ival 26, σ.ival 27, σ.ival 28, σ.ival 29, σ.ival 30, σ.ival 21] 6) = _
        rw [b6, m29]; exact qb_w (l := [σ.ival 0, σ.ival 1, σ.ival 2, σ.ival 3, σ.ival 4, σ.ival 5, σ.ival 6, σ.ival 7, σ.ival 8]) 6 w7
      · rw [e52, ht]
        show IntKind.u8.wrap ((pushF [σ.ival 22, σ.ival 23, σ.ival 24, σ.ival 25, σ.ival 26, σ.ival 27, σ.ival 28, σ.ival 29, σ.ival 30, σ.ival 21]).getD 8 0) = _
        rw [hp]
        show IntKind.u8.wrap (qb [σ.ival 22, σ.ival 23, σ.ival 24, σ.ival 25, σ.ival 26, σ.ival 27, σ.ival 28, σ.ival 29, σ.ival 30, σ.ival 21] 7) = _
        rw [b7, m30]; exact qb_w (l := [σ.ival 0, σ.ival 1, σ.ival 2, σ.ival 3, σ.ival 4, σ.ival 5, σ.ival 6, σ.ival 7, σ.ival 8]) 7 w8
    · have hp : pushF [σ.ival 22, σ.ival 23, σ.ival 24, σ.ival 25, σ.ival 26, σ.ival 27, σ.ival 28, σ.ival 29, σ.ival 30, σ.ival 21] = [qk [σ.ival 22, σ.ival 23, σ.ival 24, σ.ival 25, σ.ival 26, σ.ival 27, σ.ival 28, σ.ival 29, σ.ival 30, σ.ival 21] + 1, qp [σ.ival 22, σ.ival 23, σ.ival 24, σ.ival 25, σ.ival 26, σ.ival 27, σ.ival 28, σ.ival 29, σ.ival 30, σ.ival 21] ([σ.ival 22, σ.ival 23, σ.ival 24, σ.ival 25, σ.ival 26, σ.ival 27, σ.ival 28, σ.ival 29, σ.ival 30, σ.ival 21].getD 9 0) 0, qp [σ.ival 22, σ.ival 23, σ.ival 24, σ.ival 25, σ.ival 26, σ.ival 27, σ.ival 28, σ.ival 29, σ.ival 30, σ.ival 21] ([σ.ival 22, σ.ival 23, σ.ival 24, σ.ival 25, σ.ival 26, σ.ival 27, σ.ival 28, σ.ival 29, σ.ival 30, σ.ival 21].getD 9 0) 1, qp [σ.ival 22, σ.ival 23, σ.ival 24, σ.ival 25, σ.ival 26, σ.ival 27, σ.ival 28, σ.ival 29, σ.ival 30, σ.ival 21] ([σ.ival 22, σ.ival 23, σ.ival 24, σ.ival 25, σ.ival 26, σ.ival 27, σ.ival 28, σ.ival 29, σ.ival 30, σ.ival 21].getD 9 0) 2, qp [σ.ival 22, σ.ival 23, σ.ival 24, σ.ival 25, σ.ival 26, σ.ival 27, σ.ival 28, σ.ival 29, σ.ival 30, σ.ival 21] ([σ.ival 22, σ.ival 23, σ.ival 24, σ.ival 25, σ.ival 26, σ.ival 27, σ.ival 28, σ.ival 29, σ.ival 30, σ.ival 21].getD 9 0) 3, qp [σ.ival 22, σ.ival 23, σ.ival 24, σ.ival 25, σ.ival 26, σ.ival 27, σ.ival 28, σ.ival 29, σ.ival 30, σ.ival 21] ([σ.ival 22, σ.ival 23, σ.ival 24, σ.ival 25, σ.ival 26, σ.ival 27, σ.ival 28, σ.ival 29, σ.ival 30, σ.ival 21].getD 9 0) 4, qp [σ.ival 22, σ.ival 23, σ.ival 24, σ.ival 25, σ.ival 26, σ.ival 27, σ.ival 28, σ.ival 29, σ.ival 30, σ.ival 21] ([σ.ival 22, σ.ival 23, σ.ival 24, σ.ival 25, σ.ival 26, σ.ival 27, σ.ival 28, σ.ival 29, σ.ival 30, σ.ival 21].getD 9 0) 5, qp [σ.ival 22, σ.ival 23, σ.ival 24, σ.ival 25, σ.ival 26, σ.ival 27, σ.ival 28, σ.ival 29, σ.ival 30, σ.ival 21] ([σ.ival 22, σ.ival 23, σ.ival 24, σ.ival 25, σ.ival 26, σ.ival 27, σ.ival 28, σ.ival 29, σ.ival 30, σ.ival 21].getD 9 0) 6, qp [σ.ival 22, σ.ival 23, σ.ival 24, σ.ival 25, σ.ival 26, σ.ival 27, σ.ival 28, σ.ival 29, σ.ival 30, σ.ival 21] ([σ.ival 22, σ.ival 23, σ.ival 24, σ.ival 25, σ.ival 26, σ.ival 27, σ.ival 28, σ.ival 29, σ.ival 30, σ.ival 21].getD 9 0) 7, 1] := if_neg k8
      rw [hp] at h
      replace h : (!((1 : Int) == 0)) = false := h
      exact absurd h (by decide)
  have hc : σ.ival 62 = σ.ival 44 ∧ σ.ival 63 = σ.ival 45 ∧ σ.ival 64 = σ.ival 46 ∧ σ.ival 65 = σ.ival 47 ∧ σ.ival 66 = σ.ival 48 ∧ σ.ival 67 = σ.ival 49 ∧ σ.ival 68 = σ.ival 50 ∧ σ.ival 69 = σ.ival 51 ∧ σ.ival 70 = σ.ival 52 := by
    rw [e62, e63, e64, e65, e66, e67, e68, e69, e70, e54]
    cases h : σ.bval 53
    · obtain ⟨p0, p1, p2, p3, p4, p5, p6, p7, p8⟩ := hpush h
      exact ⟨p0.symm, p1.symm, p2.symm, p3.symm, p4.symm, p5.symm, p6.symm, p7.symm, p8.symm⟩
    · exact ⟨rfl, rfl, rfl, rfl, rfl, rfl, rfl, rfl, rfl⟩
  obtain ⟨c62, c63, c64, c65, c66, c67, c68, c69, c70⟩ := hc
  have c71 : σ.bval 71 = σ.bval 58 := by rw [e71, e58]; cases σ.bval 54 <;> cases σ.bval 18 <;> rfl
  have c61 : σ.bval 56 = σ.bval 61 := by
    rw [e56, e61, e55, and1]
    rcases Int.emod_two_eq (σ.ival 19) with h | h <;> rw [h] <;> rfl
  have c72 : σ.bval 72 = σ.bval 57 := by rw [e72, e57, e54, c61]; cases σ.bval 53 <;> rfl
  unfold numsOf uarriveA uarriveB
  simp only [List.map_cons, List.map_nil, den, numS, c62, c63, c64, c65, c66, c67, c68, c69, c70, c71, c60, c72]
theorem uarrive_contract0 : FnOk Try.prog 20 arriveI arriveO uarriveF :=
  dag_contract (X := uarriveX) (cs := uarriveA) (cs1 := uarriveA) 12 mixed ⟨rfl, rfl, rfl, rfl, rfl⟩ uarrive_ok uarrive_lt (fun F => tbl_hooks uarrive_lt rfl rfl up_all F) uarrive_run0 (by kernel_rfl) (by kernel_rfl) (fun σ _ _ _ => rfl)
theorem uarrive_contract1 : FnOk Try.prog 57 arriveI arriveO uarriveF :=
  dag_contract (X := uarriveX) (cs := uarriveB) (cs1 := uarriveA) 12 mixed ⟨rfl, rfl, rfl, rfl, rfl⟩ uarrive_ok uarrive_lt (fun F => tbl_hooks uarrive_lt rfl rfl up_all F) uarrive_run1 (by kernel_rfl) (by kernel_rfl) (fun σ e ht hin => uarrive_eq σ e ht hin)

set_option maxRecDepth 100000 in
def utickG : List SDef := [.fn 0 .i64 [.symi .i64 0, .symi .u8 1, .symi .u8 2, .symi .u8 3, .symi .u8 4, .symi .u8 5, .symi .u8 6, .symi .u8 7, .symi .u8 8],
  .fn 1 .u8 [.symi .i64 0, .symi .u8 1, .symi .u8 2, .symi .u8 3, .symi .u8 4, .symi .u8 5, .symi .u8 6, .symi .u8 7, .symi .u8 8],
  .fn 2 .u8 [.symi .i64 0, .symi .u8 1, .symi .u8 2, .symi .u8 3, .symi .u8 4, .symi .u8 5, .symi .u8 6, .symi .u8 7, .symi .u8 8],
  .fn 3 .u8 [.symi .i64 0, .symi .u8 1, .symi .u8 2, .symi .u8 3, .symi .u8 4, .symi .u8 5, .symi .u8 6, .symi .u8 7, .symi .u8 8],
  .fn 4 .u8 [.symi .i64 0, .symi .u8 1, .symi .u8 2, .symi .u8 3, .symi .u8 4, .symi .u8 5, .symi .u8 6, .symi .u8 7, .symi .u8 8],
  .fn 5 .u8 [.symi .i64 0, .symi .u8 1, .symi .u8 2, .symi .u8 3, .symi .u8 4, .symi .u8 5, .symi .u8 6, .symi .u8 7, .symi .u8 8],
  .fn 6 .u8 [.symi .i64 0, .symi .u8 1, .symi .u8 2, .symi .u8 3, .symi .u8 4, .symi .u8 5, .symi .u8 6, .symi .u8 7, .symi .u8 8],
  .fn 7 .u8 [.symi .i64 0, .symi .u8 1, .symi .u8 2, .symi .u8 3, .symi .u8 4, .symi .u8 5, .symi .u8 6, .symi .u8 7, .symi .u8 8],
  .fn 8 .u8 [.symi .i64 0, .symi .u8 1, .symi .u8 2, .symi .u8 3, .symi .u8 4, .symi .u8 5, .symi .u8 6, .symi .u8 7, .symi .u8 8],
  .fn 0 .i64 [.symi .i64 9, .symi .u8 10, .symi .u8 11, .symi .u8 12, .symi .u8 13, .symi .u8 14, .symi .u8 15, .symi .u8 16, .symi .u8 17],
  .fn 1 .u8 [.symi .i64 9, .symi .u8 10, .symi .u8 11, .symi .u8 12, .symi .u8 13, .symi .u8 14, .symi .u8 15, .symi .u8 16, .symi .u8 17],
  .fn 2 .u8 [.symi .i64 9, .symi .u8 10, .symi .u8 11, .symi .u8 12, .symi .u8 13, .symi .u8 14, .symi .u8 15, .symi .u8 16, .symi .u8 17],
  .fn 3 .u8 [.symi .i64 9, .symi .u8 10, .symi .u8 11, .symi .u8 12, .symi .u8 13, .symi .u8 14, .symi .u8 15, .symi .u8 16, .symi .u8 17],
  .fn 4 .u8 [.symi .i64 9, .symi .u8 10, .symi .u8 11, .symi .u8 12, .symi .u8 13, .symi .u8 14, .symi .u8 15, .symi .u8 16, .symi .u8 17],
  .fn 5 .u8 [.symi .i64 9, .symi .u8 10, .symi .u8 11, .symi .u8 12, .symi .u8 13, .symi .u8 14, .symi .u8 15, .symi .u8 16, .symi .u8 17],
  .fn 6 .u8 [.symi .i64 9, .symi .u8 10, .symi .u8 11, .symi .u8 12, .symi .u8 13, .symi .u8 14, .symi .u8 15, .symi .u8 16, .symi .u8 17],
  .fn 7 .u8 [.symi .i64 9, .symi .u8 10, .symi .u8 11, .symi .u8 12, .symi .u8 13, .symi .u8 14, .symi .u8 15, .symi .u8 16, .symi .u8 17],
  .fn 8 .u8 [.symi .i64 9, .symi .u8 10, .symi .u8 11, .symi .u8 12, .symi .u8 13, .symi .u8 14, .symi .u8 15, .symi .u8 16, .symi .u8 17],
  .bin .eql (.symi .i64 30) (.int .i64 0),
  .bin .geq (.symi .u8 20) (.int .u8 4),
  .ite (.symb 40) (.int .u8 0) (.symi .u8 20),
  .ite (.symb 39) (.int .u8 0) (.symi .u8 41),
  .bin .gtr (.symi .i64 30) (.int .i64 0),
  .bin .add (.symi .u8 42) (.int .u8 1),
  .bin .eql (.symi .u8 44) (.int .u8 4),
  .fn 128 .u8 [.symi .i64 30, .symi .u8 31, .symi .u8 32, .symi .u8 33, .symi .u8 34, .symi .u8 35, .symi .u8 36, .symi .u8 37, .symi .u8 38],
  .fn 129 .i64 [.symi .i64 30, .symi .u8 31, .symi .u8 32, .symi .u8 33, .symi .u8 34, .symi .u8 35, .symi .u8 36, .symi .u8 37, .symi .u8 38],
  .fn 130 .u8 [.symi .i64 30, .symi .u8 31, .symi .u8 32, .symi .u8 33, .symi .u8 34, .symi .u8 35, .symi .u8 36, .symi .u8 37, .symi .u8 38],
  .fn 131 .u8 [.symi .i64 30, .symi .u8 31, .symi .u8 32, .symi .u8 33, .symi .u8 34, .symi .u8 35, .symi .u8 36, .symi .u8 37, .symi .u8 38],
  .fn 132 .u8 [.symi .i64 30, .symi .u8 31, .symi .u8 32, .symi .u8 33, .symi .u8 34, .symi .u8 35, .symi .u8 36, .symi .u8 37, .symi .u8 38],
  .fn 133 .u8 [.symi .i64 30, .symi .u8 31, .symi .u8 32, .symi .u8 33, .symi .u8 34, .symi .u8 35, .symi .u8 36, .symi .u8 37, .symi .u8 38],
  .fn 134 .u8 [.symi .i64 30, .symi .u8 31, .symi .u8 32, .symi .u8 33, .symi .u8 34, .symi .u8 35, .symi .u8 36, .symi .u8 37, .symi .u8 38],
  .fn 135 .u8 [.symi .i64 30, .symi .u8 31, .symi .u8 32, .symi .u8 33, .symi .u8 34, .symi .u8 35, .symi .u8 36, .symi .u8 37, .symi .u8 38],
  .fn 136 .u8 [.symi .i64 30, .symi .u8 31, .symi .u8 32, .symi .u8 33, .symi .u8 34, .symi .u8 35, .symi .u8 36, .symi .u8 37, .symi .u8 38],
  .fn 137 .u8 [.symi .i64 30, .symi .u8 31, .symi .u8 32, .symi .u8 33, .symi .u8 34, .symi .u8 35, .symi .u8 36, .symi .u8 37, .symi .u8 38],
  .fnb 138 [.symi .i64 30, .symi .u8 31, .symi .u8 32, .symi .u8 33, .symi .u8 34, .symi .u8 35, .symi .u8 36, .symi .u8 37, .symi .u8 38],
  .bin .eql (.symi .i64 47) (.int .i64 0),
  .bin .and (.symi .u8 19) (.int .u8 2),
  .bin .neq (.symi .u8 58) (.int .u8 0),
  .ite (.symb 57) (.symb 59) (.bool false),
  .ite (.symb 45) (.symi .i64 47) (.symi .i64 30),
  .ite (.symb 45) (.symi .u8 48) (.symi .u8 31),
  .ite (.symb 45) (.symi .u8 49) (.symi .u8 32),
  .ite (.symb 45) (.symi .u8 50) (.symi .u8 33),
  .ite (.symb 45) (.symi .u8 51) (.symi .u8 34),
  .ite (.symb 45) (.symi .u8 52) (.symi .u8 35),
  .ite (.symb 45) (.symi .u8 53) (.symi .u8 36),
  .ite (.symb 45) (.symi .u8 54) (.symi .u8 37),
  .ite (.symb 45) (.symi .u8 55) (.symi .u8 38),
  .ite (.symb 45) (.int .u8 0) (.symi .u8 44),
  .ite (.symb 45) (.symi .u8 46) (.int .u8 0),
  .ite (.symb 45) (.symb 56) (.bool false),
  .ite (.symb 45) (.symb 60) (.bool false),
  .ite (.symb 43) (.symi .i64 61) (.symi .i64 30),
  .ite (.symb 43) (.symi .u8 62) (.symi .u8 31),
  .ite (.symb 43) (.symi .u8 63) (.symi .u8 32),
  .ite (.symb 43) (.symi .u8 64) (.symi .u8 33),
  .ite (.symb 43) (.symi .u8 65) (.symi .u8 34),
  .ite (.symb 43) (.symi .u8 66) (.symi .u8 35),
  .ite (.symb 43) (.symi .u8 67) (.symi .u8 36),
  .ite (.symb 43) (.symi .u8 68) (.symi .u8 37),
  .ite (.symb 43) (.symi .u8 69) (.symi .u8 38),
  .ite (.symb 43) (.symi .u8 70) (.symi .u8 42),
  .ite (.symb 43) (.symi .u8 71) (.int .u8 0),
  .ite (.symb 43) (.symb 72) (.bool false),
  .ite (.symb 43) (.symb 73) (.bool false),
  .ite (.symb 39) (.int .u8 0) (.symi .u8 20),
  .ite (.symb 40) (.int .u8 0) (.symi .u8 87),
  .bin .add (.symi .u8 88) (.int .u8 1),
  .bin .lss (.symi .u8 89) (.int .u8 4),
  .bin .quo (.symi .u8 19) (.int .u8 2),
  .bin .rem (.symi .u8 91) (.int .u8 2),
  .bin .eql (.symi .u8 92) (.int .u8 1),
  .ite (.symb 57) (.symb 93) (.bool false),
  .ite (.symb 90) (.symi .i64 30) (.symi .i64 47),
  .ite (.symb 90) (.symi .u8 31) (.symi .u8 48),
  .ite (.symb 90) (.symi .u8 32) (.symi .u8 49),
  .ite (.symb 90) (.symi .u8 33) (.symi .u8 50),
  .ite (.symb 90) (.symi .u8 34) (.symi .u8 51),
  .ite (.symb 90) (.symi .u8 35) (.symi .u8 52),
  .ite (.symb 90) (.symi .u8 36) (.symi .u8 53),
  .ite (.symb 90) (.symi .u8 37) (.symi .u8 54),
  .ite (.symb 90) (.symi .u8 38) (.symi .u8 55),
  .ite (.symb 90) (.symi .u8 89) (.int .u8 0),
  .ite (.symb 90) (.int .u8 0) (.symi .u8 46),
  .un .not (.symb 90),
  .ite (.symb 90) (.bool false) (.symb 94),
  .ite (.symb 39) (.symi .i64 30) (.symi .i64 95),
  .ite (.symb 39) (.symi .u8 31) (.symi .u8 96),
  .ite (.symb 39) (.symi .u8 32) (.symi .u8 97),
  .ite (.symb 39) (.symi .u8 33) (.symi .u8 98),
  .ite (.symb 39) (.symi .u8 34) (.symi .u8 99),
  .ite (.symb 39) (.symi .u8 35) (.symi .u8 100),
  .ite (.symb 39) (.symi .u8 36) (.symi .u8 101),
  .ite (.symb 39) (.symi .u8 37) (.symi .u8 102),
  .ite (.symb 39) (.symi .u8 38) (.symi .u8 103),
  .ite (.symb 39) (.symi .u8 88) (.symi .u8 104),
  .ite (.symb 39) (.int .u8 0) (.symi .u8 105),
  .ite (.symb 39) (.bool false) (.symb 106),
  .ite (.symb 39) (.bool false) (.symb 107)]

set_option maxRecDepth 100000 in
def utickT : LT := .n (.n (.n (.n (.n (.n (.n (.e) 1650397 104 (.ite (.symb 90) (.symi .u8 89) (.int .u8 0)) (.e)) 14326059 70 (.ite (.symb 45) (.int .u8 0) (.symi .u8 44)) (.n (.e) 95148019 77 (.ite (.symb 43) (.symi .u8 64) (.symi .u8 33)) (.e))) 103880158 120 (.ite (.symb 39) (.bool false) (.symb 107)) (.n (.n (.e) 107651017 101 (.ite (.symb 90) (.symi .u8 36) (.symi .u8 53)) (.e)) 119454350 46 (.fn 128 .u8 [.symi .i64 30, .symi .u8 31, .symi .u8 32, .symi .u8 33, .symi .u8 34, .symi .u8 35, .symi .u8 36, .symi .u8 37, .symi .u8 38]) (.e))) 119454393 47 (.fn 129 .i64 [.symi .i64 30, .symi .u8 31, .symi .u8 32, .symi .u8 33, .symi .u8 34, .symi .u8 35, .symi .u8 36, .symi .u8 37, .symi .u8 38]) (.n (.n (.n (.e) 119454436 48 (.fn 130 .u8 [.symi .i64 30, .symi .u8 31, .symi .u8 32, .symi .u8 33, .symi .u8 34, .symi .u8 35, .symi .u8 36, .symi .u8 37, .symi .u8 38]) (.e)) 119454479 49 (.fn 131 .u8 [.symi .i64 30, .symi .u8 31, .symi .u8 32, .symi .u8 33, .symi .u8 34, .symi .u8 35, .symi .u8 36, .symi .u8 37, .symi .u8 38]) (.e)) 119454522 50 (.fn 132 .u8 [.symi .i64 30, .symi .u8 31, .symi .u8 32, .symi .u8 33, .symi .u8 34, .symi .u8 35, .symi .u8 36, .symi .u8 37, .symi .u8 38]) (.n (.n (.e) 119454565 51 (.fn 133 .u8 [.symi .i64 30, .symi .u8 31, .symi .u8 32, .symi .u8 33, .symi .u8 34, .symi .u8 35, .symi .u8 36, .symi .u8 37, .symi .u8 38]) (.e)) 119454608 52 (.fn 134 .u8 [.symi .i64 30, .symi .u8 31, .symi .u8 32, .symi .u8 33, .symi .u8 34, .symi .u8 35, .symi .u8 36, .symi .u8 37, .symi .u8 38]) (.e)))) 119454651 53 (.fn 135 .u8 [.symi .i64 30, .symi .u8 31, .symi .u8 32, .symi .u8 33, .symi .u8 34, .symi .u8 35, .symi .u8 36, .symi .u8 37, .symi .u8 38]) (.n (.n (.n (.n (.e) 119454694 54 (.fn 136 .u8 [.symi .i64 30, .symi .u8 31, .symi .u8 32, .symi .u8 33, .symi .u8 34, .symi .u8 35, .symi .u8 36, .symi .u8 37, .symi .u8 38]) (.e)) 119454737 55 (.fn 137 .u8 [.symi .i64 30, .symi .u8 31, .symi .u8 32, .symi .u8 33, .symi .u8 34, .symi .u8 35, .symi .u8 36, .symi .u8 37, .symi .u8 38]) (.n (.e) 129082418 105 (.ite (.symb 90) (.int .u8 0) (.symi .u8 46)) (.e))) 134633689 63 (.ite (.symb 45) (.symi .u8 49) (.symi .u8 32)) (.n (.n (.e) 140177051 110 (.ite (.symb 39) (.symi .u8 32) (.symi .u8 97)) (.e)) 149256558 45 (.bin .eql (.symi .u8 44) (.int .u8 4)) (.e))) 163120501 73 (.ite (.symb 45) (.symb 60) (.bool false)) (.n (.n (.n (.e) 200671124 83 (.ite (.symb 43) (.symi .u8 70) (.symi .u8 42)) (.e)) 221409792 81 (.ite (.symb 43) (.symi .u8 68) (.symi .u8 37)) (.e)) 224326685 71 (.ite (.symb 45) (.symi .u8 46) (.int .u8 0)) (.n (.n (.e) 260895462 67 (.ite (.symb 45) (.symi .u8 53) (.symi .u8 36)) (.e)) 266438824 114 (.ite (.symb 39) (.symi .u8 36) (.symi .u8 101)) (.e))))) 268887146 74 (.ite (.symb 43) (.symi .i64 61) (.symi .i64 30)) (.n (.n (.n (.n (.n (.e) 281390144 98 (.ite (.symb 90) (.symi .u8 33) (.symi .u8 50)) (.e)) 298152400 89 (.bin .add (.symi .u8 88) (.int .u8 1)) (.n (.e) 305886844 94 (.ite (.symb 57) (.symb 93) (.bool false)) (.e))) 375727183 30 (.fn 0 .i64 [.symi .i64 9, .symi .u8 10, .symi .u8 11, .symi .u8 12, .symi .u8 13, .symi .u8 14, .symi .u8 15, .symi .u8 16, .symi .u8 17]) (.n (.n (.e) 375727226 31 (.fn 1 .u8 [.symi .i64 9, .symi .u8 10, .symi .u8 11, .symi .u8 12, .symi .u8 13, .symi .u8 14, .symi .u8 15, .symi .u8 16, .symi .u8 17]) (.e)) 375727269 32 (.fn 2 .u8 [.symi .i64 9, .symi .u8 10, .symi .u8 11, .symi .u8 12, .symi .u8 13, .symi .u8 14, .symi .u8 15, .symi .u8 16, .symi .u8 17]) (.e))) 375727312 33 (.fn 3 .u8 [.symi .i64 9, .symi .u8 10, .symi .u8 11, .symi .u8 12, .symi .u8 13, .symi .u8 14, .symi .u8 15, .symi .u8 16, .symi .u8 17]) (.n (.n (.n (.e) 375727355 34 (.fn 4 .u8 [.symi .i64 9, .symi .u8 10, .symi .u8 11, .symi .u8 12, .symi .u8 13, .symi .u8 14, .symi .u8 15, .symi .u8 16, .symi .u8 17]) (.e)) 375727398 35 (.fn 5 .u8 [.symi .i64 9, .symi .u8 10, .symi .u8 11, .symi .u8 12, .symi .u8 13, .symi .u8 14, .symi .u8 15, .symi .u8 16, .symi .u8 17]) (.e)) 375727441 36 (.fn 6 .u8 [.symi .i64 9, .symi .u8 10, .symi .u8 11, .symi .u8 12, .symi .u8 13, .symi .u8 14, .symi .u8 15, .symi .u8 16, .symi .u8 17]) (.n (.n (.e) 375727484 37 (.fn 7 .u8 [.symi .i64 9, .symi .u8 10, .symi .u8 11, .symi .u8 12, .symi .u8 13, .symi .u8 14, .symi .u8 15, .symi .u8 16, .symi .u8 17]) (.e)) 375727527 38 (.fn 8 .u8 [.symi .i64 9, .symi .u8 10, .symi .u8 11, .symi .u8 12, .symi .u8 13, .symi .u8 14, .symi .u8 15, .symi .u8 16, .symi .u8 17]) (.e)))) 395148919 78 (.ite (.symb 43) (.symi .u8 65) (.symi .u8 34)) (.n (.n (.n (.n (.e) 399302899 90 (.bin .lss (.symi .u8 89) (.int .u8 4)) (.e)) 407651917 102 (.ite (.symb 90) (.symi .u8 37) (.symi .u8 54)) (.e)) 434634589 64 (.ite (.symb 45) (.symi .u8 50) (.symi .u8 33)) (.n (.n (.e) 440177951 111 (.ite (.symb 39) (.symi .u8 33) (.symi .u8 98)) (.e)) 443613468 88 (.ite (.symb 40) (.int .u8 0) (.symi .u8 87)) (.e))) 450103205 84 (.ite (.symb 43) (.symi .u8 71) (.int .u8 0)) (.n (.n (.n (.e) 452057327 57 (.bin .eql (.symi .i64 47) (.int .i64 0)) (.e)) 455129271 95 (.ite (.symb 90) (.symi .i64 30) (.symi .i64 47)) (.e)) 485560756 21 (.fn 0 .i64 [.symi .i64 0, .symi .u8 1, .symi .u8 2, .symi .u8 3, .symi .u8 4, .symi .u8 5, .symi .u8 6, .symi .u8 7, .symi .u8 8]) (.n (.n (.e) 485560799 22 (.fn 1 .u8 [.symi .i64 0, .symi .u8 1, .symi .u8 2, .symi .u8 3, .symi .u8 4, .symi .u8 5, .symi .u8 6, .symi .u8 7, .symi .u8 8]) (.e)) 485560842 23 (.fn 2 .u8 [.symi .i64 0, .symi .u8 1, .symi .u8 2, .symi .u8 3, .symi .u8 4, .symi .u8 5, .symi .u8 6, .symi .u8 7, .symi .u8 8]) (.e)))))) 485560885 24 (.fn 3 .u8 [.symi .i64 0, .symi .u8 1, .symi .u8 2, .symi .u8 3, .symi .u8 4, .symi .u8 5, .symi .u8 6, .symi .u8 7, .symi .u8 8]) (.n (.n (.n (.n (.n (.n (.e) 485560928 25 (.fn 4 .u8 [.symi .i64 0, .symi .u8 1, .symi .u8 2, .symi .u8 3, .symi .u8 4, .symi .u8 5, .symi .u8 6, .symi .u8 7, .symi .u8 8]) (.e)) 485560971 26 (.fn 5 .u8 [.symi .i64 0, .symi .u8 1, .symi .u8 2, .symi .u8 3, .symi .u8 4, .symi .u8 5, .symi .u8 6, .symi .u8 7, .symi .u8 8]) (.n (.e) 485561014 27 (.fn 6 .u8 [.symi .i64 0, .symi .u8 1, .symi .u8 2, .symi .u8 3, .symi .u8 4, .symi .u8 5, .symi .u8 6, .symi .u8 7, .symi .u8 8]) (.e))) 485561057 28 (.fn 7 .u8 [.symi .i64 0, .symi .u8 1, .symi .u8 2, .symi .u8 3, .symi .u8 4, .symi .u8 5, .symi .u8 6, .symi .u8 7, .symi .u8 8]) (.n (.n (.e) 485561100 29 (.fn 8 .u8 [.symi .i64 0, .symi .u8 1, .symi .u8 2, .symi .u8 3, .symi .u8 4, .symi .u8 5, .symi .u8 6, .symi .u8 7, .symi .u8 8]) (.e)) 489318840 59 (.bin .neq (.symi .u8 58) (.int .u8 0)) (.e))) 500366080 106 (.un .not (.symb 90)) (.n (.n (.n (.e) 521410692 82 (.ite (.symb 43) (.symi .u8 69) (.symi .u8 38)) (.e)) 560896362 68 (.ite (.symb 45) (.symi .u8 54) (.symi .u8 37)) (.e)) 566439724 115 (.ite (.symb 39) (.symi .u8 37) (.symi .u8 102)) (.n (.n (.e) 568888046 75 (.ite (.symb 43) (.symi .u8 62) (.symi .u8 31)) (.e)) 581391044 99 (.ite (.symb 90) (.symi .u8 34) (.symi .u8 51)) (.e)))) 599428504 85 (.ite (.symb 43) (.symb 72) (.bool false)) (.n (.n (.n (.n (.e) 601203372 92 (.bin .rem (.symi .u8 91) (.int .u8 2)) (.e)) 608373716 61 (.ite (.symb 45) (.symi .i64 47) (.symi .i64 30)) (.e)) 608428801 60 (.ite (.symb 57) (.symb 59) (.bool false)) (.n (.n (.e) 613917078 108 (.ite (.symb 39) (.symi .i64 30) (.symi .i64 95)) (.e)) 640842660 72 (.ite (.symb 45) (.symb 56) (.bool false)) (.e))) 695149819 79 (.ite (.symb 43) (.symi .u8 66) (.symi .u8 35)) (.n (.n (.n (.e) 702153689 93 (.bin .eql (.symi .u8 92) (.int .u8 1)) (.e)) 707652817 103 (.ite (.symb 90) (.symi .u8 38) (.symi .u8 55)) (.e)) 734635489 65 (.ite (.symb 45) (.symi .u8 51) (.symi .u8 34)) (.n (.n (.e) 740178851 112 (.ite (.symb 39) (.symi .u8 34) (.symi .u8 99)) (.e)) 748433421 86 (.ite (.symb 43) (.symb 73) (.bool false)) (.e))))) 755130171 96 (.ite (.symb 90) (.symi .u8 31) (.symi .u8 48)) (.n (.n (.n (.n (.n (.e) 845374338 91 (.bin .quo (.symi .u8 19) (.int .u8 2)) (.e)) 845374352 58 (.bin .and (.symi .u8 19) (.int .u8 2)) (.n (.e) 860897262 69 (.ite (.symb 45) (.symi .u8 55) (.symi .u8 38)) (.e))) 866440624 116 (.ite (.symb 39) (.symi .u8 38) (.symi .u8 103)) (.n (.n (.e) 868888946 76 (.ite (.symb 43) (.symi .u8 63) (.symi .u8 32)) (.e)) 874780832 42 (.ite (.symb 39) (.int .u8 0) (.symi .u8 41)) (.e))) 875133381 118 (.ite (.symb 39) (.int .u8 0) (.symi .u8 105)) (.n (.n (.n (.e) 881391944 100 (.ite (.symb 90) (.symi .u8 35) (.symi .u8 52)) (.e)) 882535830 39 (.bin .eql (.symi .i64 30) (.int .i64 0)) (.e)) 882535858 43 (.bin .gtr (.symi .i64 30) (.int .i64 0)) (.n (.n (.e) 895398344 56 (.fnb 138 [.symi .i64 30, .symi .u8 31, .symi .u8 32, .symi .u8 33, .symi .u8 34, .symi .u8 35, .symi .u8 36, .symi .u8 37, .symi .u8 38]) (.e)) 908374616 62 (.ite (.symb 45) (.symi .u8 48) (.symi .u8 31)) (.e)))) 913917978 109 (.ite (.symb 39) (.symi .u8 31) (.symi .u8 96)) (.n (.n (.n (.n (.e) 924996800 87 (.ite (.symb 39) (.int .u8 0) (.symi .u8 20)) (.e)) 935082008 107 (.ite (.symb 90) (.bool false) (.symb 94)) (.e)) 946474802 40 (.bin .geq (.symi .u8 20) (.int .u8 4)) (.n (.n (.e) 951270638 117 (.ite (.symb 39) (.symi .u8 88) (.symi .u8 104)) (.e)) 995150719 80 (.ite (.symb 43) (.symi .u8 67) (.symi .u8 36)) (.e))) 1020847597 44 (.bin .add (.symi .u8 42) (.int .u8 1)) (.n (.n (.n (.e) 1026617002 119 (.ite (.symb 39) (.bool false) (.symb 106)) (.e)) 1034636389 66 (.ite (.symb 45) (.symi .u8 52) (.symi .u8 35)) (.e)) 1040179751 113 (.ite (.symb 39) (.symi .u8 35) (.symi .u8 100)) (.n (.n (.e) 1055131071 97 (.ite (.symb 90) (.symi .u8 32) (.symi .u8 49)) (.e)) 1064001387 41 (.ite (.symb 40) (.int .u8 0) (.symi .u8 20)) (.e))))))

def utickX : Ing := { m := 21, ins := (cellsOf tickI).map kindC, G := utickG, T := utickT, hook := tblHook (tabOf upFs) upTbl, tab := tabOf upFs }
def utickA : List AVal := [.symi .i64 21, .symi .u8 22, .symi .u8 23, .symi .u8 24, .symi .u8 25, .symi .u8 26, .symi .u8 27, .symi .u8 28, .symi .u8 29, .symi .i64 74, .symi .u8 75, .symi .u8 76, .symi .u8 77, .symi .u8 78, .symi .u8 79, .symi .u8 80, .symi .u8 81, .symi .u8 82, .symb 18, .symi .u8 19, .symi .u8 83, .symi .u8 84, .symb 85, .symb 86]
def utickB : List AVal := [.symi .i64 21, .symi .u8 22, .symi .u8 23, .symi .u8 24, .symi .u8 25, .symi .u8 26, .symi .u8 27, .symi .u8 28, .symi .u8 29, .symi .i64 108, .symi .u8 109, .symi .u8 110, .symi .u8 111, .symi .u8 112, .symi .u8 113, .symi .u8 114, .symi .u8 115, .symi .u8 116, .symb 18, .symi .u8 19, .symi .u8 117, .symi .u8 118, .symb 119, .symb 120]
def utickF : List Int → List Int := dagF (tabOf upFs) 21 utickG utickA
theorem utick_ok : okG utickG 21 = true := by kernel_rfl
theorem utick_lt : okLT 21 utickG utickT = true := by kernel_rfl
theorem utick_run0 : okW (fun F => (evD Try.prog (cxOf utickX) true 1000 40).1 F 23 (symSh tickI 0) ⟨[], []⟩) (.run (.leaf (.tuple [.agg [.symi .i64 21, .symi .u8 22, .symi .u8 23, .symi .u8 24, .symi .u8 25, .symi .u8 26, .symi .u8 27, .symi .u8 28, .symi .u8 29, .symi .i64 74, .symi .u8 75, .symi .u8 76, .symi .u8 77, .symi .u8 78, .symi .u8 79, .symi .u8 80, .symi .u8 81, .symi .u8 82, .symb 18, .symi .u8 19, .symi .u8 83], .symi .u8 84, .symb 85, .symb 86]))) [] = true := by kernel_rfl
theorem utick_run1 : okW (fun F => (evD Try.prog (cxOf utickX) true 1000 40).1 F 58 (symSh tickI 0) ⟨[], []⟩) (.run (.leaf (.tuple [.agg [.symi .i64 21, .symi .u8 22, .symi .u8 23, .symi .u8 24, .symi .u8 25, .symi .u8 26, .symi .u8 27, .symi .u8 28, .symi .u8 29, .symi .i64 108, .symi .u8 109, .symi .u8 110, .symi .u8 111, .symi .u8 112, .symi .u8 113, .symi .u8 114, .symi .u8 115, .symi .u8 116, .symb 18, .symi .u8 19, .symi .u8 117], .symi .u8 118, .symb 119, .symb 120]))) [] = true := by kernel_rfl
set_option maxRecDepth 100000 in
theorem utick_eq (σ : Sig) (e : Eqs σ 21 utickG) (ht : σ.tab = tabOf upFs) (hin : InsOk σ 21 ((cellsOf tickI).map kindC)) : numsOf σ utickB = numsOf σ utickA := by
  have e21 : σ.ival 21 = IntKind.i64.wrap (σ.tab 0 [σ.ival 0, σ.ival 1, σ.ival 2, σ.ival 3, σ.ival 4, σ.ival 5, σ.ival 6, σ.ival 7, σ.ival 8]) := eqI (e.at 0 _ rfl rfl) rfl
  have e22 : σ.ival 22 = IntKind.u8.wrap (σ.tab 1 [σ.ival 0, σ.ival 1, σ.ival 2, σ.ival 3, σ.ival 4, σ.ival 5, σ.ival 6, σ.ival 7, σ.ival 8]) := eqI (e.at 1 _ rfl rfl) rfl
  have e23 : σ.ival 23 = IntKind.u8.wrap (σ.tab 2 [σ.ival 0, σ.ival 1, σ.ival 2, σ.ival 3, σ.ival 4, σ.ival 5, σ.ival 6, σ.ival 7, σ.ival 8]) := eqI (e.at 2 _ rfl rfl) rfl
  have e24 : σ.ival 24 = IntKind.u8.wrap (σ.tab 3 [σ.ival 0, σ.ival 1, σ.ival 2, σ.ival 3, σ.ival 4, σ.ival 5, σ.ival 6, σ.ival 7, σ.ival 8]) := eqI (e.at 3 _ rfl rfl) rfl
  have e25 : σ.ival 25 = IntKind.u8.wrap (σ.tab 4 [σ.ival 0, σ.ival 1, σ.ival 2, σ.ival 3, σ.ival 4, σ.ival 5, σ.ival 6, σ.ival 7, σ.ival 8]) := eqI (e.at 4 _ rfl rfl) rfl
  have e26 : σ.ival 26 = IntKind.u8.wrap (σ.tab 5 [σ.ival 0, σ.ival 1, σ.ival 2, σ.ival 3, σ.ival 4, σ.ival 5, σ.ival 6, σ.ival 7, σ.ival 8]) := eqI (e.at 5 _ rfl rfl) rfl
  have e27 : σ.ival 27 = IntKind.u8.wrap (σ.tab 6 [σ.ival 0, σ.ival 1, σ.ival 2, σ.ival 3, σ.ival 4, σ.ival 5, σ.ival 6, σ.ival 7, σ.ival 8]) := eqI (e.at 6 _ rfl rfl) rfl
  have e28 : σ.ival 28 = IntKind.u8.wrap (σ.tab 7 [σ.ival 0, σ.ival 1, σ.ival 2, σ.ival 3, σ.ival 4, σ.ival 5, σ.ival 6, σ.ival 7, σ.ival 8]) := eqI (e.at 7 _ rfl rfl) rfl
  have e29 : σ.ival 29 = IntKind.u8.wrap (σ.tab 8 [σ.ival 0, σ.ival 1, σ.ival 2, σ.ival 3, σ.ival 4, σ.ival 5, σ.ival 6, σ.ival 7, σ.ival 8]) := eqI (e.at 8 _ rfl rfl) rfl
  have e30 : σ.ival 30 = IntKind.i64.wrap (σ.tab 0 [σ.ival 9, σ.ival 10, σ.ival 11, σ.ival 12, σ.ival 13, σ.ival 14, σ.ival 15, σ.ival 16, σ.ival 17]) := eqI (e.at 9 _ rfl rfl) rfl
  have e31 : σ.ival 31 = IntKind.u8.wrap (σ.tab 1 [σ.ival 9, σ.ival 10, σ.ival 11, σ.ival 12, σ.ival 13, σ.ival 14, σ.ival 15, σ.ival 16, σ.ival 17]) := eqI (e.at 10 _ rfl rfl) rfl
  have e32 : σ.ival 32 = IntKind.u8.wrap (σ.tab 2 [σ.ival 9, σ.ival 10, σ.ival 11, σ.ival 12, σ.ival 13, σ.ival 14, σ.ival 15, σ.ival 16, σ.ival 17]) := eqI (e.at 11 _ rfl rfl) rfl
  have e33 : σ.ival 33 = IntKind.u8.wrap (σ.tab 3 [σ.ival 9, σ.ival 10, σ.ival 11, σ.ival 12, σ.ival 13, σ.ival 14, σ.ival 15, σ.ival 16, σ.ival 17]) := eqI (e.at 12 _ rfl rfl) rfl
  have e34 : σ.ival 34 = IntKind.u8.wrap (σ.tab 4 [σ.ival 9, σ.ival 10, σ.ival 11, σ.ival 12, σ.ival 13, σ.ival 14, σ.ival 15, σ.ival 16, σ.ival 17]) := eqI (e.at 13 _ rfl rfl) rfl
  have e35 : σ.ival 35 = IntKind.u8.wrap (σ.tab 5 [σ.ival 9, σ.ival 10, σ.ival 11, σ.ival 12, σ.ival 13, σ.ival 14, σ.ival 15, σ.ival 16, σ.ival 17]) := eqI (e.at 14 _ rfl rfl) rfl
  have e36 : σ.ival 36 = IntKind.u8.wrap (σ.tab 6 [σ.ival 9, σ.ival 10, σ.ival 11, σ.ival 12, σ.ival 13, σ.ival 14, σ.ival 15, σ.ival 16, σ.ival 17]) := eqI (e.at 15 _ rfl rfl) rfl
  have e37 : σ.ival 37 = IntKind.u8.wrap (σ.tab 7 [σ.ival 9, σ.ival 10, σ.ival 11, σ.ival 12, σ.ival 13, σ.ival 14, σ.ival 15, σ.ival 16, σ.ival 17]) := eqI (e.at 16 _ rfl rfl) rfl
  have e38 : σ.ival 38 = IntKind.u8.wrap (σ.tab 8 [σ.ival 9, σ.ival 10, σ.ival 11, σ.ival 12, σ.ival 13, σ.ival 14, σ.ival 15, σ.ival 16, σ.ival 17]) := eqI (e.at 17 _ rfl rfl) rfl
  have e39 : σ.bval 39 = (σ.ival 30 == 0) := eqB (e.at 18 _ rfl rfl) rfl
  have e40 : σ.bval 40 = decide (σ.ival 20 ≥ 4) := eqB (e.at 19 _ rfl rfl) rfl
  have e41 : σ.ival 41 = (bif σ.bval 40 then 0 else σ.ival 20) := eqIteI (e.at 20 _ rfl rfl) rfl rfl rfl
  have e42 : σ.ival 42 = (bif σ.bval 39 then 0 else σ.ival 41) := eqIteI (e.at 21 _ rfl rfl) rfl rfl rfl
  have e43 : σ.bval 43 = decide (σ.ival 30 > 0) := eqB (e.at 22 _ rfl rfl) rfl
  have e44 : σ.ival 44 = IntKind.u8.wrap (σ.ival 42 + 1) := eqI (e.at 23 _ rfl rfl) rfl
  have e45 : σ.bval 45 = (σ.ival 44 == 4) := eqB (e.at 24 _ rfl rfl) rfl
  have e46 : σ.ival 46 = IntKind.u8.wrap (σ.tab 128 [σ.ival 30, σ.ival 31, σ.ival 32, σ.ival 33, σ.ival 34, σ.ival 35, σ.ival 36, σ.ival 37, σ.ival 38]) := eqI (e.at 25 _ rfl rfl) rfl
  have e47 : σ.ival 47 = IntKind.i64.wrap (σ.tab 129 [σ.ival 30, σ.ival 31, σ.ival 32, σ.ival 33, σ.ival 34, σ.ival 35, σ.ival 36, σ.ival 37, σ.ival 38]) := eqI (e.at 26 _ rfl rfl) rfl
  have e48 : σ.ival 48 = IntKind.u8.wrap (σ.tab 130 [σ.ival 30, σ.ival 31, σ.ival 32, σ.ival 33, σ.ival 34, σ.ival 35, σ.ival 36, σ.ival 37, σ.ival 38]) := eqI (e.at 27 _ rfl rfl) rfl
  have e49 : σ.ival 49 = IntKind.u8.wrap (σ.tab 131 [σ.ival 30, σ.ival 31, σ.ival 32, σ.ival 33, σ.ival 34, σ.ival 35, σ.ival 36, σ.ival 37, σ.ival 38]) := eqI (e.at 28 _ rfl rfl) rfl
  have e50 : σ.ival 50 = IntKind.u8.wrap (σ.tab 132 [σ.ival 30, σ.ival 31, σ.ival 32, σ.ival 33, σ.ival 34, σ.ival 35, σ.ival 36, σ.ival 37, σ.ival 38]) := eqI (e.at 29 _ rfl rfl) rfl
  have e51 : σ.ival 51 = IntKind.u8.wrap (σ.tab 133 [σ.ival 30, σ.ival 31, σ.ival 32, σ.ival 33, σ.ival 34, σ.ival 35, σ.ival 36, σ.ival 37, σ.ival 38]) := eqI (e.at 30 _ rfl rfl) rfl
  have e52 : σ.ival 52 = IntKind.u8.wrap (σ.tab 134 [σ.ival 30, σ.ival 31, σ.ival 32, σ.ival 33, σ.ival 34, σ.ival 35, σ.ival 36, σ.ival 37, σ.ival 38]) := eqI (e.at 31 _ rfl rfl) rfl
  have e53 : σ.ival 53 = IntKind.u8.wrap (σ.tab 135 [σ.ival 30, σ.ival 31, σ.ival 32, σ.ival 33, σ.ival 34, σ.ival 35, σ.ival 36, σ.ival 37, σ.ival 38]) := eqI (e.at 32 _ rfl rfl) rfl
  have e54 : σ.ival 54 = IntKind.u8.wrap (σ.tab 136 [σ.ival 30, σ.ival 31, σ.ival 32, σ.ival 33, σ.ival 34, σ.ival 35, σ.ival 36, σ.ival 37, σ.ival 38]) := eqI (e.at 33 _ rfl rfl) rfl
  have e55 : σ.ival 55 = IntKind.u8.wrap (σ.tab 137 [σ.ival 30, σ.ival 31, σ.ival 32, σ.ival 33, σ.ival 34, σ.ival 35, σ.ival 36, σ.ival 37, σ.ival 38]) := eqI (e.at 34 _ rfl rfl) rfl
  have e56 : σ.bval 56 = (!(σ.tab 138 [σ.ival 30, σ.ival 31, σ.ival 32, σ.ival 33, σ.ival 34, σ.ival 35, σ.ival 36, σ.ival 37, σ.ival 38] == 0)) := eqB (e.at 35 _ rfl rfl) rfl
  have e57 : σ.bval 57 = (σ.ival 47 == 0) := eqB (e.at 36 _ rfl rfl) rfl
  have e58 : σ.ival 58 = IntKind.u8.wrap (BitVec.ofInt IntKind.u8.bits (σ.ival 19) &&& BitVec.ofInt IntKind.u8.bits (2)).toNat := eqI (e.at 37 _ rfl rfl) rfl
  have e59 : σ.bval 59 = (σ.ival 58 != 0) := eqB (e.at 38 _ rfl rfl) rfl
  have e60 : σ.bval 60 = (bif σ.bval 57 then σ.bval 59 else false) := eqIteB (e.at 39 _ rfl rfl) rfl rfl rfl
  have e61 : σ.ival 61 = (bif σ.bval 45 then σ.ival 47 else σ.ival 30) := eqIteI (e.at 40 _ rfl rfl) rfl rfl rfl
  have e62 : σ.ival 62 = (bif σ.bval 45 then σ.ival 48 else σ.ival 31) := eqIteI (e.at 41 _ rfl rfl) rfl rfl rfl
  have e63 : σ.ival 63 = (bif σ.bval 45 then σ.ival 49 else σ.ival 32) := eqIteI (e.at 42 _ rfl rfl) rfl rfl rfl
  have e64 : σ.ival 64 = (bif σ.bval 45 then σ.ival 50 else σ.ival 33) := eqIteI (e.at 43 _ rfl rfl) rfl rfl rfl
  have e65 : σ.ival 65 = (bif σ.bval 45 then σ.ival 51 else σ.ival 34) := eqIteI (e.at 44 _ rfl rfl) rfl rfl rfl
  have e66 : σ.ival 66 = (bif σ.bval 45 then σ.ival 52 else σ.ival 35) := eqIteI (e.at 45 _ rfl rfl) rfl rfl rfl
  have e67 : σ.ival 67 = (bif σ.bval 45 then σ.ival 53 else σ.ival 36) := eqIteI (e.at 46 _ rfl rfl) rfl rfl rfl
  have e68 : σ.ival 68 = (bif σ.bval 45 then σ.ival 54 else σ.ival 37) := eqIteI (e.at 47 _ rfl rfl) rfl rfl rfl
  have e69 : σ.ival 69 = (bif σ.bval 45 then σ.ival 55 else σ.ival 38) := eqIteI (e.at 48 _ rfl rfl) rfl rfl rfl
  have e70 : σ.ival 70 = (bif σ.bval 45 then 0 else σ.ival 44) := eqIteI (e.at 49 _ rfl rfl) rfl rfl rfl
  have e71 : σ.ival 71 = (bif σ.bval 45 then σ.ival 46 else 0) := eqIteI (e.at 50 _ rfl rfl) rfl rfl rfl
  have e72 : σ.bval 72 = (bif σ.bval 45 then σ.bval 56 else false) := eqIteB (e.at 51 _ rfl rfl) rfl rfl rfl
  have e73 : σ.bval 73 = (bif σ.bval 45 then σ.bval 60 else false) := eqIteB (e.at 52 _ rfl rfl) rfl rfl rfl
  have e74 : σ.ival 74 = (bif σ.bval 43 then σ.ival 61 else σ.ival 30) := eqIteI (e.at 53 _ rfl rfl) rfl rfl rfl
  have e75 : σ.ival 75 = (bif σ.bval 43 then σ.ival 62 else σ.ival 31) := eqIteI (e.at 54 _ rfl rfl) rfl rfl rfl
  have e76 : σ.ival 76 = (bif σ.bval 43 then σ.ival 63 else σ.ival 32) := eqIteI (e.at 55 _ rfl rfl) rfl rfl rfl
  have e77 : σ.ival 77 = (bif σ.bval 43 then σ.ival 64 else σ.ival 33) := eqIteI (e.at 56 _ rfl rfl) rfl rfl rfl
  have e78 : σ.ival 78 = (bif σ.bval 43 then σ.ival 65 else σ.ival 34) := eqIteI (e.at 57 _ rfl rfl) rfl rfl rfl
  have e79 : σ.ival 79 = (bif σ.bval 43 then σ.ival 66 else σ.ival 35) := eqIteI (e.at 58 _ rfl rfl) rfl rfl rfl
  have e80 : σ.ival 80 = (bif σ.bval 43 then σ.ival 67 else σ.ival 36) := eqIteI (e.at 59 _ rfl rfl) rfl rfl rfl
  have e81 : σ.ival 81 = (bif σ.bval 43 then σ.ival 68 else σ.ival 37) := eqIteI (e.at 60 _ rfl rfl) rfl rfl rfl
  have e82 : σ.ival 82 = (bif σ.bval 43 then σ.ival 69 else σ.ival 38) := eqIteI (e.at 61 _ rfl rfl) rfl rfl rfl
  have e83 : σ.ival 83 = (bif σ.bval 43 then σ.ival 70 else σ.ival 42) := eqIteI (e.at 62 _ rfl rfl) rfl rfl rfl
  have e84 : σ.ival 84 = (bif σ.bval 43 then σ.ival 71 else 0) := eqIteI (e.at 63 _ rfl rfl) rfl rfl rfl
  have e85 : σ.bval 85 = (bif σ.bval 43 then σ.bval 72 else false) := eqIteB (e.at 64 _ rfl rfl) rfl rfl rfl
  have e86 : σ.bval 86 = (bif σ.bval 43 then σ.bval 73 else false) := eqIteB (e.at 65 _ rfl rfl) rfl rfl rfl
  have e87 : σ.ival 87 = (bif σ.bval 39 then 0 else σ.ival 20) := eqIteI (e.at 66 _ rfl rfl) rfl rfl rfl
  have e88 : σ.ival 88 = (bif σ.bval 40 then 0 else σ.ival 87) := eqIteI (e.at 67 _ rfl rfl) rfl rfl rfl
  have e89 : σ.ival 89 = IntKind.u8.wrap (σ.ival 88 + 1) := eqI (e.at 68 _ rfl rfl) rfl
  have e90 : σ.bval 90 = decide (σ.ival 89 < 4) := eqB (e.at 69 _ rfl rfl) rfl
  have e91 : σ.ival 91 = IntKind.u8.wrap ((σ.ival 19 : Int).tdiv 2) := eqI (e.at 70 _ rfl rfl) rfl
  have e92 : σ.ival 92 = ((σ.ival 91 : Int).tmod 2) := eqI (e.at 71 _ rfl rfl) rfl
  have e93 : σ.bval 93 = (σ.ival 92 == 1) := eqB (e.at 72 _ rfl rfl) rfl
  have e94 : σ.bval 94 = (bif σ.bval 57 then σ.bval 93 else false) := eqIteB (e.at 73 _ rfl rfl) rfl rfl rfl
  have e95 : σ.ival 95 = (bif σ.bval 90 then σ.ival 30 else σ.ival 47) := eqIteI (e.at 74 _ rfl rfl) rfl rfl rfl
  have e96 : σ.ival 96 = (bif σ.bval 90 then σ.ival 31 else σ.ival 48) := eqIteI (e.at 75 _ rfl rfl) rfl rfl rfl
  have e97 : σ.ival 97 = (bif σ.bval 90 then σ.ival 32 else σ.ival 49) := eqIteI (e.at 76 _ rfl rfl) rfl rfl rfl
  have e98 : σ.ival 98 = (bif σ.bval 90 then σ.ival 33 else σ.ival 50) := eqIteI (e.at 77 _ rfl rfl) rfl rfl rfl
  have e99 : σ.ival 99 = (bif σ.bval 90 then σ.ival 34 else σ.ival 51) := eqIteI (e.at 78 _ rfl rfl) rfl rfl rfl
  have e100 : σ.ival 100 = (bif σ.bval 90 then σ.ival 35 else σ.ival 52) := eqIteI (e.at 79 _ rfl rfl) rfl rfl rfl
  have e101 : σ.ival 101 = (bif σ.bval 90 then σ.ival 36 else σ.ival 53) := eqIteI (e.at 80 _ rfl rfl) rfl rfl rfl
  have e102 : σ.ival 102 = (bif σ.bval 90 then σ.ival 37 else σ.ival 54) := eqIteI (e.at 81 _ rfl rfl) rfl rfl rfl
  have e103 : σ.ival 103 = (bif σ.bval 90 then σ.ival 38 else σ.ival 55) := eqIteI (e.at 82 _ rfl rfl) rfl rfl rfl
  have e104 : σ.ival 104 = (bif σ.bval 90 then σ.ival 89 else 0) := eqIteI (e.at 83 _ rfl rfl) rfl rfl rfl
  have e105 : σ.ival 105 = (bif σ.bval 90 then 0 else σ.ival 46) := eqIteI (e.at 84 _ rfl rfl) rfl rfl rfl
  have e106 : σ.bval 106 = (!σ.bval 90) := eqB (e.at 85 _ rfl rfl) rfl
  have e107 : σ.bval 107 = (bif σ.bval 90 then false else σ.bval 94) := eqIteB (e.at 86 _ rfl rfl) rfl rfl rfl
  have e108 : σ.ival 108 = (bif σ.bval 39 then σ.ival 30 else σ.ival 95) := eqIteI (e.at 87 _ rfl rfl) rfl rfl rfl
  have e109 : σ.ival 109 = (bif σ.bval 39 then σ.ival 31 else σ.ival 96) := eqIteI (e.at 88 _ rfl rfl) rfl rfl rfl
  have e110 : σ.ival 110 = (bif σ.bval 39 then σ.ival 32 else σ.ival 97) := eqIteI (e.at 89 _ rfl rfl) rfl rfl rfl
  have e111 : σ.ival 111 = (bif σ.bval 39 then σ.ival 33 else σ.ival 98) := eqIteI (e.at 90 _ rfl rfl) rfl rfl rfl
  have e112 : σ.ival 112 = (bif σ.bval 39 then σ.ival 34 else σ.ival 99) := eqIteI (e.at 91 _ rfl rfl) rfl rfl rfl
  have e113 : σ.ival 113 = (bif σ.bval 39 then σ.ival 35 else σ.ival 100) := eqIteI (e.at 92 _ rfl rfl) rfl rfl rfl
  have e114 : σ.ival 114 = (bif σ.bval 39 then σ.ival 36 else σ.ival 101) := eqIteI (e.at 93 _ rfl rfl) rfl rfl rfl
  have e115 : σ.ival 115 = (bif σ.bval 39 then σ.ival 37 else σ.ival 102) := eqIteI (e.at 94 _ rfl rfl) rfl rfl rfl
  have e116 : σ.ival 116 = (bif σ.bval 39 then σ.ival 38 else σ.ival 103) := eqIteI (e.at 95 _ rfl rfl) rfl rfl rfl
  have e117 : σ.ival 117 = (bif σ.bval 39 then σ.ival 88 else σ.ival 104) := eqIteI (e.at 96 _ rfl rfl) rfl rfl rfl
  have e118 : σ.ival 118 = (bif σ.bval 39 then 0 else σ.ival 105) := eqIteI (e.at 97 _ rfl rfl) rfl rfl rfl
  have e119 : σ.bval 119 = (bif σ.bval 39 then false else σ.bval 106) := eqIteB (e.at 98 _ rfl rfl) rfl rfl rfl
  have e120 : σ.bval 120 = (bif σ.bval 39 then false else σ.bval 107) := eqIteB (e.at 99 _ rfl rfl) rfl rfl rfl
  have w9 : IntKind.i64.wrap (σ.ival 9) = σ.ival 9 := hin 9 .i64 (by decide) rfl
  have w10 : IntKind.u8.wrap (σ.ival 10) = σ.ival 10 := hin 10 .u8 (by decide) rfl
  have w11 : IntKind.u8.wrap (σ.ival 11) = σ.ival 11 := hin 11 .u8 (by decide) rfl
  have w12 : IntKind.u8.wrap (σ.ival 12) = σ.ival 12 := hin 12 .u8 (by decide) rfl
  have w13 : IntKind.u8.wrap (σ.ival 13) = σ.ival 13 := hin 13 .u8 (by decide) rfl
  have w14 : IntKind.u8.wrap (σ.ival 14) = σ.ival 14 := hin 14 .u8 (by decide) rfl
  have w15 : IntKind.u8.wrap (σ.ival 15) = σ.ival 15 := hin 15 .u8 (by decide) rfl
  have w16 : IntKind.u8.wrap (σ.ival 16) = σ.ival 16 := hin 16 .u8 (by decide) rfl
  have w17 : IntKind.u8.wrap (σ.ival 17) = σ.ival 17 := hin 17 .u8 (by decide) rfl
  have m30 : σ.ival 30 = qk [σ.ival 9, σ.ival 10, σ.ival 11, σ.ival 12, σ.ival 13, σ.ival 14, σ.ival 15, σ.ival 16, σ.ival 17] := by rw [e30, ht]; exact qk_w [σ.ival 9, σ.ival 10, σ.ival 11, σ.ival 12, σ.ival 13, σ.ival 14, σ.ival 15, σ.ival 16, σ.ival 17]
  have m31 : σ.ival 31 = qb [σ.ival 9, σ.ival 10, σ.ival 11, σ.ival 12, σ.ival 13, σ.ival 14, σ.ival 15, σ.ival 16, σ.ival 17] 0 := by rw [e31, ht]; exact qb_w (l := [σ.ival 9, σ.ival 10, σ.ival 11, σ.ival 12, σ.ival 13, σ.ival 14, σ.ival 15, σ.ival 16, σ.ival 17]) 0 w10
  have m32 : σ.ival 32 = qb [σ.ival 9, σ.ival 10, σ.ival 11, σ.ival 12, σ.ival 13, σ.ival 14, σ.ival 15, σ.ival 16, σ.ival 17] 1 := by rw [e32, ht]; exact qb_w (l := [σ.ival 9, σ.ival 10, σ.ival 11, σ.ival 12, σ.ival 13, σ.ival 14, σ.ival 15, σ.ival 16, σ.ival 17]) 1 w11
  have m33 : σ.ival 33 = qb [σ.ival 9, σ.ival 10, σ.ival 11, σ.ival 12, σ.ival 13, σ.ival 14, σ.ival 15, σ.ival 16, σ.ival 17] 2 := by rw [e33, ht]; exact qb_w (l := [σ.ival 9, σ.ival 10, σ.ival 11, σ.ival 12, σ.ival 13, σ.ival 14, σ.ival 15, σ.ival 16, σ.ival 17]) 2 w12
  have m34 : σ.ival 34 = qb [σ.ival 9, σ.ival 10, σ.ival 11, σ.ival 12, σ.ival 13, σ.ival 14, σ.ival 15, σ.ival 16, σ.ival 17] 3 := by rw [e34, ht]; exact qb_w (l := [σ.ival 9, σ.ival 10, σ.ival 11, σ.ival 12, σ.ival 13, σ.ival 14, σ.ival 15, σ.ival 16, σ.ival 17]) 3 w13
  have m35 : σ.ival 35 = qb [σ.ival 9, σ.ival 10, σ.ival 11, σ.ival 12, σ.ival 13, σ.ival 14, σ.ival 15, σ.ival 16, σ.ival 17] 4 := by rw [e35, ht]; exact qb_w (l := [σ.ival 9, σ.ival 10, σ.ival 11, σ.ival 12, σ.ival 13, σ.ival 14, σ.ival 15, σ.ival 16, σ.ival 17]) 4 w14
  have m36 : σ.ival 36 = qb [σ.ival 9, σ.ival 10, σ.ival 11, σ.ival 12, σ.ival 13, σ.ival 14, σ.ival 15, σ.ival 16, σ.ival 17] 5 := by rw [e36, ht]; exact qb_w (l := [σ.ival 9, σ.ival 10, σ.ival 11, σ.ival 12, σ.ival 13, σ.ival 14, σ.ival 15, σ.ival 16, σ.ival 17]) 5 w15
  have m37 : σ.ival 37 = qb [σ.ival 9, σ.ival 10, σ.ival 11, σ.ival 12, σ.ival 13, σ.ival 14, σ.ival 15, σ.ival 16, σ.ival 17] 6 := by rw [e37, ht]; exact qb_w (l := [σ.ival 9, σ.ival 10, σ.ival 11, σ.ival 12, σ.ival 13, σ.ival 14, σ.ival 15, σ.ival 16, σ.ival 17]) 6 w16
  have m38 : σ.ival 38 = qb [σ.ival 9, σ.ival 10, σ.ival 11, σ.ival 12, σ.ival 13, σ.ival 14, σ.ival 15, σ.ival 16, σ.ival 17] 7 := by rw [e38, ht]; exact qb_w (l := [σ.ival 9, σ.ival 10, σ.ival 11, σ.ival 12, σ.ival 13, σ.ival 14, σ.ival 15, σ.ival 16, σ.ival 17]) 7 w17
  have w19 : IntKind.u8.wrap (σ.ival 19) = σ.ival 19 := hin 19 .u8 (by decide) rfl
  have w20 : IntKind.u8.wrap (σ.ival 20) = σ.ival 20 := hin 20 .u8 (by decide) rfl
  have c88 : σ.ival 88 = σ.ival 42 := by rw [e88, e87, e42, e41]; cases σ.bval 39 <;> cases σ.bval 40 <;> rfl
  have kt := qk_in [σ.ival 9, σ.ival 10, σ.ival 11, σ.ival 12, σ.ival 13, σ.ival 14, σ.ival 15, σ.ival 16, σ.ival 17]
  have hpop : σ.bval 39 = false → σ.bval 56 = true := by
    intro h
    rw [e39, m30] at h
    rw [e56, ht]
    show (!((popF [σ.ival 30, σ.ival 31, σ.ival 32, σ.ival 33, σ.ival 34, σ.ival 35, σ.ival 36, σ.ival 37, σ.ival 38]).getD 10 0 == 0)) = true
    have k0 : ¬ qk [σ.ival 30, σ.ival 31, σ.ival 32, σ.ival 33, σ.ival 34, σ.ival 35, σ.ival 36, σ.ival 37, σ.ival 38] = 0 := by
      rw [qk_of (l := [σ.ival 9, σ.ival 10, σ.ival 11, σ.ival 12, σ.ival 13, σ.ival 14, σ.ival 15, σ.ival 16, σ.ival 17]) (L := [σ.ival 30, σ.ival 31, σ.ival 32, σ.ival 33, σ.ival 34, σ.ival 35, σ.ival 36, σ.ival 37, σ.ival 38]) m30]; simpa using h
    rw [show popF [σ.ival 30, σ.ival 31, σ.ival 32, σ.ival 33, σ.ival 34, σ.ival 35, σ.ival 36, σ.ival 37, σ.ival 38] = [qb [σ.ival 30, σ.ival 31, σ.ival 32, σ.ival 33, σ.ival 34, σ.ival 35, σ.ival 36, σ.ival 37, σ.ival 38] 0, qk [σ.ival 30, σ.ival 31, σ.ival 32, σ.ival 33, σ.ival 34, σ.ival 35, σ.ival 36, σ.ival 37, σ.ival 38] - 1, qb [σ.ival 30, σ.ival 31, σ.ival 32, σ.ival 33, σ.ival 34, σ.ival 35, σ.ival 36, σ.ival 37, σ.ival 38] 1, qb [σ.ival 30, σ.ival 31, σ.ival 32, σ.ival 33, σ.ival 34, σ.ival 35, σ.ival 36, σ.ival 37, σ.ival 38] 2, qb [σ.ival 30, σ.ival 31, σ.ival 32, σ.ival 33, σ.ival 34, σ.ival 35, σ.ival 36, σ.ival 37, σ.ival 38] 3, qb [σ.ival 30, σ.ival 31, σ.ival 32, σ.ival 33, σ.ival 34, σ.ival 35, σ.ival 36, σ.ival 37, σ.ival 38] 4, qb [σ.ival 30, σ.ival 31, σ.ival 32, σ.ival 33, σ.ival 34, σ.ival 35, σ.ival 36, σ.ival 37, σ.ival 38] 5, qb [σ.ival 30, σ.ival 31, σ.ival 32, σ.ival 33, σ.ival 34, σ.ival 35, σ.ival 36, σ.ival 37, σ.ival 38] 6, qb [σ.ival 30, σ.ival 31, σ.ival 32, σ.ival 33, σ.ival 34, σ.ival 35, σ.ival 36, σ.ival 37, σ.ival 38] 7, 0, 1] from if_neg k0]; rfl
  have r19 := u8_range w19
  have r20 := u8_range w20
  have l42 : 0 ≤ σ.ival 42 ∧ σ.ival 42 < 4 := by
    rw [e42, e41]
    cases h39 : σ.bval 39 <;> cases h40 : σ.bval 40 <;> simp only [cond_true, cond_false] <;> (try omega)
    have := e40.symm.trans h40
    simp only [ge_iff_le, decide_eq_false_iff_not] at this
    omega
  have c93 : σ.bval 59 = σ.bval 93 := by rw [e59, e58, e93, e92, e91]; exact and2' r19
  have c94 : σ.bval 94 = σ.bval 60 := by rw [e60, e94, c93]
  have c89 : σ.ival 89 = σ.ival 44 := by rw [e89, e44, c88]
  have c90 : σ.bval 90 = !σ.bval 45 := by
    have h1 : σ.ival 44 = σ.ival 42 + 1 := e44.trans (u8w (by omega) (by omega))
    rw [e45, e90, c89, h1]
    by_cases h4 : σ.ival 42 + 1 = 4
    · rw [h4]; rfl
    · rw [show (σ.ival 42 + 1 == 4) = false by simpa using h4, show decide (σ.ival 42 + 1 < 4) = true by simp only [decide_eq_true_eq]; omega]; rfl
  have c39 : σ.bval 39 = !σ.bval 43 := by
    rw [e39, e43, m30]
    by_cases h0 : qk [σ.ival 9, σ.ival 10, σ.ival 11, σ.ival 12, σ.ival 13, σ.ival 14, σ.ival 15, σ.ival 16, σ.ival 17] = 0
    · rw [h0]; rfl
    · rw [show (qk [σ.ival 9, σ.ival 10, σ.ival 11, σ.ival 12, σ.ival 13, σ.ival 14, σ.ival 15, σ.ival 16, σ.ival 17] == 0) = false by simpa using h0, show decide (qk [σ.ival 9, σ.ival 10, σ.ival 11, σ.ival 12, σ.ival 13, σ.ival 14, σ.ival 15, σ.ival 16, σ.ival 17] > 0) = true by simp only [decide_eq_true_eq]; omega]; rfl
  have c108 : σ.ival 108 = σ.ival 74 := by rw [e108, e95, e74, e61, c39, c90]; cases σ.bval 43 <;> cases σ.bval 45 <;> rfl
  have c109 : σ.ival 109 = σ.ival 75 := by rw [e109, e96, e75, e62, c39, c90]; cases σ.bval 43 <;> cases σ.bval 45 <;> rfl
  have c110 : σ.ival 110 = σ.ival 76 := by rw [e110, e97, e76, e63, c39, c90]; cases σ.bval 43 <;> cases σ.bval 45 <;> rfl
  have c111 : σ.ival 111 = σ.ival 77 := by rw [e111, e98, e77, e64, c39, c90]; cases σ.bval 43 <;> cases σ.bval 45 <;> rfl
  have c112 : σ.ival 112 = σ.ival 78 := by rw [e112, e99, e78, e65, c39, c90]; cases σ.bval 43 <;> cases σ.bval 45 <;> rfl
  have c113 : σ.ival 113 = σ.ival 79 := by rw [e113, e100, e79, e66, c39, c90]; cases σ.bval 43 <;> cases σ.bval 45 <;> rfl
  have c114 : σ.ival 114 = σ.ival 80 := by rw [e114, e101, e80, e67, c39, c90]; cases σ.bval 43 <;> cases σ.bval 45 <;> rfl
  have c115 : σ.ival 115 = σ.ival 81 := by rw [e115, e102, e81, e68, c39, c90]; cases σ.bval 43 <;> cases σ.bval 45 <;> rfl
  have c116 : σ.ival 116 = σ.ival 82 := by rw [e116, e103, e82, e69, c39, c90]; cases σ.bval 43 <;> cases σ.bval 45 <;> rfl
  have c117 : σ.ival 117 = σ.ival 83 := by rw [e117, e104, e83, e70, c39, c90, c88, c89]; cases σ.bval 43 <;> cases σ.bval 45 <;> rfl
  have c118 : σ.ival 118 = σ.ival 84 := by rw [e118, e105, e84, e71, c39, c90]; cases σ.bval 43 <;> cases σ.bval 45 <;> rfl
  have c119 : σ.bval 119 = σ.bval 85 := by
    rw [e119, e106, e85, e72, c90]
    cases h : σ.bval 39
    · rw [hpop h]
      rw [c39] at h
      cases h2 : σ.bval 43
      · rw [h2] at h; cases h
      · cases σ.bval 45 <;> rfl
    · rw [c39] at h
      cases h2 : σ.bval 43
      · rfl
      · rw [h2] at h; cases h
  have c120 : σ.bval 120 = σ.bval 86 := by rw [e120, e107, e86, e73, c39, c90, c94]; cases σ.bval 43 <;> cases σ.bval 45 <;> rfl
  unfold numsOf utickA utickB
  simp only [List.map_cons, List.map_nil, den, numS, c108, c109, c110, c111, c112, c113, c114, c115, c116, c117, c118, c119, c120]
theorem utick_contract0 : FnOk Try.prog 23 tickI tickO utickF :=
  dag_contract (X := utickX) (cs := utickA) (cs1 := utickA) 12 mixed ⟨rfl, rfl, rfl, rfl, rfl⟩ utick_ok utick_lt (fun F => tbl_hooks utick_lt rfl rfl up_all F) utick_run0 (by kernel_rfl) (by kernel_rfl) (fun σ _ _ _ => rfl)
theorem utick_contract1 : FnOk Try.prog 58 tickI tickO utickF :=
  dag_contract (X := utickX) (cs := utickB) (cs1 := utickA) 12 mixed ⟨rfl, rfl, rfl, rfl, rfl⟩ utick_ok utick_lt (fun F => tbl_hooks utick_lt rfl rfl up_all F) utick_run1 (by kernel_rfl) (by kernel_rfl) (fun σ e ht hin => utick_eq σ e ht hin)

end Go.Proofs.Ytgifnmiggloclab.ud
