/-
  BankKeeps is true: the bank behind the acts is any bank (a contract of 'played', by the row); one more act of each kind on it, with unknown cells.
  No conditions.
-/
import Derived.Test.YtgifnmiggloclabRows
import Derived.WalkKit
import Derived.ProofKit
import Derived.OpenShut
import Derived.Below
import Derived.ChangeSame
import Derived.Test.YtgifnmiggloclabPl
namespace Go.Proofs.Ytgifnmiggloclab.bankKeeps
open Go.ChangeShapes Go.WideShapes Go.ChangeAt Go.RowKit
open Go.Ev Go.Proofs.Ytgifnmiggloclab.fc Go.Proofs.Ytgifnmiggloclab.uc Go.Proofs.Ytgifnmiggloclab.bd Go.Proofs.Ytgifnmiggloclab.bp Go.Proofs.Ytgifnmiggloclab.pl
set_option linter.unusedVariables false
set_option linter.unusedSimpArgs false

theorem own : ownKnob Try.prog.godebug = none := by kernel_rfl

theorem works_run : isTrue ((evD Try.prog (cxOf noIng) true 1000 40).1 [] 29 [] ⟨[], []⟩) = true := by kernel_rfl
theorem works_contract : FnOk Try.prog 29 [] [.one .b] (fun _ => [1]) := fun l hl w => closed_hook ⟨rfl, rfl, rfl, rfl, rfl, rfl⟩ (hm := fc.mixed) (hh := fun F => no_hooks rfl F) (h := works_run) (w := w)

def kpTru : List Ent := [⟨29, [], [.one .b], 0⟩]
def kpS0 : Shape := ⟨argT 0 [.row 0, .agg [.symi .u8 0, .symi .i8 1, .symi .i32 2]], []⟩
def kpSE : Shape := ⟨[(4, .symb 0)], []⟩
def kpInK : List (Option IntKind) := [some .u8, some .i8, some .i32, some .u8, some .u8, some .u8, some .i64, some .u8, some .u8, some .u8, some .u8, some .u8, some .u8, some .u8, some .u8, some .i64, some .u8, some .u8, some .u8, some .u8, some .u8, some .u8, some .u8, some .u8, none, some .u8, some .u8, some .u16, some .u16, some .u16, some .u16, some .u16, some .u16, some .u8, some .u8]
theorem kp_tru : ∀ e, e ∈ kpTru → FnOk Try.prog e.f e.ins [.one .b] (fun _ => [1]) := by
  intro e he
  simp only [kpTru, List.mem_singleton] at he
  subst he
  exact works_contract

def kpL0 : List AVal := [.symi .u8 3, .symi .u8 4, .symi .u8 5, .symi .i64 36, .symi .i32 2]
def kpL1 : List AVal := [.symi .i64 6, .symi .u8 7, .symi .u8 8, .symi .u8 9, .symi .u8 10, .symi .u8 11, .symi .u8 12, .symi .u8 13, .symi .u8 14, .symi .i64 15, .symi .u8 16, .symi .u8 17, .symi .u8 18, .symi .u8 19, .symi .u8 20, .symi .u8 21, .symi .u8 22, .symi .u8 23, .symb 24, .symi .u8 25, .symi .u8 26, .symi .i64 36, .symi .i32 2]
def kpL2 : List AVal := [.symi .u16 27, .symi .u16 28, .symi .u16 29, .symi .i64 68, .symi .i32 2]
def kpL3 : List AVal := [.symi .u16 30, .symi .u16 31, .symi .u16 32, .symi .i64 72, .symi .i32 2]
def kpL4 : List AVal := [.symi .i64 6, .symi .u8 7, .symi .u8 8, .symi .u8 9, .symi .u8 10, .symi .u8 11, .symi .u8 12, .symi .u8 13, .symi .u8 14, .symi .i64 15, .symi .u8 16, .symi .u8 17, .symi .u8 18, .symi .u8 19, .symi .u8 20, .symi .u8 21, .symi .u8 22, .symi .u8 23, .symb 24, .symi .u8 25, .symi .u8 26, .symi .i64 36]
def kpL5 : List AVal := [.symi .i64 6, .symi .u8 7, .symi .u8 8, .symi .u8 9, .symi .u8 10, .symi .u8 11, .symi .u8 12, .symi .u8 13, .symi .u8 14, .symi .i64 15, .symi .u8 16, .symi .u8 17, .symi .u8 18, .symi .u8 19, .symi .u8 20, .symi .u8 21, .symi .u8 22, .symi .u8 23, .symb 24, .symi .u8 25, .symi .u8 26]
def kpL6 : List AVal := [.symi .i64 6, .symi .u8 7, .symi .u8 8, .symi .u8 9, .symi .u8 10, .symi .u8 11, .symi .u8 12, .symi .u8 13, .symi .u8 14, .symi .i64 15, .symi .u8 16, .symi .u8 17, .symi .u8 18, .symi .u8 19, .symi .u8 20, .symi .u8 21, .symi .u8 22, .symi .u8 23, .symb 24, .symi .u8 25, .symi .u8 26, .symi .u8 76]
set_option maxRecDepth 100000 in
def kpG : List SDef := [.conv .i32 (.symi .u8 34),
  .conv .i64 (.symi .i8 1),
  .bin .quo (.symi .i64 36) (.int .i64 3),
  .bin .eql (.symi .i64 37) (.int .i64 0),
  .bin .eql (.symi .i64 37) (.int .i64 1),
  .bin .eql (.symi .i64 37) (.int .i64 2),
  .bin .eql (.symi .i64 37) (.int .i64 3),
  .bin .eql (.symi .i64 37) (.int .i64 4),
  .bin .geq (.symi .i64 36) (.int .i64 0),
  .fn 384 .u8 kpL0,
  .fn 385 .u8 kpL0,
  .fn 386 .u8 kpL0,
  .fn 128 .i64 kpL1,
  .fn 129 .u8 kpL1,
  .fn 130 .u8 kpL1,
  .fn 131 .u8 kpL1,
  .fn 132 .u8 kpL1,
  .fn 133 .u8 kpL1,
  .fn 134 .u8 kpL1,
  .fn 135 .u8 kpL1,
  .fn 136 .u8 kpL1,
  .fn 137 .i64 kpL1,
  .fn 138 .u8 kpL1,
  .fn 139 .u8 kpL1,
  .fn 140 .u8 kpL1,
  .fn 141 .u8 kpL1,
  .fn 142 .u8 kpL1,
  .fn 143 .u8 kpL1,
  .fn 144 .u8 kpL1,
  .fn 145 .u8 kpL1,
  .fnb 146 kpL1,
  .fn 147 .u8 kpL1,
  .fn 148 .u8 kpL1,
  .bin .sub (.symi .i64 36) (.int .i64 6),
  .fn 512 .u16 kpL2,
  .fn 513 .u16 kpL2,
  .fn 514 .u16 kpL2,
  .bin .sub (.symi .i64 36) (.int .i64 9),
  .fn 512 .u16 kpL3,
  .fn 513 .u16 kpL3,
  .fn 514 .u16 kpL3,
  .conv .u8 (.symi .i32 2),
  .bin .eql (.symi .i64 36) (.int .i64 12),
  .bin .eql (.symi .i64 36) (.int .i64 13),
  .bin .or (.symi .u8 34) (.symi .u8 76),
  .bin .eql (.symi .i64 36) (.int .i64 14),
  .bin .andNot (.symi .u8 34) (.symi .u8 76),
  .ite (.symb 80) (.symi .u8 81) (.symi .u8 34),
  .ite (.symb 78) (.symi .u8 79) (.symi .u8 82),
  .ite (.symb 77) (.symi .u8 76) (.symi .u8 33),
  .ite (.symb 77) (.symi .u8 34) (.symi .u8 83),
  .ite (.symb 43) (.symi .u8 44) (.symi .u8 3),
  .ite (.symb 43) (.symi .u8 45) (.symi .u8 4),
  .ite (.symb 43) (.symi .u8 46) (.symi .u8 5),
  .ite (.symb 43) (.symi .i64 47) (.symi .i64 6),
  .ite (.symb 43) (.symi .u8 48) (.symi .u8 7),
  .ite (.symb 43) (.symi .u8 49) (.symi .u8 8),
  .ite (.symb 43) (.symi .u8 50) (.symi .u8 9),
  .ite (.symb 43) (.symi .u8 51) (.symi .u8 10),
  .ite (.symb 43) (.symi .u8 52) (.symi .u8 11),
  .ite (.symb 43) (.symi .u8 53) (.symi .u8 12),
  .ite (.symb 43) (.symi .u8 54) (.symi .u8 13),
  .ite (.symb 43) (.symi .u8 55) (.symi .u8 14),
  .ite (.symb 43) (.symi .i64 56) (.symi .i64 15),
  .ite (.symb 43) (.symi .u8 57) (.symi .u8 16),
  .ite (.symb 43) (.symi .u8 58) (.symi .u8 17),
  .ite (.symb 43) (.symi .u8 59) (.symi .u8 18),
  .ite (.symb 43) (.symi .u8 60) (.symi .u8 19),
  .ite (.symb 43) (.symi .u8 61) (.symi .u8 20),
  .ite (.symb 43) (.symi .u8 62) (.symi .u8 21),
  .ite (.symb 43) (.symi .u8 63) (.symi .u8 22),
  .ite (.symb 43) (.symi .u8 64) (.symi .u8 23),
  .ite (.symb 43) (.symb 65) (.symb 24),
  .ite (.symb 43) (.symi .u8 66) (.symi .u8 25),
  .ite (.symb 43) (.symi .u8 67) (.symi .u8 26),
  .ite (.symb 43) (.symi .u16 69) (.symi .u16 27),
  .ite (.symb 43) (.symi .u16 70) (.symi .u16 28),
  .ite (.symb 43) (.symi .u16 71) (.symi .u16 29),
  .ite (.symb 43) (.symi .u16 73) (.symi .u16 30),
  .ite (.symb 43) (.symi .u16 74) (.symi .u16 31),
  .ite (.symb 43) (.symi .u16 75) (.symi .u16 32),
  .ite (.symb 43) (.symi .u8 84) (.symi .u8 33),
  .ite (.symb 43) (.symi .u8 85) (.symi .u8 34),
  .ite (.symb 42) (.symi .u8 116) (.symi .u8 33),
  .ite (.symb 42) (.symi .u8 117) (.symi .u8 34),
  .ite (.symb 41) (.symi .u16 113) (.symi .u16 30),
  .ite (.symb 41) (.symi .u16 114) (.symi .u16 31),
  .ite (.symb 41) (.symi .u16 115) (.symi .u16 32),
  .ite (.symb 41) (.symi .u8 33) (.symi .u8 118),
  .ite (.symb 41) (.symi .u8 34) (.symi .u8 119),
  .ite (.symb 40) (.symi .u16 110) (.symi .u16 27),
  .ite (.symb 40) (.symi .u16 111) (.symi .u16 28),
  .ite (.symb 40) (.symi .u16 112) (.symi .u16 29),
  .ite (.symb 40) (.symi .u16 30) (.symi .u16 120),
  .ite (.symb 40) (.symi .u16 31) (.symi .u16 121),
  .ite (.symb 40) (.symi .u16 32) (.symi .u16 122),
  .ite (.symb 40) (.symi .u8 33) (.symi .u8 123),
  .ite (.symb 40) (.symi .u8 34) (.symi .u8 124),
  .ite (.symb 39) (.symi .i64 89) (.symi .i64 6),
  .ite (.symb 39) (.symi .u8 90) (.symi .u8 7),
  .ite (.symb 39) (.symi .u8 91) (.symi .u8 8),
  .ite (.symb 39) (.symi .u8 92) (.symi .u8 9),
  .ite (.symb 39) (.symi .u8 93) (.symi .u8 10),
  .ite (.symb 39) (.symi .u8 94) (.symi .u8 11),
  .ite (.symb 39) (.symi .u8 95) (.symi .u8 12),
  .ite (.symb 39) (.symi .u8 96) (.symi .u8 13),
  .ite (.symb 39) (.symi .u8 97) (.symi .u8 14),
  .ite (.symb 39) (.symi .i64 98) (.symi .i64 15),
  .ite (.symb 39) (.symi .u8 99) (.symi .u8 16),
  .ite (.symb 39) (.symi .u8 100) (.symi .u8 17),
  .ite (.symb 39) (.symi .u8 101) (.symi .u8 18),
  .ite (.symb 39) (.symi .u8 102) (.symi .u8 19),
  .ite (.symb 39) (.symi .u8 103) (.symi .u8 20),
  .ite (.symb 39) (.symi .u8 104) (.symi .u8 21),
  .ite (.symb 39) (.symi .u8 105) (.symi .u8 22),
  .ite (.symb 39) (.symi .u8 106) (.symi .u8 23),
  .ite (.symb 39) (.symb 107) (.symb 24),
  .ite (.symb 39) (.symi .u8 108) (.symi .u8 25),
  .ite (.symb 39) (.symi .u8 109) (.symi .u8 26),
  .ite (.symb 39) (.symi .u16 27) (.symi .u16 125),
  .ite (.symb 39) (.symi .u16 28) (.symi .u16 126),
  .ite (.symb 39) (.symi .u16 29) (.symi .u16 127),
  .ite (.symb 39) (.symi .u16 30) (.symi .u16 128),
  .ite (.symb 39) (.symi .u16 31) (.symi .u16 129),
  .ite (.symb 39) (.symi .u16 32) (.symi .u16 130),
  .ite (.symb 39) (.symi .u8 33) (.symi .u8 131),
  .ite (.symb 39) (.symi .u8 34) (.symi .u8 132),
  .ite (.symb 38) (.symi .u8 86) (.symi .u8 3),
  .ite (.symb 38) (.symi .u8 87) (.symi .u8 4),
  .ite (.symb 38) (.symi .u8 88) (.symi .u8 5),
  .ite (.symb 38) (.symi .i64 6) (.symi .i64 133),
  .ite (.symb 38) (.symi .u8 7) (.symi .u8 134),
  .ite (.symb 38) (.symi .u8 8) (.symi .u8 135),
  .ite (.symb 38) (.symi .u8 9) (.symi .u8 136),
  .ite (.symb 38) (.symi .u8 10) (.symi .u8 137),
  .ite (.symb 38) (.symi .u8 11) (.symi .u8 138),
  .ite (.symb 38) (.symi .u8 12) (.symi .u8 139),
  .ite (.symb 38) (.symi .u8 13) (.symi .u8 140),
  .ite (.symb 38) (.symi .u8 14) (.symi .u8 141),
  .ite (.symb 38) (.symi .i64 15) (.symi .i64 142),
  .ite (.symb 38) (.symi .u8 16) (.symi .u8 143),
  .ite (.symb 38) (.symi .u8 17) (.symi .u8 144),
  .ite (.symb 38) (.symi .u8 18) (.symi .u8 145),
  .ite (.symb 38) (.symi .u8 19) (.symi .u8 146),
  .ite (.symb 38) (.symi .u8 20) (.symi .u8 147),
  .ite (.symb 38) (.symi .u8 21) (.symi .u8 148),
  .ite (.symb 38) (.symi .u8 22) (.symi .u8 149),
  .ite (.symb 38) (.symi .u8 23) (.symi .u8 150),
  .ite (.symb 38) (.symb 24) (.symb 151),
  .ite (.symb 38) (.symi .u8 25) (.symi .u8 152),
  .ite (.symb 38) (.symi .u8 26) (.symi .u8 153),
  .ite (.symb 38) (.symi .u16 27) (.symi .u16 154),
  .ite (.symb 38) (.symi .u16 28) (.symi .u16 155),
  .ite (.symb 38) (.symi .u16 29) (.symi .u16 156),
  .ite (.symb 38) (.symi .u16 30) (.symi .u16 157),
  .ite (.symb 38) (.symi .u16 31) (.symi .u16 158),
  .ite (.symb 38) (.symi .u16 32) (.symi .u16 159),
  .ite (.symb 38) (.symi .u8 33) (.symi .u8 160),
  .ite (.symb 38) (.symi .u8 34) (.symi .u8 161),
  .conv .i32 (.symi .u8 193),
  .bin .and (.symi .i32 2) (.int .i32 255),
  .bin .sub (.int .i32 255) (.symi .i32 195),
  .bin .and (.symi .i32 35) (.symi .i32 196),
  .bin .neq (.symi .i32 194) (.symi .i32 197),
  .bin .or (.symi .i32 35) (.symi .i32 195),
  .bin .neq (.symi .i32 194) (.symi .i32 199),
  .bin .neq (.symi .i32 194) (.symi .i32 35),
  .un .not (.symb 43),
  .fn 320 .i32 [.symi .u8 3, .symi .u8 4, .symi .u8 5, .symi .i64 36],
  .fn 64 .i32 kpL4,
  .fn 65 .i64 kpL4,
  .fn 66 .u8 kpL4,
  .fn 67 .u8 kpL4,
  .fn 68 .u8 kpL4,
  .fn 69 .u8 kpL4,
  .fn 70 .u8 kpL4,
  .fn 71 .u8 kpL4,
  .fn 72 .u8 kpL4,
  .fn 73 .u8 kpL4,
  .fn 74 .i64 kpL4,
  .fn 75 .u8 kpL4,
  .fn 76 .u8 kpL4,
  .fn 77 .u8 kpL4,
  .fn 78 .u8 kpL4,
  .fn 79 .u8 kpL4,
  .fn 80 .u8 kpL4,
  .fn 81 .u8 kpL4,
  .fn 82 .u8 kpL4,
  .fnb 83 kpL4,
  .fn 84 .u8 kpL4,
  .fn 85 .u8 kpL4,
  .fn 448 .i32 [.symi .u16 27, .symi .u16 28, .symi .u16 29, .symi .i64 68],
  .fn 448 .i32 [.symi .u16 30, .symi .u16 31, .symi .u16 32, .symi .i64 72],
  .conv .i32 (.symi .u8 33),
  .ite (.symb 78) (.symi .i32 35) (.int .i32 0),
  .ite (.symb 77) (.symi .i32 228) (.symi .i32 229),
  .ite (.symb 202) (.int .i32 0) (.symi .i32 203),
  .ite (.symb 202) (.int .i32 0) (.symi .i32 204),
  .ite (.symb 202) (.symi .i64 6) (.symi .i64 205),
  .ite (.symb 202) (.symi .u8 7) (.symi .u8 206),
  .ite (.symb 202) (.symi .u8 8) (.symi .u8 207),
  .ite (.symb 202) (.symi .u8 9) (.symi .u8 208),
  .ite (.symb 202) (.symi .u8 10) (.symi .u8 209),
  .ite (.symb 202) (.symi .u8 11) (.symi .u8 210),
  .ite (.symb 202) (.symi .u8 12) (.symi .u8 211),
  .ite (.symb 202) (.symi .u8 13) (.symi .u8 212),
  .ite (.symb 202) (.symi .u8 14) (.symi .u8 213),
  .ite (.symb 202) (.symi .i64 15) (.symi .i64 214),
  .ite (.symb 202) (.symi .u8 16) (.symi .u8 215),
  .ite (.symb 202) (.symi .u8 17) (.symi .u8 216),
  .ite (.symb 202) (.symi .u8 18) (.symi .u8 217),
  .ite (.symb 202) (.symi .u8 19) (.symi .u8 218),
  .ite (.symb 202) (.symi .u8 20) (.symi .u8 219),
  .ite (.symb 202) (.symi .u8 21) (.symi .u8 220),
  .ite (.symb 202) (.symi .u8 22) (.symi .u8 221),
  .ite (.symb 202) (.symi .u8 23) (.symi .u8 222),
  .ite (.symb 202) (.symb 24) (.symb 223),
  .ite (.symb 202) (.symi .u8 25) (.symi .u8 224),
  .ite (.symb 202) (.symi .u8 26) (.symi .u8 225),
  .ite (.symb 202) (.int .i32 0) (.symi .i32 226),
  .ite (.symb 202) (.int .i32 0) (.symi .i32 227),
  .ite (.symb 202) (.int .i32 0) (.symi .i32 230),
  .ite (.symb 42) (.symi .i32 256) (.int .i32 0),
  .ite (.symb 41) (.symi .i32 255) (.symi .i32 257),
  .ite (.symb 40) (.symi .i32 254) (.symi .i32 258),
  .ite (.symb 39) (.symi .i32 232) (.symi .i32 259),
  .ite (.symb 39) (.symi .i64 233) (.symi .i64 6),
  .ite (.symb 39) (.symi .u8 234) (.symi .u8 7),
  .ite (.symb 39) (.symi .u8 235) (.symi .u8 8),
  .ite (.symb 39) (.symi .u8 236) (.symi .u8 9),
  .ite (.symb 39) (.symi .u8 237) (.symi .u8 10),
  .ite (.symb 39) (.symi .u8 238) (.symi .u8 11),
  .ite (.symb 39) (.symi .u8 239) (.symi .u8 12),
  .ite (.symb 39) (.symi .u8 240) (.symi .u8 13),
  .ite (.symb 39) (.symi .u8 241) (.symi .u8 14),
  .ite (.symb 39) (.symi .i64 242) (.symi .i64 15),
  .ite (.symb 39) (.symi .u8 243) (.symi .u8 16),
  .ite (.symb 39) (.symi .u8 244) (.symi .u8 17),
  .ite (.symb 39) (.symi .u8 245) (.symi .u8 18),
  .ite (.symb 39) (.symi .u8 246) (.symi .u8 19),
  .ite (.symb 39) (.symi .u8 247) (.symi .u8 20),
  .ite (.symb 39) (.symi .u8 248) (.symi .u8 21),
  .ite (.symb 39) (.symi .u8 249) (.symi .u8 22),
  .ite (.symb 39) (.symi .u8 250) (.symi .u8 23),
  .ite (.symb 39) (.symb 251) (.symb 24),
  .ite (.symb 39) (.symi .u8 252) (.symi .u8 25),
  .ite (.symb 39) (.symi .u8 253) (.symi .u8 26),
  .ite (.symb 38) (.symi .i32 231) (.symi .i32 260),
  .ite (.symb 38) (.symi .i64 6) (.symi .i64 261),
  .ite (.symb 38) (.symi .u8 7) (.symi .u8 262),
  .ite (.symb 38) (.symi .u8 8) (.symi .u8 263),
  .ite (.symb 38) (.symi .u8 9) (.symi .u8 264),
  .ite (.symb 38) (.symi .u8 10) (.symi .u8 265),
  .ite (.symb 38) (.symi .u8 11) (.symi .u8 266),
  .ite (.symb 38) (.symi .u8 12) (.symi .u8 267),
  .ite (.symb 38) (.symi .u8 13) (.symi .u8 268),
  .ite (.symb 38) (.symi .u8 14) (.symi .u8 269),
  .ite (.symb 38) (.symi .i64 15) (.symi .i64 270),
  .ite (.symb 38) (.symi .u8 16) (.symi .u8 271),
  .ite (.symb 38) (.symi .u8 17) (.symi .u8 272),
  .ite (.symb 38) (.symi .u8 18) (.symi .u8 273),
  .ite (.symb 38) (.symi .u8 19) (.symi .u8 274),
  .ite (.symb 38) (.symi .u8 20) (.symi .u8 275),
  .ite (.symb 38) (.symi .u8 21) (.symi .u8 276),
  .ite (.symb 38) (.symi .u8 22) (.symi .u8 277),
  .ite (.symb 38) (.symi .u8 23) (.symi .u8 278),
  .ite (.symb 38) (.symb 24) (.symb 279),
  .ite (.symb 38) (.symi .u8 25) (.symi .u8 280),
  .ite (.symb 38) (.symi .u8 26) (.symi .u8 281),
  .fn 576 .u16 [.symi .u16 27, .symi .u16 28, .symi .u16 29],
  .fn 577 .u16 [.symi .u16 27, .symi .u16 28, .symi .u16 29],
  .fn 578 .u16 [.symi .u16 27, .symi .u16 28, .symi .u16 29],
  .fnb 579 [.symi .u16 27, .symi .u16 28, .symi .u16 29],
  .bin .or (.symi .u8 34) (.int .u8 8),
  .ite (.symb 307) (.symi .u8 308) (.symi .u8 34),
  .fn 576 .u16 [.symi .u16 30, .symi .u16 31, .symi .u16 32],
  .fn 577 .u16 [.symi .u16 30, .symi .u16 31, .symi .u16 32],
  .fn 578 .u16 [.symi .u16 30, .symi .u16 31, .symi .u16 32],
  .fnb 579 [.symi .u16 30, .symi .u16 31, .symi .u16 32],
  .bin .or (.symi .u8 309) (.int .u8 16),
  .ite (.symb 313) (.symi .u8 314) (.symi .u8 309),
  .fn 256 .i64 kpL5,
  .fn 257 .u8 kpL5,
  .fn 258 .u8 kpL5,
  .fn 259 .u8 kpL5,
  .fn 260 .u8 kpL5,
  .fn 261 .u8 kpL5,
  .fn 262 .u8 kpL5,
  .fn 263 .u8 kpL5,
  .fn 264 .u8 kpL5,
  .fn 265 .i64 kpL5,
  .fn 266 .u8 kpL5,
  .fn 267 .u8 kpL5,
  .fn 268 .u8 kpL5,
  .fn 269 .u8 kpL5,
  .fn 270 .u8 kpL5,
  .fn 271 .u8 kpL5,
  .fn 272 .u8 kpL5,
  .fn 273 .u8 kpL5,
  .fnb 274 kpL5,
  .fn 275 .u8 kpL5,
  .fn 276 .u8 kpL5,
  .fn 277 .u8 kpL5,
  .fnb 278 kpL5,
  .fnb 279 kpL5,
  .bin .or (.symi .u8 315) (.int .u8 4),
  .ite (.symb 339) (.symi .u8 340) (.symi .u8 315),
  .fn 832 .u8 [.symi .u8 3, .symi .u8 4, .symi .u8 5, .symi .u8 76],
  .fn 833 .u8 [.symi .u8 3, .symi .u8 4, .symi .u8 5, .symi .u8 76],
  .fn 834 .u8 [.symi .u8 3, .symi .u8 4, .symi .u8 5, .symi .u8 76],
  .fnb 835 [.symi .u8 3, .symi .u8 4, .symi .u8 5, .symi .u8 76],
  .bin .or (.symi .u8 34) (.int .u8 1),
  .ite (.symb 345) (.symi .u8 346) (.symi .u8 34),
  .conv .i32 (.symi .u8 347),
  .fn 192 .i64 kpL6,
  .fn 193 .u8 kpL6,
  .fn 194 .u8 kpL6,
  .fn 195 .u8 kpL6,
  .fn 196 .u8 kpL6,
  .fn 197 .u8 kpL6,
  .fn 198 .u8 kpL6,
  .fn 199 .u8 kpL6,
  .fn 200 .u8 kpL6,
  .fn 201 .i64 kpL6,
  .fn 202 .u8 kpL6,
  .fn 203 .u8 kpL6,
  .fn 204 .u8 kpL6,
  .fn 205 .u8 kpL6,
  .fn 206 .u8 kpL6,
  .fn 207 .u8 kpL6,
  .fn 208 .u8 kpL6,
  .fn 209 .u8 kpL6,
  .fnb 210 kpL6,
  .fn 211 .u8 kpL6,
  .fn 212 .u8 kpL6,
  .fnb 213 kpL6,
  .bin .or (.symi .u8 34) (.int .u8 2),
  .ite (.symb 370) (.symi .u8 371) (.symi .u8 34),
  .conv .i32 (.symi .u8 372),
  .conv .i32 (.symi .u8 341),
  .bin .andNot (.symi .i32 348) (.int .i32 1),
  .bin .andNot (.symi .i32 35) (.int .i32 1),
  .bin .eql (.symi .i32 375) (.symi .i32 376),
  .bin .and (.symi .i32 348) (.symi .i32 35),
  .bin .eql (.symi .i32 378) (.symi .i32 35),
  .bin .andNot (.symi .i32 373) (.int .i32 2),
  .bin .andNot (.symi .i32 35) (.int .i32 2),
  .bin .eql (.symi .i32 380) (.symi .i32 381),
  .bin .and (.symi .i32 373) (.symi .i32 35),
  .bin .eql (.symi .i32 383) (.symi .i32 35),
  .bin .andNot (.symi .i32 374) (.int .i32 28),
  .bin .andNot (.symi .i32 35) (.int .i32 28),
  .bin .eql (.symi .i32 385) (.symi .i32 386),
  .bin .and (.symi .i32 374) (.symi .i32 35),
  .bin .eql (.symi .i32 388) (.symi .i32 35),
  .ite (.symb 77) (.symi .i32 228) (.symi .i32 35),
  .ite (.symb 202) (.int .i32 0) (.symi .i32 390),
  .ite (.symb 42) (.symi .i32 391) (.int .i32 0),
  .ite (.symb 41) (.symi .i32 255) (.symi .i32 392),
  .ite (.symb 40) (.symi .i32 254) (.symi .i32 393),
  .ite (.symb 39) (.symi .i32 232) (.symi .i32 394),
  .ite (.symb 38) (.symi .i32 231) (.symi .i32 395),
  .ite (.symb 77) (.symi .i32 228) (.int .i32 0),
  .ite (.symb 202) (.int .i32 0) (.symi .i32 397),
  .ite (.symb 42) (.symi .i32 398) (.int .i32 0),
  .ite (.symb 41) (.symi .i32 255) (.symi .i32 399),
  .ite (.symb 40) (.symi .i32 254) (.symi .i32 400),
  .ite (.symb 39) (.symi .i32 232) (.symi .i32 401),
  .ite (.symb 38) (.symi .i32 231) (.symi .i32 402)]

set_option maxRecDepth 100000 in
def kpT : LT := .n (.n (.n (.n (.n (.n (.n (.n (.n (.e) 3527935 248 (.ite (.symb 202) (.symi .u8 21) (.symi .u8 220)) (.e)) 6363570 100 (.ite (.symb 43) (.symi .u8 58) (.symi .u8 17)) (.e)) 15695296 167 (.ite (.symb 38) (.symi .u8 8) (.symi .u8 135)) (.n (.n (.e) 16400394 285 (.ite (.symb 38) (.symi .u8 8) (.symi .u8 263)) (.e)) 20881789 271 (.ite (.symb 39) (.symi .u8 243) (.symi .u8 16)) (.e))) 39653961 143 (.ite (.symb 39) (.symi .u8 99) (.symi .u8 16)) (.n (.n (.n (.e) 47002361 185 (.ite (.symb 38) (.symi .u8 26) (.symi .u8 153)) (.e)) 47707459 303 (.ite (.symb 38) (.symi .u8 26) (.symi .u8 281)) (.e)) 48176737 202 (.un .not (.symb 43)) (.n (.n (.e) 51005289 241 (.ite (.symb 202) (.symi .u8 14) (.symi .u8 213)) (.e)) 51837150 307 (.fnb 579 [.symi .u16 27, .symi .u16 28, .symi .u16 29]) (.e)))) 53840924 93 (.ite (.symb 43) (.symi .u8 51) (.symi .u8 10)) (.n (.n (.n (.n (.e) 54483765 160 (.ite (.symb 39) (.symi .u8 33) (.symi .u8 131)) (.e)) 59226555 131 (.ite (.symb 40) (.symi .u8 33) (.symi .u8 123)) (.e)) 68359143 264 (.ite (.symb 39) (.symi .u8 236) (.symi .u8 9)) (.n (.n (.e) 71391563 314 (.bin .or (.symi .u8 309) (.int .u8 16)) (.e)) 79005075 255 (.ite (.symb 202) (.int .i32 0) (.symi .i32 227)) (.e))) 87131315 136 (.ite (.symb 39) (.symi .u8 92) (.symi .u8 9)) (.n (.n (.n (.e) 92259531 380 (.bin .andNot (.symi .i32 373) (.int .i32 2)) (.e)) 94479715 178 (.ite (.symb 38) (.symi .u8 19) (.symi .u8 146)) (.e)) 95184813 296 (.ite (.symb 38) (.symi .u8 19) (.symi .u8 274)) (.n (.n (.e) 98482643 234 (.ite (.symb 202) (.symi .u8 7) (.symi .u8 206)) (.e)) 101318278 86 (.ite (.symb 43) (.symi .u8 44) (.symi .u8 3)) (.e))))) 103000641 36 (.conv .i64 (.symi .i8 1)) (.n (.n (.n (.n (.n (.e) 129789708 252 (.ite (.symb 202) (.symi .u8 25) (.symi .u8 224)) (.e)) 132363796 349 (.fn 192 .i64 kpL6) (.e)) 132363839 350 (.fn 193 .u8 kpL6) (.n (.n (.e) 132363882 351 (.fn 194 .u8 kpL6) (.e)) 132363925 352 (.fn 195 .u8 kpL6) (.e))) 132363968 353 (.fn 196 .u8 kpL6) (.n (.n (.n (.e) 132364011 354 (.fn 197 .u8 kpL6) (.e)) 132364054 355 (.fn 198 .u8 kpL6) (.e)) 132364097 356 (.fn 199 .u8 kpL6) (.n (.n (.e) 132364140 357 (.fn 200 .u8 kpL6) (.e)) 132364183 358 (.fn 201 .i64 kpL6) (.e)))) 132364226 359 (.fn 202 .u8 kpL6) (.n (.n (.n (.n (.e) 132364269 360 (.fn 203 .u8 kpL6) (.e)) 132364312 361 (.fn 204 .u8 kpL6) (.e)) 132364355 362 (.fn 205 .u8 kpL6) (.n (.n (.e) 132364398 363 (.fn 206 .u8 kpL6) (.e)) 132364441 364 (.fn 207 .u8 kpL6) (.e))) 132364484 365 (.fn 208 .u8 kpL6) (.n (.n (.n (.e) 132364527 366 (.fn 209 .u8 kpL6) (.e)) 132364613 368 (.fn 211 .u8 kpL6) (.e)) 132364656 369 (.fn 212 .u8 kpL6) (.n (.e) 132625343 104 (.ite (.symb 43) (.symi .u8 62) (.symi .u8 21)) (.e)))))) 132957981 223 (.fnb 83 kpL4) (.n (.n (.n (.n (.n (.n (.e) 141957069 171 (.ite (.symb 38) (.symi .u8 12) (.symi .u8 139)) (.e)) 142662167 289 (.ite (.symb 38) (.symi .u8 12) (.symi .u8 267)) (.e)) 147143562 275 (.ite (.symb 39) (.symi .u8 247) (.symi .u8 20)) (.n (.n (.e) 153932378 117 (.ite (.symb 43) (.symi .u8 85) (.symi .u8 34)) (.e)) 154167259 313 (.fnb 579 [.symi .u16 30, .symi .u16 31, .symi .u16 32]) (.e))) 165915734 147 (.ite (.symb 39) (.symi .u8 103) (.symi .u8 20)) (.n (.n (.n (.e) 166858379 84 (.ite (.symb 77) (.symi .u8 76) (.symi .u8 33)) (.e)) 173264134 189 (.ite (.symb 38) (.symi .u16 30) (.symi .u16 157)) (.e)) 175730355 372 (.ite (.symb 370) (.symi .u8 371) (.symi .u8 34)) (.n (.n (.e) 177267062 245 (.ite (.symb 202) (.symi .u8 18) (.symi .u8 217)) (.e)) 177785048 228 (.conv .i32 (.symi .u8 33)) (.e)))) 180102697 97 (.ite (.symb 43) (.symi .u8 55) (.symi .u8 14)) (.n (.n (.n (.n (.e) 187973887 118 (.ite (.symb 42) (.symi .u8 116) (.symi .u8 33)) (.e)) 194560744 385 (.bin .andNot (.symi .i32 374) (.int .i32 28)) (.e)) 194620916 268 (.ite (.symb 39) (.symi .u8 240) (.symi .u8 13)) (.n (.n (.e) 206000950 76 (.conv .u8 (.symi .i32 2)) (.e)) 209409756 114 (.ite (.symb 43) (.symi .u16 74) (.symi .u16 31)) (.e))) 212845215 346 (.bin .or (.symi .u8 34) (.int .u8 1)) (.n (.n (.n (.e) 212895250 371 (.bin .or (.symi .u8 34) (.int .u8 2)) (.e)) 213195460 308 (.bin .or (.symi .u8 34) (.int .u8 8)) (.e)) 213393088 140 (.ite (.symb 39) (.symi .u8 96) (.symi .u8 13)) (.n (.e) 214769883 195 (.bin .and (.symi .i32 2) (.int .i32 255)) (.e))))) 215398986 342 (.fn 832 .u8 [.symi .u8 3, .symi .u8 4, .symi .u8 5, .symi .u8 76]) (.n (.n (.n (.n (.n (.e) 215399029 343 (.fn 833 .u8 [.symi .u8 3, .symi .u8 4, .symi .u8 5, .symi .u8 76]) (.e)) 215399072 344 (.fn 834 .u8 [.symi .u8 3, .symi .u8 4, .symi .u8 5, .symi .u8 76]) (.e)) 220741488 182 (.ite (.symb 38) (.symi .u8 23) (.symi .u8 150)) (.n (.n (.e) 221446586 300 (.ite (.symb 38) (.symi .u8 23) (.symi .u8 278)) (.e)) 222708427 120 (.ite (.symb 41) (.symi .u16 113) (.symi .u16 30)) (.e))) 224744416 238 (.ite (.symb 202) (.symi .u8 11) (.symi .u8 210)) (.n (.n (.n (.e) 227580051 90 (.ite (.symb 43) (.symi .u8 48) (.symi .u8 7)) (.e)) 228222892 157 (.ite (.symb 39) (.symi .u16 30) (.symi .u16 128)) (.e)) 232965682 128 (.ite (.symb 40) (.symi .u16 30) (.symi .u16 120)) (.n (.n (.e) 234148436 111 (.ite (.symb 43) (.symi .u16 70) (.symi .u16 28)) (.e)) 234655818 384 (.bin .eql (.symi .i32 383) (.symi .i32 35)) (.e)))) 242098270 261 (.ite (.symb 39) (.symi .i64 233) (.symi .i64 6)) (.n (.n (.n (.n (.e) 257442967 125 (.ite (.symb 40) (.symi .u16 110) (.symi .u16 27)) (.e)) 258887116 108 (.ite (.symb 43) (.symi .u8 66) (.symi .u8 25)) (.e)) 260870442 133 (.ite (.symb 39) (.symi .i64 89) (.symi .i64 6)) (.n (.n (.e) 261656076 198 (.bin .neq (.symi .i32 194) (.symi .i32 197)) (.e)) 268218842 175 (.ite (.symb 38) (.symi .u8 16) (.symi .u8 143)) (.e))) 268923940 293 (.ite (.symb 38) (.symi .u8 16) (.symi .u8 271)) (.n (.n (.n (.e) 274637225 279 (.ite (.symb 39) (.symb 251) (.symb 24)) (.e)) 280785357 35 (.conv .i32 (.symi .u8 34)) (.e)) 285024272 309 (.ite (.symb 307) (.symi .u8 308) (.symi .u8 34)) (.n (.e) 292765717 151 (.ite (.symb 39) (.symb 107) (.symb 24)) (.e))))))) 295604982 162 (.ite (.symb 38) (.symi .u8 86) (.symi .u8 3)) (.n (.n (.n (.n (.n (.n (.n (.e) 298394573 383 (.bin .and (.symi .i32 373) (.symi .i32 35)) (.e)) 299525907 193 (.ite (.symb 38) (.symi .u8 34) (.symi .u8 161)) (.e)) 303528835 249 (.ite (.symb 202) (.symi .u8 22) (.symi .u8 221)) (.n (.n (.e) 306364470 101 (.ite (.symb 43) (.symi .u8 59) (.symi .u8 18)) (.e)) 307627264 348 (.conv .i32 (.symi .u8 347)) (.e))) 313845546 376 (.bin .andNot (.symi .i32 35) (.int .i32 1)) (.n (.n (.n (.e) 313895581 381 (.bin .andNot (.symi .i32 35) (.int .i32 2)) (.e)) 315196491 386 (.bin .andNot (.symi .i32 35) (.int .i32 28)) (.e)) 315696196 168 (.ite (.symb 38) (.symi .u8 9) (.symi .u8 136)) (.n (.n (.e) 316401294 286 (.ite (.symb 38) (.symi .u8 9) (.symi .u8 264)) (.e)) 320882689 272 (.ite (.symb 39) (.symi .u8 244) (.symi .u8 17)) (.e)))) 339550994 304 (.fn 576 .u16 [.symi .u16 27, .symi .u16 28, .symi .u16 29]) (.n (.n (.n (.n (.e) 339551037 305 (.fn 577 .u16 [.symi .u16 27, .symi .u16 28, .symi .u16 29]) (.e)) 339551080 306 (.fn 578 .u16 [.symi .u16 27, .symi .u16 28, .symi .u16 29]) (.e)) 339654861 144 (.ite (.symb 39) (.symi .u8 100) (.symi .u8 17)) (.n (.n (.e) 347003261 186 (.ite (.symb 38) (.symi .u16 27) (.symi .u16 154)) (.e)) 351006189 242 (.ite (.symb 202) (.symi .i64 15) (.symi .i64 214)) (.e))) 353841824 94 (.ite (.symb 43) (.symi .u8 52) (.symi .u8 11)) (.n (.n (.n (.e) 354484665 161 (.ite (.symb 39) (.symi .u8 34) (.symi .u8 132)) (.e)) 358551472 73 (.fn 512 .u16 kpL3) (.e)) 358551515 74 (.fn 513 .u16 kpL3) (.n (.e) 358551558 75 (.fn 514 .u16 kpL3) (.e))))) 359227455 132 (.ite (.symb 40) (.symi .u8 34) (.symi .u8 124)) (.n (.n (.n (.n (.n (.e) 362137936 44 (.fn 384 .u8 kpL0) (.e)) 362137979 45 (.fn 385 .u8 kpL0) (.e)) 362138022 46 (.fn 386 .u8 kpL0) (.n (.n (.e) 368360043 265 (.ite (.symb 39) (.symi .u8 237) (.symi .u8 10)) (.e)) 382113347 196 (.bin .sub (.int .i32 255) (.symi .i32 195)) (.e))) 385120428 85 (.ite (.symb 77) (.symi .u8 34) (.symi .u8 83)) (.n (.n (.n (.e) 387132215 137 (.ite (.symb 39) (.symi .u8 93) (.symi .u8 10)) (.e)) 392704957 341 (.ite (.symb 339) (.symi .u8 340) (.symi .u8 315)) (.e)) 394480615 179 (.ite (.symb 38) (.symi .u8 20) (.symi .u8 147)) (.n (.n (.e) 395185713 297 (.ite (.symb 38) (.symi .u8 20) (.symi .u8 275)) (.e)) 398483543 235 (.ite (.symb 202) (.symi .u8 8) (.symi .u8 207)) (.e)))) 399394876 388 (.bin .and (.symi .i32 374) (.symi .i32 35)) (.n (.n (.n (.n (.e) 401319178 87 (.ite (.symb 43) (.symi .u8 45) (.symi .u8 4)) (.e)) 401962019 154 (.ite (.symb 39) (.symi .u16 27) (.symi .u16 125)) (.e)) 406133001 82 (.ite (.symb 80) (.symi .u8 81) (.symi .u8 34)) (.n (.n (.e) 414795856 43 (.bin .geq (.symi .i64 36) (.int .i64 0)) (.e)) 414945870 37 (.bin .quo (.symi .i64 36) (.int .i64 3)) (.e))) 415095961 68 (.bin .sub (.symi .i64 36) (.int .i64 6)) (.n (.n (.n (.e) 415246066 72 (.bin .sub (.symi .i64 36) (.int .i64 9)) (.e)) 415396241 77 (.bin .eql (.symi .i64 36) (.int .i64 12)) (.e)) 415446276 78 (.bin .eql (.symi .i64 36) (.int .i64 13)) (.n (.e) 415496311 80 (.bin .eql (.symi .i64 36) (.int .i64 14)) (.e)))))) 429790608 253 (.ite (.symb 202) (.symi .u8 26) (.symi .u8 225)) (.n (.n (.n (.n (.n (.n (.e) 432626243 105 (.ite (.symb 43) (.symi .u8 63) (.symi .u8 22)) (.e)) 441957969 172 (.ite (.symb 38) (.symi .u8 13) (.symi .u8 140)) (.e)) 442663067 290 (.ite (.symb 38) (.symi .u8 13) (.symi .u8 268)) (.n (.n (.e) 447144462 276 (.ite (.symb 39) (.symi .u8 248) (.symi .u8 21)) (.e)) 458092363 367 (.fnb 210 kpL6) (.e))) 458092522 370 (.fnb 213 kpL6) (.n (.n (.n (.e) 465916634 148 (.ite (.symb 39) (.symi .u8 104) (.symi .u8 21)) (.e)) 472951444 201 (.bin .neq (.symi .i32 194) (.symi .i32 35)) (.e)) 473265034 190 (.ite (.symb 38) (.symi .u16 31) (.symi .u16 158)) (.n (.n (.e) 477267962 246 (.ite (.symb 202) (.symi .u8 19) (.symi .u8 218)) (.e)) 478255227 69 (.fn 512 .u16 kpL2) (.e)))) 478255270 70 (.fn 513 .u16 kpL2) (.n (.n (.n (.n (.e) 478255313 71 (.fn 514 .u16 kpL2) (.e)) 480103597 98 (.ite (.symb 43) (.symi .i64 56) (.symi .i64 15)) (.e)) 487974787 119 (.ite (.symb 42) (.symi .u8 117) (.symi .u8 34)) (.n (.n (.e) 489435323 165 (.ite (.symb 38) (.symi .i64 6) (.symi .i64 133)) (.e)) 490140421 283 (.ite (.symb 38) (.symi .i64 6) (.symi .i64 261)) (.e))) 491797294 347 (.ite (.symb 345) (.symi .u8 346) (.symi .u8 34)) (.n (.n (.n (.e) 494621816 269 (.ite (.symb 39) (.symi .u8 241) (.symi .u8 14)) (.e)) 503335056 204 (.fn 64 .i32 kpL4) (.e)) 503335099 205 (.fn 65 .i64 kpL4) (.n (.e) 503335142 206 (.fn 66 .u8 kpL4) (.e))))) 503335185 207 (.fn 67 .u8 kpL4) (.n (.n (.n (.n (.n (.e) 503335228 208 (.fn 68 .u8 kpL4) (.e)) 503335271 209 (.fn 69 .u8 kpL4) (.e)) 503335314 210 (.fn 70 .u8 kpL4) (.n (.n (.e) 503335357 211 (.fn 71 .u8 kpL4) (.e)) 503335400 212 (.fn 72 .u8 kpL4) (.e))) 503335443 213 (.fn 73 .u8 kpL4) (.n (.n (.n (.e) 503335486 214 (.fn 74 .i64 kpL4) (.e)) 503335529 215 (.fn 75 .u8 kpL4) (.e)) 503335572 216 (.fn 76 .u8 kpL4) (.n (.n (.e) 503335615 217 (.fn 77 .u8 kpL4) (.e)) 503335658 218 (.fn 78 .u8 kpL4) (.e)))) 503335701 219 (.fn 79 .u8 kpL4) (.n (.n (.n (.n (.e) 503335744 220 (.fn 80 .u8 kpL4) (.e)) 503335787 221 (.fn 81 .u8 kpL4) (.e)) 503335830 222 (.fn 82 .u8 kpL4) (.n (.n (.e) 503335916 224 (.fn 84 .u8 kpL4) (.e)) 503335959 225 (.fn 85 .u8 kpL4) (.e))) 509410656 115 (.ite (.symb 43) (.symi .u16 75) (.symi .u16 32)) (.n (.n (.n (.e) 513393988 141 (.ite (.symb 39) (.symi .u8 97) (.symi .u8 14)) (.e)) 515796124 38 (.bin .eql (.symi .i64 37) (.int .i64 0)) (.e)) 515846159 39 (.bin .eql (.symi .i64 37) (.int .i64 1)) (.n (.e) 515896194 40 (.bin .eql (.symi .i64 37) (.int .i64 2)) (.e)))))))) 515946229 41 (.bin .eql (.symi .i64 37) (.int .i64 3)) (.n (.n (.n (.n (.n (.n (.n (.n (.e) 515996264 42 (.bin .eql (.symi .i64 37) (.int .i64 4)) (.e)) 516970704 123 (.ite (.symb 41) (.symi .u8 33) (.symi .u8 118)) (.e)) 521534898 183 (.ite (.symb 38) (.symb 24) (.symb 151)) (.n (.n (.e) 522709327 121 (.ite (.symb 41) (.symi .u16 114) (.symi .u16 31)) (.e)) 522819836 301 (.ite (.symb 38) (.symb 24) (.symb 279)) (.e))) 524745316 239 (.ite (.symb 202) (.symi .u8 12) (.symi .u8 211)) (.n (.n (.n (.e) 527580951 91 (.ite (.symb 43) (.symi .u8 49) (.symi .u8 8)) (.e)) 528223792 158 (.ite (.symb 39) (.symi .u16 31) (.symi .u16 129)) (.e)) 532006434 256 (.ite (.symb 202) (.int .i32 0) (.symi .i32 230)) (.n (.n (.e) 532966582 129 (.ite (.symb 40) (.symi .u16 31) (.symi .u16 121)) (.e)) 534149336 112 (.ite (.symb 43) (.symi .u16 71) (.symi .u16 29)) (.e)))) 537883274 79 (.bin .or (.symi .u8 34) (.symi .u8 76)) (.n (.n (.n (.n (.e) 537883302 81 (.bin .andNot (.symi .u8 34) (.symi .u8 76)) (.e)) 542099170 262 (.ite (.symb 39) (.symi .u8 234) (.symi .u8 7)) (.e)) 545471692 403 (.ite (.symb 38) (.symi .i32 231) (.symi .i32 402)) (.n (.n (.e) 546106176 377 (.bin .eql (.symi .i32 375) (.symi .i32 376)) (.e)) 551707083 194 (.conv .i32 (.symi .u8 193)) (.e))) 557443867 126 (.ite (.symb 40) (.symi .u16 111) (.symi .u16 28)) (.n (.n (.n (.e) 558888016 109 (.ite (.symb 43) (.symi .u8 67) (.symi .u8 26)) (.e)) 560871342 134 (.ite (.symb 39) (.symi .u8 90) (.symi .u8 7)) (.e)) 562210348 396 (.ite (.symb 38) (.symi .i32 231) (.symi .i32 395)) (.n (.n (.e) 568219742 176 (.ite (.symb 38) (.symi .u8 17) (.symi .u8 144)) (.e)) 568348862 390 (.ite (.symb 77) (.symi .i32 228) (.symi .i32 35)) (.e))))) 568924840 294 (.ite (.symb 38) (.symi .u8 17) (.symi .u8 272)) (.n (.n (.n (.n (.n (.e) 573406235 280 (.ite (.symb 39) (.symi .u8 252) (.symi .u8 25)) (.e)) 577721046 345 (.fnb 835 [.symi .u8 3, .symi .u8 4, .symi .u8 5, .symi .u8 76]) (.e)) 578243906 282 (.ite (.symb 38) (.symi .i32 231) (.symi .i32 260)) (.n (.n (.e) 588505971 315 (.ite (.symb 313) (.symi .u8 314) (.symi .u8 309)) (.e)) 592178407 152 (.ite (.symb 39) (.symi .u8 108) (.symi .u8 25)) (.e))) 595605882 163 (.ite (.symb 38) (.symi .u8 87) (.symi .u8 4)) (.n (.n (.n (.e) 603529735 250 (.ite (.symb 202) (.symi .u8 23) (.symi .u8 222)) (.e)) 606365370 102 (.ite (.symb 43) (.symi .u8 60) (.symi .u8 19)) (.e)) 612446535 65 (.fnb 146 kpL1) (.n (.n (.e) 615697096 169 (.ite (.symb 38) (.symi .u8 10) (.symi .u8 137)) (.e)) 616402194 287 (.ite (.symb 38) (.symi .u8 10) (.symi .u8 265)) (.e)))) 620391927 382 (.bin .eql (.symi .i32 380) (.symi .i32 381)) (.n (.n (.n (.n (.e) 620883589 273 (.ite (.symb 39) (.symi .u8 245) (.symi .u8 18)) (.e)) 635693715 83 (.ite (.symb 78) (.symi .u8 79) (.symi .u8 82)) (.e)) 639655761 145 (.ite (.symb 39) (.symi .u8 101) (.symi .u8 18)) (.n (.n (.e) 647004161 187 (.ite (.symb 38) (.symi .u16 28) (.symi .u16 155)) (.e)) 651007089 243 (.ite (.symb 202) (.symi .u8 16) (.symi .u8 215)) (.e))) 652041840 397 (.ite (.symb 77) (.symi .i32 228) (.int .i32 0)) (.n (.n (.n (.e) 653842724 95 (.ite (.symb 43) (.symi .u8 53) (.symi .u8 12)) (.e)) 668360943 266 (.ite (.symb 39) (.symi .u8 238) (.symi .u8 11)) (.e)) 676792961 340 (.bin .or (.symi .u8 315) (.int .u8 4)) (.n (.e) 682476273 402 (.ite (.symb 39) (.symi .i32 232) (.symi .i32 401)) (.e)))))) 687133115 138 (.ite (.symb 39) (.symi .u8 94) (.symi .u8 11)) (.n (.n (.n (.n (.n (.n (.e) 694481515 180 (.ite (.symb 38) (.symi .u8 21) (.symi .u8 148)) (.e)) 694677678 387 (.bin .eql (.symi .i32 385) (.symi .i32 386)) (.e)) 695186613 298 (.ite (.symb 38) (.symi .u8 21) (.symi .u8 276)) (.n (.n (.e) 695769933 199 (.bin .or (.symi .i32 35) (.symi .i32 195)) (.e)) 698484443 236 (.ite (.symb 202) (.symi .u8 9) (.symi .u8 208)) (.e))) 699214929 395 (.ite (.symb 39) (.symi .i32 232) (.symi .i32 394)) (.n (.n (.n (.e) 701320078 88 (.ite (.symb 43) (.symi .u8 46) (.symi .u8 5)) (.e)) 701962919 155 (.ite (.symb 39) (.symi .u16 28) (.symi .u16 126)) (.e)) 715248487 260 (.ite (.symb 39) (.symi .i32 232) (.symi .i32 259)) (.n (.n (.e) 715862572 399 (.ite (.symb 42) (.symi .i32 398) (.int .i32 0)) (.e)) 726697723 47 (.fn 128 .i64 kpL1) (.e)))) 726697766 48 (.fn 129 .u8 kpL1) (.n (.n (.n (.n (.e) 726697809 49 (.fn 130 .u8 kpL1) (.e)) 726697852 50 (.fn 131 .u8 kpL1) (.e)) 726697895 51 (.fn 132 .u8 kpL1) (.n (.n (.e) 726697938 52 (.fn 133 .u8 kpL1) (.e)) 726697981 53 (.fn 134 .u8 kpL1) (.e))) 726698024 54 (.fn 135 .u8 kpL1) (.n (.n (.n (.e) 726698067 55 (.fn 136 .u8 kpL1) (.e)) 726698110 56 (.fn 137 .i64 kpL1) (.e)) 726698153 57 (.fn 138 .u8 kpL1) (.n (.e) 726698196 58 (.fn 139 .u8 kpL1) (.e))))) 726698239 59 (.fn 140 .u8 kpL1) (.n (.n (.n (.n (.n (.e) 726698282 60 (.fn 141 .u8 kpL1) (.e)) 726698325 61 (.fn 142 .u8 kpL1) (.e)) 726698368 62 (.fn 143 .u8 kpL1) (.n (.n (.e) 726698411 63 (.fn 144 .u8 kpL1) (.e)) 726698454 64 (.fn 145 .u8 kpL1) (.e))) 726698540 66 (.fn 147 .u8 kpL1) (.n (.n (.n (.e) 726698583 67 (.fn 148 .u8 kpL1) (.e)) 727264760 401 (.ite (.symb 40) (.symi .i32 254) (.symi .i32 400)) (.e)) 732627143 106 (.ite (.symb 43) (.symi .u8 64) (.symi .u8 23)) (.n (.n (.e) 735151335 373 (.conv .i32 (.symi .u8 372)) (.e)) 739657333 389 (.bin .eql (.symi .i32 388) (.symi .i32 35)) (.e)))) 741958869 173 (.ite (.symb 38) (.symi .u8 14) (.symi .u8 141)) (.n (.n (.n (.n (.e) 742663967 291 (.ite (.symb 38) (.symi .u8 14) (.symi .u8 269)) (.e)) 744003416 394 (.ite (.symb 40) (.symi .i32 254) (.symi .i32 393)) (.e)) 746601270 392 (.ite (.symb 42) (.symi .i32 391) (.int .i32 0)) (.n (.n (.e) 747145362 277 (.ite (.symb 39) (.symi .u8 249) (.symi .u8 22)) (.e)) 749961511 231 (.ite (.symb 202) (.int .i32 0) (.symi .i32 203)) (.e))) 760036974 259 (.ite (.symb 40) (.symi .i32 254) (.symi .i32 258)) (.n (.n (.n (.e) 763367237 374 (.conv .i32 (.symi .u8 341)) (.e)) 765917534 149 (.ite (.symb 39) (.symi .u8 105) (.symi .u8 22)) (.e)) 773265934 191 (.ite (.symb 38) (.symi .u16 32) (.symi .u16 159)) (.n (.e) 777268862 247 (.ite (.symb 202) (.symi .u8 20) (.symi .u8 219)) (.e))))))) 780104497 99 (.ite (.symb 43) (.symi .u8 57) (.symi .u8 16)) (.n (.n (.n (.n (.n (.n (.n (.e) 788427402 375 (.bin .andNot (.symi .i32 348) (.int .i32 1)) (.e)) 789436223 166 (.ite (.symb 38) (.symi .u8 7) (.symi .u8 134)) (.e)) 790141321 284 (.ite (.symb 38) (.symi .u8 7) (.symi .u8 262)) (.n (.n (.e) 794622716 270 (.ite (.symb 39) (.symi .i64 242) (.symi .i64 15)) (.e)) 803396130 379 (.bin .eql (.symi .i32 378) (.symi .i32 35)) (.e))) 813394888 142 (.ite (.symb 39) (.symi .i64 98) (.symi .i64 15)) (.n (.n (.n (.e) 816971604 124 (.ite (.symb 41) (.symi .u8 34) (.symi .u8 119)) (.e)) 820743288 184 (.ite (.symb 38) (.symi .u8 25) (.symi .u8 152)) (.e)) 821438540 310 (.fn 576 .u16 [.symi .u16 30, .symi .u16 31, .symi .u16 32]) (.n (.n (.e) 821438583 311 (.fn 577 .u16 [.symi .u16 30, .symi .u16 31, .symi .u16 32]) (.e)) 821438626 312 (.fn 578 .u16 [.symi .u16 30, .symi .u16 31, .symi .u16 32]) (.e)))) 821448386 302 (.ite (.symb 38) (.symi .u8 25) (.symi .u8 280)) (.n (.n (.n (.n (.e) 822710227 122 (.ite (.symb 41) (.symi .u16 115) (.symi .u16 32)) (.e)) 824746216 240 (.ite (.symb 202) (.symi .u8 13) (.symi .u8 212)) (.e)) 827581851 92 (.ite (.symb 43) (.symi .u8 50) (.symi .u8 9)) (.n (.n (.e) 828224692 159 (.ite (.symb 39) (.symi .u16 32) (.symi .u16 130)) (.e)) 832967482 130 (.ite (.symb 40) (.symi .u16 32) (.symi .u16 122)) (.e))) 842100070 263 (.ite (.symb 39) (.symi .u8 235) (.symi .u8 8)) (.n (.n (.n (.e) 857444767 127 (.ite (.symb 40) (.symi .u16 112) (.symi .u16 29)) (.e)) 858994381 227 (.fn 448 .i32 [.symi .u16 30, .symi .u16 31, .symi .u16 32, .symi .i64 72]) (.e)) 860872242 135 (.ite (.symb 39) (.symi .u8 91) (.symi .u8 8)) (.n (.e) 862580845 203 (.fn 320 .i32 [.symi .u8 3, .symi .u8 4, .symi .u8 5, .symi .i64 36]) (.e))))) 864269341 400 (.ite (.symb 41) (.symi .i32 255) (.symi .i32 399)) (.n (.n (.n (.n (.n (.e) 868220642 177 (.ite (.symb 38) (.symi .u8 18) (.symi .u8 145)) (.e)) 868925740 295 (.ite (.symb 38) (.symi .u8 18) (.symi .u8 273)) (.e)) 871407415 230 (.ite (.symb 77) (.symi .i32 228) (.symi .i32 229)) (.n (.n (.e) 872223570 233 (.ite (.symb 202) (.symi .i64 6) (.symi .i64 205)) (.e)) 873407135 281 (.ite (.symb 39) (.symi .u8 253) (.symi .u8 26)) (.e))) 881007997 393 (.ite (.symb 41) (.symi .i32 255) (.symi .i32 392)) (.n (.n (.n (.e) 892179307 153 (.ite (.symb 39) (.symi .u8 109) (.symi .u8 26)) (.e)) 895606782 164 (.ite (.symb 38) (.symi .u8 88) (.symi .u8 5)) (.e)) 897041555 258 (.ite (.symb 41) (.symi .i32 255) (.symi .i32 257)) (.n (.n (.e) 900961964 232 (.ite (.symb 202) (.int .i32 0) (.symi .i32 204)) (.e)) 904649305 251 (.ite (.symb 202) (.symb 24) (.symb 223)) (.e)))) 906366270 103 (.ite (.symb 43) (.symi .u8 61) (.symi .u8 20)) (.n (.n (.n (.n (.e) 915697996 170 (.ite (.symb 38) (.symi .u8 11) (.symi .u8 138)) (.e)) 916403094 288 (.ite (.symb 38) (.symi .u8 11) (.symi .u8 266)) (.e)) 920884489 274 (.ite (.symb 39) (.symi .u8 246) (.symi .u8 19)) (.n (.n (.e) 927673305 116 (.ite (.symb 43) (.symi .u8 84) (.symi .u8 33)) (.e)) 939656661 146 (.ite (.symb 39) (.symi .u8 102) (.symi .u8 19)) (.e))) 947005061 188 (.ite (.symb 38) (.symi .u16 29) (.symi .u16 156)) (.n (.n (.n (.e) 948363232 200 (.bin .neq (.symi .i32 194) (.symi .i32 199)) (.e)) 951007989 244 (.ite (.symb 202) (.symi .u8 17) (.symi .u8 216)) (.e)) 953843624 96 (.ite (.symb 43) (.symi .u8 54) (.symi .u8 13)) (.n (.e) 968361843 267 (.ite (.symb 39) (.symi .u8 239) (.symi .u8 12)) (.e)))))) 968571254 334 (.fnb 274 kpL5) (.n (.n (.n (.n (.n (.n (.e) 968571466 338 (.fnb 278 kpL5) (.e)) 968571519 339 (.fnb 279 kpL5) (.e)) 978698136 226 (.fn 448 .i32 [.symi .u16 27, .symi .u16 28, .symi .u16 29, .symi .i64 68]) (.n (.n (.e) 983150683 113 (.ite (.symb 43) (.symi .u16 73) (.symi .u16 30)) (.e)) 987134015 139 (.ite (.symb 39) (.symi .u8 95) (.symi .u8 12)) (.e))) 994482415 181 (.ite (.symb 38) (.symi .u8 22) (.symi .u8 149)) (.n (.n (.n (.e) 994612479 378 (.bin .and (.symi .i32 348) (.symi .i32 35)) (.e)) 995187513 299 (.ite (.symb 38) (.symi .u8 22) (.symi .u8 277)) (.e)) 998485343 237 (.ite (.symb 202) (.symi .u8 10) (.symi .u8 209)) (.n (.n (.e) 1001320978 89 (.ite (.symb 43) (.symi .i64 47) (.symi .i64 6)) (.e)) 1001746449 254 (.ite (.symb 202) (.int .i32 0) (.symi .i32 226)) (.e)))) 1001963819 156 (.ite (.symb 39) (.symi .u16 29) (.symi .u16 127)) (.n (.n (.n (.n (.e) 1007889363 110 (.ite (.symb 43) (.symi .u16 69) (.symi .u16 27)) (.e)) 1012362035 316 (.fn 256 .i64 kpL5) (.e)) 1012362078 317 (.fn 257 .u8 kpL5) (.n (.n (.e) 1012362121 318 (.fn 258 .u8 kpL5) (.e)) 1012362164 319 (.fn 259 .u8 kpL5) (.e))) 1012362207 320 (.fn 260 .u8 kpL5) (.n (.n (.n (.e) 1012362250 321 (.fn 261 .u8 kpL5) (.e)) 1012362293 322 (.fn 262 .u8 kpL5) (.e)) 1012362336 323 (.fn 263 .u8 kpL5) (.n (.e) 1012362379 324 (.fn 264 .u8 kpL5) (.e))))) 1012362422 325 (.fn 265 .i64 kpL5) (.n (.n (.n (.n (.n (.e) 1012362465 326 (.fn 266 .u8 kpL5) (.e)) 1012362508 327 (.fn 267 .u8 kpL5) (.e)) 1012362551 328 (.fn 268 .u8 kpL5) (.n (.n (.e) 1012362594 329 (.fn 269 .u8 kpL5) (.e)) 1012362637 330 (.fn 270 .u8 kpL5) (.e))) 1012362680 331 (.fn 271 .u8 kpL5) (.n (.n (.n (.e) 1012362723 332 (.fn 272 .u8 kpL5) (.e)) 1012362766 333 (.fn 273 .u8 kpL5) (.e)) 1012362852 335 (.fn 275 .u8 kpL5) (.n (.n (.e) 1012362895 336 (.fn 276 .u8 kpL5) (.e)) 1012362938 337 (.fn 277 .u8 kpL5) (.e)))) 1024989485 229 (.ite (.symb 78) (.symi .i32 35) (.int .i32 0)) (.n (.n (.n (.n (.e) 1032635638 257 (.ite (.symb 42) (.symi .i32 256) (.int .i32 0)) (.e)) 1033028513 107 (.ite (.symb 43) (.symb 65) (.symb 24)) (.e)) 1039123504 197 (.bin .and (.symi .i32 35) (.symi .i32 196)) (.n (.n (.e) 1041959769 174 (.ite (.symb 38) (.symi .i64 15) (.symi .i64 142)) (.e)) 1042664867 292 (.ite (.symb 38) (.symi .i64 15) (.symi .i64 270)) (.e))) 1047146262 278 (.ite (.symb 39) (.symi .u8 250) (.symi .u8 23)) (.n (.n (.n (.e) 1053020064 398 (.ite (.symb 202) (.int .i32 0) (.symi .i32 397)) (.e)) 1065918434 150 (.ite (.symb 39) (.symi .u8 106) (.symi .u8 23)) (.e)) 1069758720 391 (.ite (.symb 202) (.int .i32 0) (.symi .i32 390)) (.n (.e) 1073266834 192 (.ite (.symb 38) (.symi .u8 33) (.symi .u8 160)) (.e))))))))

set_option maxRecDepth 100000 in
def kpW : Sw := .run (.node 80 (.node 198 (.dead) (.node 377 (.node 379 (.node 382 (.node 384 (.node 387 (.leaf .ret kpSE [] [(0, .symb 389)] []) (.dead)) (.dead)) (.dead)) (.dead)) (.dead))) (.node 78 (.node 200 (.dead) (.node 377 (.node 379 (.node 382 (.node 384 (.node 387 (.leaf .ret kpSE [] [(0, .symb 389)] []) (.dead)) (.dead)) (.dead)) (.dead)) (.dead))) (.node 201 (.dead) (.node 377 (.node 379 (.node 382 (.node 384 (.node 387 (.leaf .ret kpSE [] [(0, .symb 389)] []) (.dead)) (.dead)) (.dead)) (.dead)) (.dead)))))

def kpX (inv : Sig → Prop) : Ing := { m := 35, ins := kpInK, G := kpG, T := kpT, hook := orHook (rowHook 30 0 (.agg (symCs b32c 3))) (orHook (trueHook kpTru) (tblHook (tabOf dvFs) dvTbl)), tab := tabOf dvFs, inv := inv }
theorem kp_ok : okG kpG 35 = true := by kernel_rfl
theorem kp_lt : okLT 35 kpG kpT = true := by kernel_rfl
theorem kp_reck (inv : Sig → Prop) : okSw (fun F => runL Try.prog (cxOf (kpX inv)) true 1000 (evD Try.prog (cxOf (kpX inv)) true 1000 40).1 (evD Try.prog (cxOf (kpX inv)) true 1000 40).2 [bodyOf Try.f8] F (tmOf ⟨argT 0 (.row 0 :: symSh [.agg [.i .u8, .i .i8, .i .i32]] 0), []⟩ 127) ⟨[], []⟩) kpW [] = true := by kernel_rfl
theorem hbody : Try.f8.body = some (bodyOf Try.f8) := by kernel_rfl
theorem hnt : Try.f8.ntmps = 127 := by kernel_rfl

/-! ### The plain law -/

theorem all256 (q : Int → Bool) (h : (List.range 256).all (fun k => q (k : Int)) = true) {n : Int} (h0 : 0 ≤ n) (h1 : n ≤ 255) : q n = true := by
  rw [List.all_eq_true] at h
  have := h n.toNat (by simp; omega)
  rwa [show ((n.toNat : Nat) : Int) = n by omega] at this
def o8 (a b : Int) : Int := IntKind.u8.wrap (BitVec.ofInt IntKind.u8.bits a ||| BitVec.ofInt IntKind.u8.bits b).toNat
def d8 (a b : Int) : Int := IntKind.u8.wrap (BitVec.ofInt IntKind.u8.bits a &&& ~~~BitVec.ofInt IntKind.u8.bits b).toNat
def o32 (a b : Int) : Int := IntKind.i32.wrap (BitVec.ofInt IntKind.i32.bits a ||| BitVec.ofInt IntKind.i32.bits b).toNat
def a32 (a b : Int) : Int := IntKind.i32.wrap (BitVec.ofInt IntKind.i32.bits a &&& BitVec.ofInt IntKind.i32.bits b).toNat
def d32 (a b : Int) : Int := IntKind.i32.wrap (BitVec.ofInt IntKind.i32.bits a &&& ~~~BitVec.ofInt IntKind.i32.bits b).toNat
theorem u8r {n : Int} (h : IntKind.u8.wrap n = n) : 0 ≤ n ∧ n ≤ 255 := by
  simp [IntKind.wrap, IntKind.bits, IntKind.signed] at h; omega
theorem u8m (v : Int) : 0 ≤ IntKind.u8.wrap v ∧ IntKind.u8.wrap v ≤ 255 := by
  simp [IntKind.wrap, IntKind.bits, IntKind.signed]; omega
theorem ofInt8 {a : Int} (h0 : 0 ≤ a) (h1 : a ≤ 255) : (BitVec.ofInt IntKind.u8.bits a).toNat = a.toNat := by
  rw [BitVec.toNat_ofInt]; simp only [IntKind.bits]; omega
theorem ofInt32 {a : Int} (h0 : 0 ≤ a) (h1 : a ≤ 255) : (BitVec.ofInt IntKind.i32.bits a).toNat = a.toNat := by
  rw [BitVec.toNat_ofInt]; simp only [IntKind.bits]; omega
theorem wr8 {k : Nat} (h : k < 256) : IntKind.u8.wrap (k : Int) = k := by simp [IntKind.wrap, IntKind.bits, IntKind.signed]; omega
theorem wr32 {k : Nat} (h : k < 256) : IntKind.i32.wrap (k : Int) = k := by simp [IntKind.wrap, IntKind.bits, IntKind.signed]; omega
theorem w32 {a : Int} (h0 : 0 ≤ a) (h1 : a ≤ 255) : IntKind.i32.wrap a = a := by simp [IntKind.wrap, IntKind.bits, IntKind.signed]; omega
theorem low255 (v : Int) : a32 v 255 = IntKind.u8.wrap v := by
  unfold a32
  have h : (BitVec.ofInt IntKind.i32.bits v &&& BitVec.ofInt IntKind.i32.bits 255).toNat = (v % 256).toNat := by
    rw [BitVec.toNat_and]
    have h1 : (BitVec.ofInt IntKind.i32.bits 255).toNat = 2 ^ 8 - 1 := by decide
    rw [h1, Nat.and_two_pow_sub_one_eq_mod, BitVec.toNat_ofInt]
    simp only [IntKind.bits]
    omega
  rw [h]
  simp [IntKind.wrap, IntKind.bits, IntKind.signed]
  omega
theorem clear_same {n m : Int} (h0 : 0 ≤ n) (h1 : n ≤ 255) (k0 : 0 ≤ m) (k1 : m ≤ 255) : IntKind.i32.wrap (d8 n m) = a32 (IntKind.i32.wrap n) (IntKind.i32.wrap (255 - m)) := by
  unfold d8 a32
  rw [w32 h0 h1, w32 (a := 255 - m) (by omega) (by omega), BitVec.toNat_and, BitVec.toNat_and, BitVec.toNat_not, ofInt8 h0 h1, ofInt8 k0 k1, ofInt32 h0 h1, ofInt32 (a := 255 - m) (by omega) (by omega)]
  have e : 2 ^ IntKind.u8.bits - 1 - m.toNat = (255 - m).toNat := by simp only [IntKind.bits]; omega
  rw [e]
  have hb : n.toNat &&& (255 - m).toNat < 256 := Nat.lt_of_le_of_lt Nat.and_le_left (by omega)
  rw [wr8 hb]
theorem set_same {n m : Int} (h0 : 0 ≤ n) (h1 : n ≤ 255) (k0 : 0 ≤ m) (k1 : m ≤ 255) : IntKind.i32.wrap (o8 n m) = o32 (IntKind.i32.wrap n) m := by
  unfold o8 o32
  rw [w32 h0 h1, BitVec.toNat_or, BitVec.toNat_or, ofInt8 h0 h1, ofInt8 k0 k1, ofInt32 h0 h1, ofInt32 k0 k1]
  have hb : n.toNat ||| m.toNat < 2 ^ 8 := Nat.or_lt_two_pow (by omega) (by omega)
  rw [wr8 hb]
/-- what is requested at most: a bit more of n -/
def may (n k : Int) (c : Bool) : Int := bif c then o8 n k else n
def may3 (n : Int) (a b c : Bool) : Int := may (may (may n 8 a) 16 b) 4 c
def qd (k : Int) (c : Bool) (n : Int) : Bool := d32 (IntKind.i32.wrap (may n k c)) k == d32 (IntKind.i32.wrap n) k
def qa (k : Int) (c : Bool) (n : Int) : Bool := a32 (IntKind.i32.wrap (may n k c)) (IntKind.i32.wrap n) == IntKind.i32.wrap n
def qd3 (a b c : Bool) (n : Int) : Bool := d32 (IntKind.i32.wrap (may3 n a b c)) 28 == d32 (IntKind.i32.wrap n) 28
def qa3 (a b c : Bool) (n : Int) : Bool := a32 (IntKind.i32.wrap (may3 n a b c)) (IntKind.i32.wrap n) == IntKind.i32.wrap n
theorem all_qd : (List.range 256).all (fun k => qd 1 true k && qd 1 false k && qd 2 true k && qd 2 false k && qa 1 true k && qa 1 false k && qa 2 true k && qa 2 false k) = true := by decide +kernel
theorem all_q3 : (List.range 256).all (fun k => qd3 true true true k && qd3 true true false k && qd3 true false true k && qd3 true false false k && qd3 false true true k && qd3 false true false k && qd3 false false true k && qd3 false false false k &&
  (qa3 true true true k && qa3 true true false k && qa3 true false true k && qa3 true false false k && qa3 false true true k && qa3 false true false k && qa3 false false true k && qa3 false false false k)) = true := by decide +kernel
theorem q1 {n : Int} (h0 : 0 ≤ n) (h1 : n ≤ 255) (c : Bool) : qd 1 c n = true ∧ qd 2 c n = true ∧ qa 1 c n = true ∧ qa 2 c n = true := by
  have := all256 (fun k => qd 1 true k && qd 1 false k && qd 2 true k && qd 2 false k && qa 1 true k && qa 1 false k && qa 2 true k && qa 2 false k) all_qd h0 h1
  simp only [Bool.and_eq_true] at this
  cases c
  · exact ⟨this.1.1.1.1.1.1.2, this.1.1.1.1.2, this.1.1.2, this.2⟩
  · exact ⟨this.1.1.1.1.1.1.1, this.1.1.1.1.1.2, this.1.1.1.2, this.1.2⟩
theorem q3 {n : Int} (h0 : 0 ≤ n) (h1 : n ≤ 255) (a b c : Bool) : qd3 a b c n = true ∧ qa3 a b c n = true := by
  have := all256 (fun k => qd3 true true true k && qd3 true true false k && qd3 true false true k && qd3 true false false k && qd3 false true true k && qd3 false true false k && qd3 false false true k && qd3 false false false k &&
    (qa3 true true true k && qa3 true true false k && qa3 true false true k && qa3 true false false k && qa3 false true true k && qa3 false true false k && qa3 false false true k && qa3 false false false k)) all_q3 h0 h1
  simp only [Bool.and_eq_true] at this
  obtain ⟨⟨⟨⟨⟨⟨⟨⟨a1, a2⟩, a3⟩, a4⟩, a5⟩, a6⟩, a7⟩, a8⟩, ⟨⟨⟨⟨⟨⟨⟨b1, b2⟩, b3⟩, b4⟩, b5⟩, b6⟩, b7⟩, b8⟩⟩ := this
  cases a <;> cases b <;> cases c <;> exact ⟨by assumption, by assumption⟩

set_option maxRecDepth 100000 in
theorem kp_ob (τ : Sig) (e : Eqs τ 35 kpG) (ht : τ.tab = tabOf dvFs) (hin : InsOk τ 35 kpInK) : segsW τ (fun x s σ2 => (x = .ret ∨ x = .normal) ∧ s = kpSE ∧ OutOk σ2 [.one .b] (packA [.symb 0]) [1]) kpW [] := by
  have e35 : τ.ival 35 = IntKind.i32.wrap (τ.ival 34) := eqI (e.at 0 _ rfl rfl) rfl
  have e36 : τ.ival 36 = IntKind.i64.wrap (τ.ival 1) := eqI (e.at 1 _ rfl rfl) rfl
  have e37 : τ.ival 37 = IntKind.i64.wrap ((τ.ival 36 : Int).tdiv 3) := eqI (e.at 2 _ rfl rfl) rfl
  have e38 : τ.bval 38 = (τ.ival 37 == 0) := eqB (e.at 3 _ rfl rfl) rfl
  have e39 : τ.bval 39 = (τ.ival 37 == 1) := eqB (e.at 4 _ rfl rfl) rfl
  have e40 : τ.bval 40 = (τ.ival 37 == 2) := eqB (e.at 5 _ rfl rfl) rfl
  have e41 : τ.bval 41 = (τ.ival 37 == 3) := eqB (e.at 6 _ rfl rfl) rfl
  have e42 : τ.bval 42 = (τ.ival 37 == 4) := eqB (e.at 7 _ rfl rfl) rfl
  have e43 : τ.bval 43 = decide (τ.ival 36 ≥ 0) := eqB (e.at 8 _ rfl rfl) rfl
  have e76 : τ.ival 76 = IntKind.u8.wrap (τ.ival 2) := eqI (e.at 41 _ rfl rfl) rfl
  have e77 : τ.bval 77 = (τ.ival 36 == 12) := eqB (e.at 42 _ rfl rfl) rfl
  have e78 : τ.bval 78 = (τ.ival 36 == 13) := eqB (e.at 43 _ rfl rfl) rfl
  have e79 : τ.ival 79 = IntKind.u8.wrap (BitVec.ofInt IntKind.u8.bits (τ.ival 34) ||| BitVec.ofInt IntKind.u8.bits (τ.ival 76)).toNat := eqI (e.at 44 _ rfl rfl) rfl
  have e80 : τ.bval 80 = (τ.ival 36 == 14) := eqB (e.at 45 _ rfl rfl) rfl
  have e81 : τ.ival 81 = IntKind.u8.wrap (BitVec.ofInt IntKind.u8.bits (τ.ival 34) &&& ~~~BitVec.ofInt IntKind.u8.bits (τ.ival 76)).toNat := eqI (e.at 46 _ rfl rfl) rfl
  have e82 : τ.ival 82 = (bif τ.bval 80 then τ.ival 81 else τ.ival 34) := eqIteI (e.at 47 _ rfl rfl) rfl rfl rfl
  have e83 : τ.ival 83 = (bif τ.bval 78 then τ.ival 79 else τ.ival 82) := eqIteI (e.at 48 _ rfl rfl) rfl rfl rfl
  have e85 : τ.ival 85 = (bif τ.bval 77 then τ.ival 34 else τ.ival 83) := eqIteI (e.at 50 _ rfl rfl) rfl rfl rfl
  have e117 : τ.ival 117 = (bif τ.bval 43 then τ.ival 85 else τ.ival 34) := eqIteI (e.at 82 _ rfl rfl) rfl rfl rfl
  have e119 : τ.ival 119 = (bif τ.bval 42 then τ.ival 117 else τ.ival 34) := eqIteI (e.at 84 _ rfl rfl) rfl rfl rfl
  have e124 : τ.ival 124 = (bif τ.bval 41 then τ.ival 34 else τ.ival 119) := eqIteI (e.at 89 _ rfl rfl) rfl rfl rfl
  have e132 : τ.ival 132 = (bif τ.bval 40 then τ.ival 34 else τ.ival 124) := eqIteI (e.at 97 _ rfl rfl) rfl rfl rfl
  have e161 : τ.ival 161 = (bif τ.bval 39 then τ.ival 34 else τ.ival 132) := eqIteI (e.at 126 _ rfl rfl) rfl rfl rfl
  have e193 : τ.ival 193 = (bif τ.bval 38 then τ.ival 34 else τ.ival 161) := eqIteI (e.at 158 _ rfl rfl) rfl rfl rfl
  have e194 : τ.ival 194 = IntKind.i32.wrap (τ.ival 193) := eqI (e.at 159 _ rfl rfl) rfl
  have e195 : τ.ival 195 = IntKind.i32.wrap (BitVec.ofInt IntKind.i32.bits (τ.ival 2) &&& BitVec.ofInt IntKind.i32.bits (255)).toNat := eqI (e.at 160 _ rfl rfl) rfl
  have e196 : τ.ival 196 = IntKind.i32.wrap (255 - τ.ival 195) := eqI (e.at 161 _ rfl rfl) rfl
  have e197 : τ.ival 197 = IntKind.i32.wrap (BitVec.ofInt IntKind.i32.bits (τ.ival 35) &&& BitVec.ofInt IntKind.i32.bits (τ.ival 196)).toNat := eqI (e.at 162 _ rfl rfl) rfl
  have e198 : τ.bval 198 = (τ.ival 194 != τ.ival 197) := eqB (e.at 163 _ rfl rfl) rfl
  have e199 : τ.ival 199 = IntKind.i32.wrap (BitVec.ofInt IntKind.i32.bits (τ.ival 35) ||| BitVec.ofInt IntKind.i32.bits (τ.ival 195)).toNat := eqI (e.at 164 _ rfl rfl) rfl
  have e200 : τ.bval 200 = (τ.ival 194 != τ.ival 199) := eqB (e.at 165 _ rfl rfl) rfl
  have e201 : τ.bval 201 = (τ.ival 194 != τ.ival 35) := eqB (e.at 166 _ rfl rfl) rfl
  have e307 : τ.bval 307 = (!(τ.tab 579 [τ.ival 27, τ.ival 28, τ.ival 29] == 0)) := eqB (e.at 272 _ rfl rfl) rfl
  have e308 : τ.ival 308 = IntKind.u8.wrap (BitVec.ofInt IntKind.u8.bits (τ.ival 34) ||| BitVec.ofInt IntKind.u8.bits (8)).toNat := eqI (e.at 273 _ rfl rfl) rfl
  have e309 : τ.ival 309 = (bif τ.bval 307 then τ.ival 308 else τ.ival 34) := eqIteI (e.at 274 _ rfl rfl) rfl rfl rfl
  have e313 : τ.bval 313 = (!(τ.tab 579 [τ.ival 30, τ.ival 31, τ.ival 32] == 0)) := eqB (e.at 278 _ rfl rfl) rfl
  have e314 : τ.ival 314 = IntKind.u8.wrap (BitVec.ofInt IntKind.u8.bits (τ.ival 309) ||| BitVec.ofInt IntKind.u8.bits (16)).toNat := eqI (e.at 279 _ rfl rfl) rfl
  have e315 : τ.ival 315 = (bif τ.bval 313 then τ.ival 314 else τ.ival 309) := eqIteI (e.at 280 _ rfl rfl) rfl rfl rfl
  have e339 : τ.bval 339 = (!(τ.tab 279 [τ.ival 6, τ.ival 7, τ.ival 8, τ.ival 9, τ.ival 10, τ.ival 11, τ.ival 12, τ.ival 13, τ.ival 14, τ.ival 15, τ.ival 16, τ.ival 17, τ.ival 18, τ.ival 19, τ.ival 20, τ.ival 21, τ.ival 22, τ.ival 23, (if τ.bval 24 then 1 else 0), τ.ival 25, τ.ival 26] == 0)) := eqB (e.at 304 _ rfl rfl) rfl
  have e340 : τ.ival 340 = IntKind.u8.wrap (BitVec.ofInt IntKind.u8.bits (τ.ival 315) ||| BitVec.ofInt IntKind.u8.bits (4)).toNat := eqI (e.at 305 _ rfl rfl) rfl
  have e341 : τ.ival 341 = (bif τ.bval 339 then τ.ival 340 else τ.ival 315) := eqIteI (e.at 306 _ rfl rfl) rfl rfl rfl
  have e345 : τ.bval 345 = (!(τ.tab 835 [τ.ival 3, τ.ival 4, τ.ival 5, τ.ival 76] == 0)) := eqB (e.at 310 _ rfl rfl) rfl
  have e346 : τ.ival 346 = IntKind.u8.wrap (BitVec.ofInt IntKind.u8.bits (τ.ival 34) ||| BitVec.ofInt IntKind.u8.bits (1)).toNat := eqI (e.at 311 _ rfl rfl) rfl
  have e347 : τ.ival 347 = (bif τ.bval 345 then τ.ival 346 else τ.ival 34) := eqIteI (e.at 312 _ rfl rfl) rfl rfl rfl
  have e348 : τ.ival 348 = IntKind.i32.wrap (τ.ival 347) := eqI (e.at 313 _ rfl rfl) rfl
  have e370 : τ.bval 370 = (!(τ.tab 213 [τ.ival 6, τ.ival 7, τ.ival 8, τ.ival 9, τ.ival 10, τ.ival 11, τ.ival 12, τ.ival 13, τ.ival 14, τ.ival 15, τ.ival 16, τ.ival 17, τ.ival 18, τ.ival 19, τ.ival 20, τ.ival 21, τ.ival 22, τ.ival 23, (if τ.bval 24 then 1 else 0), τ.ival 25, τ.ival 26, τ.ival 76] == 0)) := eqB (e.at 335 _ rfl rfl) rfl
  have e371 : τ.ival 371 = IntKind.u8.wrap (BitVec.ofInt IntKind.u8.bits (τ.ival 34) ||| BitVec.ofInt IntKind.u8.bits (2)).toNat := eqI (e.at 336 _ rfl rfl) rfl
  have e372 : τ.ival 372 = (bif τ.bval 370 then τ.ival 371 else τ.ival 34) := eqIteI (e.at 337 _ rfl rfl) rfl rfl rfl
  have e373 : τ.ival 373 = IntKind.i32.wrap (τ.ival 372) := eqI (e.at 338 _ rfl rfl) rfl
  have e374 : τ.ival 374 = IntKind.i32.wrap (τ.ival 341) := eqI (e.at 339 _ rfl rfl) rfl
  have e375 : τ.ival 375 = IntKind.i32.wrap (BitVec.ofInt IntKind.i32.bits (τ.ival 348) &&& ~~~BitVec.ofInt IntKind.i32.bits (1)).toNat := eqI (e.at 340 _ rfl rfl) rfl
  have e376 : τ.ival 376 = IntKind.i32.wrap (BitVec.ofInt IntKind.i32.bits (τ.ival 35) &&& ~~~BitVec.ofInt IntKind.i32.bits (1)).toNat := eqI (e.at 341 _ rfl rfl) rfl
  have e377 : τ.bval 377 = (τ.ival 375 == τ.ival 376) := eqB (e.at 342 _ rfl rfl) rfl
  have e378 : τ.ival 378 = IntKind.i32.wrap (BitVec.ofInt IntKind.i32.bits (τ.ival 348) &&& BitVec.ofInt IntKind.i32.bits (τ.ival 35)).toNat := eqI (e.at 343 _ rfl rfl) rfl
  have e379 : τ.bval 379 = (τ.ival 378 == τ.ival 35) := eqB (e.at 344 _ rfl rfl) rfl
  have e380 : τ.ival 380 = IntKind.i32.wrap (BitVec.ofInt IntKind.i32.bits (τ.ival 373) &&& ~~~BitVec.ofInt IntKind.i32.bits (2)).toNat := eqI (e.at 345 _ rfl rfl) rfl
  have e381 : τ.ival 381 = IntKind.i32.wrap (BitVec.ofInt IntKind.i32.bits (τ.ival 35) &&& ~~~BitVec.ofInt IntKind.i32.bits (2)).toNat := eqI (e.at 346 _ rfl rfl) rfl
  have e382 : τ.bval 382 = (τ.ival 380 == τ.ival 381) := eqB (e.at 347 _ rfl rfl) rfl
  have e383 : τ.ival 383 = IntKind.i32.wrap (BitVec.ofInt IntKind.i32.bits (τ.ival 373) &&& BitVec.ofInt IntKind.i32.bits (τ.ival 35)).toNat := eqI (e.at 348 _ rfl rfl) rfl
  have e384 : τ.bval 384 = (τ.ival 383 == τ.ival 35) := eqB (e.at 349 _ rfl rfl) rfl
  have e385 : τ.ival 385 = IntKind.i32.wrap (BitVec.ofInt IntKind.i32.bits (τ.ival 374) &&& ~~~BitVec.ofInt IntKind.i32.bits (28)).toNat := eqI (e.at 350 _ rfl rfl) rfl
  have e386 : τ.ival 386 = IntKind.i32.wrap (BitVec.ofInt IntKind.i32.bits (τ.ival 35) &&& ~~~BitVec.ofInt IntKind.i32.bits (28)).toNat := eqI (e.at 351 _ rfl rfl) rfl
  have e387 : τ.bval 387 = (τ.ival 385 == τ.ival 386) := eqB (e.at 352 _ rfl rfl) rfl
  have e388 : τ.ival 388 = IntKind.i32.wrap (BitVec.ofInt IntKind.i32.bits (τ.ival 374) &&& BitVec.ofInt IntKind.i32.bits (τ.ival 35)).toNat := eqI (e.at 353 _ rfl rfl) rfl
  have e389 : τ.bval 389 = (τ.ival 388 == τ.ival 35) := eqB (e.at 354 _ rfl rfl) rfl
  have hn : 0 ≤ τ.ival 34 ∧ τ.ival 34 ≤ 255 := u8r (hin 34 .u8 (by decide) rfl)
  obtain ⟨n0, n1⟩ := hn
  have hm := u8m (τ.ival 2)
  rw [← e76] at hm
  have c76 : τ.ival 195 = τ.ival 76 := by rw [e195, e76]; exact low255 _
  have d347 : τ.ival 347 = may (τ.ival 34) 1 (τ.bval 345) := by rw [e347, e346]; rfl
  have d372 : τ.ival 372 = may (τ.ival 34) 2 (τ.bval 370) := by rw [e372, e371]; rfl
  have d341 : τ.ival 341 = may3 (τ.ival 34) (τ.bval 307) (τ.bval 313) (τ.bval 339) := by rw [e341, e340, e315, e314, e309, e308]; rfl
  have c377 : τ.bval 377 = true := by rw [e377, e375, e376, e348, e35, d347]; exact (q1 n0 n1 _).1
  have c379 : τ.bval 379 = true := by rw [e379, e378, e348, e35, d347]; exact (q1 n0 n1 _).2.2.1
  have c382 : τ.bval 382 = true := by rw [e382, e380, e381, e373, e35, d372]; exact (q1 n0 n1 _).2.1
  have c384 : τ.bval 384 = true := by rw [e384, e383, e373, e35, d372]; exact (q1 n0 n1 _).2.2.2
  have c387 : τ.bval 387 = true := by rw [e387, e385, e386, e374, e35, d341]; exact (q3 n0 n1 _ _ _).1
  have c389 : τ.bval 389 = true := by rw [e389, e388, e374, e35, d341]; exact (q3 n0 n1 _ _ _).2
  have chainN : τ.ival 85 = τ.ival 34 → τ.ival 193 = τ.ival 34 := by
    intro h
    rw [e193, e161, e132, e124, e119, e117, h]
    simp only [Bool.cond_self]
  have at13 : τ.ival 36 = 13 ∨ τ.ival 36 = 14 → τ.ival 193 = τ.ival 83 := by
    intro h
    rcases h with h | h <;>
    · have g38 : τ.bval 38 = false := by rw [e38, e37, h]; rfl
      have g39 : τ.bval 39 = false := by rw [e39, e37, h]; rfl
      have g40 : τ.bval 40 = false := by rw [e40, e37, h]; rfl
      have g41 : τ.bval 41 = false := by rw [e41, e37, h]; rfl
      have g42 : τ.bval 42 = true := by rw [e42, e37, h]; rfl
      have g43 : τ.bval 43 = true := by rw [e43, h]; rfl
      have g77 : τ.bval 77 = false := by rw [e77, h]; rfl
      rw [e193, g38, e161, g39, e132, g40, e124, g41, e119, g42, e117, g43, e85, g77]
      rfl
  have c198 : τ.bval 80 = true → τ.bval 198 = false := by
    intro h
    have h14 : τ.ival 36 = 14 := by rw [e80] at h; simpa using h
    have g78 : τ.bval 78 = false := by rw [e78, h14]; rfl
    rw [e198, e194, at13 (.inr h14), e83, g78, e82, h, e81, e197, e35, e196, c76]
    have := clear_same n0 n1 hm.1 hm.2
    unfold d8 a32 at this
    simp only [cond_true, cond_false]
    rw [this]
    simp
  have c200 : τ.bval 78 = true → τ.bval 200 = false := by
    intro h
    have h13 : τ.ival 36 = 13 := by rw [e78] at h; simpa using h
    rw [e200, e194, at13 (.inl h13), e83, h, e79, e199, e35, c76]
    have := set_same n0 n1 hm.1 hm.2
    unfold o8 o32 at this
    simp only [cond_true]
    rw [this]
    simp
  have c201 : τ.bval 80 = false → τ.bval 78 = false → τ.bval 201 = false := by
    intro h h2
    rw [e201, e194, chainN (by rw [e85, e83, h2, e82, h]; simp only [cond_false, Bool.cond_self]), e35]
    simp
  exact ⟨⟨fun hF => Bool.noConfusion ((c198 hF.2.1).symm.trans hF.1),
    ⟨⟨⟨⟨⟨fun _ => ⟨.inl rfl, rfl, ⟨congrArg AVal.bool c389, trivial⟩⟩,
    fun hF => Bool.noConfusion (c387.symm.trans hF.1)⟩,
    fun hF => Bool.noConfusion (c384.symm.trans hF.1)⟩,
    fun hF => Bool.noConfusion (c382.symm.trans hF.1)⟩,
    fun hF => Bool.noConfusion (c379.symm.trans hF.1)⟩,
    fun hF => Bool.noConfusion (c377.symm.trans hF.1)⟩⟩,
    ⟨⟨fun hF => Bool.noConfusion ((c200 hF.2.1).symm.trans hF.1),
    ⟨⟨⟨⟨⟨fun _ => ⟨.inl rfl, rfl, ⟨congrArg AVal.bool c389, trivial⟩⟩,
    fun hF => Bool.noConfusion (c387.symm.trans hF.1)⟩,
    fun hF => Bool.noConfusion (c384.symm.trans hF.1)⟩,
    fun hF => Bool.noConfusion (c382.symm.trans hF.1)⟩,
    fun hF => Bool.noConfusion (c379.symm.trans hF.1)⟩,
    fun hF => Bool.noConfusion (c377.symm.trans hF.1)⟩⟩,
    ⟨fun hF => Bool.noConfusion ((c201 hF.2.2.1 hF.2.1).symm.trans hF.1),
    ⟨⟨⟨⟨⟨fun _ => ⟨.inl rfl, rfl, ⟨congrArg AVal.bool c389, trivial⟩⟩,
    fun hF => Bool.noConfusion (c387.symm.trans hF.1)⟩,
    fun hF => Bool.noConfusion (c384.symm.trans hF.1)⟩,
    fun hF => Bool.noConfusion (c382.symm.trans hF.1)⟩,
    fun hF => Bool.noConfusion (c379.symm.trans hF.1)⟩,
    fun hF => Bool.noConfusion (c377.symm.trans hF.1)⟩⟩⟩⟩

theorem walk (W : World) (v0 : Value) (X0 : Fz) (r0 : RowV W [.i .u8, .i .i8, .i .i32] v0 X0) (l1 : List Int) (i1 : InR [.i .u8, .i .i8, .i .i32] l1) :
    Calls Try.prog 8 #[v0, .agg (encCs [.i .u8, .i .i8, .i .i32] l1).toArray] W fun e W' => e = .returned (.bool true) ∧ Below W.heap.size W W' := by
  have hl3 : l1.length = 3 := inR_length i1
  have he : InR b32c (playedF X0) := by
    have : InR (b32c ++ []) (playedF X0) := (played_fn W v0 X0 r0).1
    simpa using this
  exact row_straight (ss := [.agg [.i .u8, .i .i8, .i .i32]]) (ecl := b32c) (X := kpX (rowInv X0 35 (l1 ++ playedF X0))) (Wt := kpW) (SE := kpSE) (vs := [.symb 0]) (tab := tabOf dvFs) (l := l1) (e := playedF X0)
    fc.mixed Try.func8 hbody hnt (by simp [encS]) ⟨rfl, rfl, rfl, rfl, rfl, rfl, rfl⟩ kp_ok kp_lt
    (fun F => row_hooks (l := l1) played_fn r0 kp_lt (by rw [hl3]; rfl) rfl rfl (by rw [hl3]; rfl) kp_tru dv_all F)
    (by kernel_rfl) (by kernel_rfl) (kp_reck _) (by simpa [cellsOf] using i1) he kp_ob r0

section
variable {H : Type} {enc : TypeId × Value → H} {P : Program}
theorem post_of_below {f : Func} {s : ChangeSpec} {apart fresh handsOn again : Bool} {W W' : World} {args : Array Value} {v : Value} {ds gs : List (DataW H)} {before pa pv : List MemPlace}
    (hW : DataW.Whole enc P f.params.toList s.vars apart W args.toList ds gs before)
    (hres : ∀ (b : Nat) (sp : Nat → Bool) (hd : Bool), DataW.TrodAll enc P W' b sp hd f.resultTypes.toList (v.resultList f.resultTypes.size) (s.fn H (ds ++ gs)).results [])
    (hargs : ∀ sp : Nat → Bool, (∀ p ∈ before, sp p.block = true) → DataW.TrodAll enc P W' 0 sp true f.params.toList args.toList (s.fn H (ds ++ gs)).args pa)
    (hvars : ∀ sp : Nat → Bool, (∀ p ∈ before, sp p.block = true) → DataW.TrodVars enc P W' sp s.vars (s.fn H (ds ++ gs)).vars pv)
    (hps : before = pa ++ pv) (hb : Below W.heap.size W W')
    (hok : ∀ (j : Nat) (t : TypeId) (r : Value), f.resultTypes[j]? = some t → (v.resultList f.resultTypes.size)[j]? = some r → Value.okWide P W' .any 0 t r) :
    s.post enc P f apart fresh handsOn again W args v W' := by
  have hlt : ∀ p ∈ before, p.block < W.heap.size := fun p hp => hW.lt p hp
  have hold : ∀ p ∈ before, (fun b => decide (b < W.heap.size)) p.block = true := fun p hp => by simpa using hlt p hp
  refine ⟨ds, gs, before, [], pa, pv, hW, hres _ _ _, hargs _ hold, hvars _ hold, World.keptBut_mono (fun p hp => ⟨hp, ?_⟩) (hb.frame (· ∈ before)), fun _ => ?_⟩
  · rw [hps, List.mem_append] at hp
    exact Or.inr hp
  · obtain ⟨_, _, _, _, _, hz, hn⟩ := hW
    refine ⟨hok, _, _, ([] ++ pa) ++ pv, ⟨[] ++ pa, pv, trodAll_append (hargs _ (fun _ _ => rfl)) (hres _ _ _), hvars _ (fun _ _ => rfl), rfl, ?_, ?_⟩, ?_⟩
    · intro b off hp
      have hin : MemPlace.cell b off ∈ before := by rw [hps]; simpa using hp
      rw [hb.frozen (hlt _ hin)]
      exact hz b off hin
    · intro ha
      have := hn ha
      rw [hps] at this
      simpa using this
    · intro p hp _
      rw [hps]
      simpa using hp
end


theorem size60 : Nat.beq (Try.prog.cellsOf 60) ([.i .u8, .i .i8, .i .i32] : List Cl).length = true := by kernel_rfl
theorem flat60 : flat Try.prog 4 60 = some [.i .u8, .i .i8, .i .i32] := by kernel_rfl
theorem agg60 : Ev.isAgg Try.prog 60 = true := by kernel_rfl

set_option maxRecDepth 100000 in
theorem lifted (os : Os) (started : os.Started) (H : Type) (enc : TypeId × Value → H) :
    ReturnsInHanded {} Try.checked os 8 .any (Rows.bankKeepsSpec.pre6 enc Try.prog Try.f8 Rows.bankKeepsRow.domain false) (Rows.bankKeepsSpec.post enc Try.prog Try.f8 false true false false) := by
  refine returnsInHanded_of_change (C := Try.checked) own started (by kernel_rfl) Try.func8
    (ChangeSpec.witness6 (enc := enc) (C := Try.checked) false ⟨#[], #[.slice none 0 0, .agg #[.int .u8 0, .int .i8 0, .int .i32 0]], []⟩ 8 (by kernel_rfl) (by kernel_rfl) (by kernel_rfl) (by kernel_rfl)) ?_
  intro W base args ds gs before hval0 hW hcnd _
  have hval : ∀ (j : Nat) t v, Try.f8.params[j]? = some t → args[j]? = some v → Value.okWide Try.prog W .any base t v := hval0
  have hW' := hW
  obtain ⟨p, q, hA0, hV, rfl, hfz, hnd⟩ := hW
  have hA : DataW.TrodAll enc Try.prog W 0 (fun _ => true) true Try.f8.params.toList args.toList ds p := hA0
  rw [Try.params8] at hA hval
  obtain ⟨v0, vs0, d0, ds0, p0, q0, hargs, rfl, rfl, h0, r0⟩ := trodAll_cons hA
  obtain ⟨v1, vs1, d1, ds1, p1, q1, rfl, rfl, rfl, h1, r1⟩ := trodAll_cons r0
  obtain ⟨rfl, rfl, rfl⟩ := trodAll_nil r1
  obtain rfl : args = #[v0, v1] := by cases args; simp_all
  obtain ⟨rfl, rfl⟩ := trodVars_none hV
  obtain ⟨X0, R0⟩ := open_rows (cl := [.i .u8, .i .i8, .i .i32]) Try.underlying57 flat60 size60 rfl (hval 0 57 v0 rfl rfl) h0
  obtain ⟨l1, i1, rfl, rfl⟩ := open_agg flat60 agg60 (hval 1 60 v1 rfl rfl) h1
  clear hA0 hval0
  simp only [List.append_nil] at hW'
  refine (walk W v0 X0 R0.row l1 i1).mono fun e W' ⟨he, hg⟩ => ?_
  subst he
  exact ⟨_, rfl, post_of_below (pa := p0 ++ ([] ++ ([]))) (pv := []) hW' (fun _ _ _ => (trodAll_cons_mk (shut_bool Try.underlying4 _) trodAll_mk0)) (fun sp hsp => (trodAll_cons_mk (R0.again W' hg sp (fun z hz => hsp z (by simp [hz]))) (trodAll_cons_mk (shut_flat flat60 h1) trodAll_mk0))) (fun _ _ => rfl) (by simp)
    hg (ok_one (by kernel_rfl) rfl (okWide_bool_mk Try.underlying4 _))⟩

theorem over : Rows.bankKeepsRow.holds Try.pinned (OpenSpec.ofChange Rows.bankKeepsSpec) :=
  OpenClaim.holds_of_wide 8 Try.f8 rfl rfl rfl rfl rfl rfl rfl ⟨rfl, rfl, rfl, rfl, rfl⟩ rfl rfl rfl rfl rfl (by kernel_rfl) Try.func8 (by kernel_rfl)
    (of_decide_eq_true (by kernel_rfl)) (by unfold Func.isWrapper; first | (rw [if_pos (by decide +kernel)]; kernel_rfl) | (rw [if_neg (by decide +kernel)]; exact ⟨rfl, rfl⟩))
    (fun os started H enc _ => lifted os started H enc)

/-- THE STATEMENT -/
theorem proved : Rows.BankKeepsSaid :=
  over
#print axioms proved
end Go.Proofs.Ytgifnmiggloclab.bankKeeps
