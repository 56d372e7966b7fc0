/-
  The contract of the bank behind a row of acts.
  No conditions.
-/
import Derived.Test.YtgifnmiggloclabChecked
import Derived.Test.YtgifnmiggloclabBp
import Derived.Test.YtgifnmiggloclabEwZg
import Derived.ProofKit
namespace Go.Proofs.Ytgifnmiggloclab.pl
open Go.RowKit Go.Ev Go.Proofs.Ytgifnmiggloclab.fc Go.Proofs.Ytgifnmiggloclab.uc Go.Proofs.Ytgifnmiggloclab.bd Go.Proofs.Ytgifnmiggloclab.bp
set_option linter.unusedVariables false
set_option linter.unusedSimpArgs false


/-! ### The bank behind a row of acts -/

def plFs : Nat → List Int → List Int
  | 0 => bwriteF
  | 1 => breadF
  | 2 => btickF
  | 3 => bpinsF
  | _ => barriveF
def plTbl : List Ent := [⟨32, bwriteI, bwriteO, 0⟩, ⟨33, breadI, breadO, 1⟩, ⟨34, btickI, btickO, 2⟩, ⟨35, bpinsI, bpinsO, 3⟩, ⟨36, barriveI, barriveO, 4⟩]
def plBank (i : Nat) : List AVal := elCells i b32c
def plZero : List AVal := [.int .u8 0, .int .u8 0, .int .u8 0, .int .i64 0, .int .u8 0, .int .u8 0, .int .u8 0, .int .u8 0, .int .u8 0, .int .u8 0, .int .u8 0, .int .u8 0, .int .i64 0, .int .u8 0, .int .u8 0, .int .u8 0, .int .u8 0, .int .u8 0, .int .u8 0, .int .u8 0, .int .u8 0, .bool false, .int .u8 0, .int .u8 0, .int .u16 0, .int .u16 0, .int .u16 0, .int .u16 0, .int .u16 0, .int .u16 0, .int .u8 0, .int .u8 0]
def plS0 : Shape := ⟨argT 0 [.row 0], []⟩
def plS1 : Shape := ⟨[(0, .row 0), (4, .symi .i64 0), (2, .ptr 0 0), (3, .ptr 1 0)], [.cells plZero 68, .cells (plBank 2) 68]⟩
def plS2 : Shape := ⟨[(2, .ptr 0 0), (3, .ptr 1 0)], [.cells plZero 68, .cells (plBank 0) 68]⟩
def plSE : Shape := ⟨[(2, .ptr 0 0)], [.cells (plBank 0) 68]⟩
def plQK : List (Option IntKind) := [some .i64, some .i64] ++ b32c.map kindC

theorem pl_all : ∀ e, e ∈ plTbl → (cellsOf e.outs).length ≤ 64 ∧ FnOk Try.prog e.f e.ins e.outs (plFs e.id) := by
  intro e he
  simp only [plTbl, List.mem_cons, List.not_mem_nil, or_false] at he
  rcases he with rfl | rfl | rfl | rfl | rfl
  · exact ⟨by decide, bwrite_contract⟩
  · exact ⟨by decide, bread_contract⟩
  · exact ⟨by decide, btick_contract⟩
  · exact ⟨by decide, bpins_contract⟩
  · exact ⟨by decide, barrive_contract⟩

set_option maxRecDepth 100000 in
def plAG : List SDef := []

set_option maxRecDepth 100000 in
def plAT : LT := .e

set_option maxRecDepth 100000 in
def plAW : Sw := .run (.leaf .normal plS1 [(0, 0), (1, 0)] [(0, .int .i64 0), (2, .int .u8 0), (3, .int .u8 0), (4, .int .u8 0), (5, .int .i64 0), (6, .int .u8 0), (7, .int .u8 0), (8, .int .u8 0), (9, .int .u8 0), (10, .int .u8 0), (11, .int .u8 0), (12, .int .u8 0), (13, .int .u8 0), (14, .int .i64 0), (15, .int .u8 0), (16, .int .u8 0), (17, .int .u8 0), (18, .int .u8 0), (19, .int .u8 0), (20, .int .u8 0), (21, .int .u8 0), (22, .int .u8 0), (23, .bool false), (24, .int .u8 0), (25, .int .u8 0), (26, .int .u16 0), (27, .int .u16 0), (28, .int .u16 0), (29, .int .u16 0), (30, .int .u16 0), (31, .int .u16 0), (32, .int .u8 0), (33, .int .u8 0)] [(1, .symi .i64 1)])
def plL0 : List AVal := [.symi .u8 2, .symi .u8 3, .symi .u8 4, .symi .i64 5, .symi .u8 6, .symi .u8 7, .symi .u8 8, .symi .u8 9, .symi .u8 10, .symi .u8 11, .symi .u8 12, .symi .u8 13, .symi .i64 14, .symi .u8 15, .symi .u8 16, .symi .u8 17, .symi .u8 18, .symi .u8 19, .symi .u8 20, .symi .u8 21, .symi .u8 22, .symb 23, .symi .u8 24, .symi .u8 25, .symi .u16 26, .symi .u16 27, .symi .u16 28, .symi .u16 29, .symi .u16 30, .symi .u16 31, .symi .u8 32, .symi .u8 33, .symi .i64 42, .symi .i32 36]
def plL1 : List AVal := [.symi .u8 2, .symi .u8 3, .symi .u8 4, .symi .i64 5, .symi .u8 6, .symi .u8 7, .symi .u8 8, .symi .u8 9, .symi .u8 10, .symi .u8 11, .symi .u8 12, .symi .u8 13, .symi .i64 14, .symi .u8 15, .symi .u8 16, .symi .u8 17, .symi .u8 18, .symi .u8 19, .symi .u8 20, .symi .u8 21, .symi .u8 22, .symb 23, .symi .u8 24, .symi .u8 25, .symi .u16 26, .symi .u16 27, .symi .u16 28, .symi .u16 29, .symi .u16 30, .symi .u16 31, .symi .u8 32, .symi .u8 33, .symi .i64 42]
def plL2 : List AVal := [.symi .u8 2, .symi .u8 3, .symi .u8 4, .symi .i64 5, .symi .u8 6, .symi .u8 7, .symi .u8 8, .symi .u8 9, .symi .u8 10, .symi .u8 11, .symi .u8 12, .symi .u8 13, .symi .i64 14, .symi .u8 15, .symi .u8 16, .symi .u8 17, .symi .u8 18, .symi .u8 19, .symi .u8 20, .symi .u8 21, .symi .u8 22, .symb 23, .symi .u8 24, .symi .u8 25, .symi .u16 26, .symi .u16 27, .symi .u16 28, .symi .u16 29, .symi .u16 30, .symi .u16 31, .symi .u8 32, .symi .u8 33, .symi .u8 110]
def plL3 : List AVal := [.symi .u8 2, .symi .u8 3, .symi .u8 4, .symi .i64 5, .symi .u8 6, .symi .u8 7, .symi .u8 8, .symi .u8 9, .symi .u8 10, .symi .u8 11, .symi .u8 12, .symi .u8 13, .symi .i64 14, .symi .u8 15, .symi .u8 16, .symi .u8 17, .symi .u8 18, .symi .u8 19, .symi .u8 20, .symi .u8 21, .symi .u8 22, .symb 23, .symi .u8 24, .symi .u8 25, .symi .u16 26, .symi .u16 27, .symi .u16 28, .symi .u16 29, .symi .u16 30, .symi .u16 31, .symi .u8 32, .symi .u8 33]
set_option maxRecDepth 100000 in
def plBG : List SDef := [.bin .lss (.symi .i64 0) (.symi .i64 1),
  .bin .lss (.symi .i64 0) (.int .i64 100),
  .bin .leq (.int .i64 0) (.symi .i64 0),
  .bin .rem (.symi .u8 34) (.int .u8 12),
  .bin .lss (.symi .u8 40) (.int .u8 4),
  .conv .i64 (.symi .i8 35),
  .fn 0 .u8 plL0,
  .fn 1 .u8 plL0,
  .fn 2 .u8 plL0,
  .fn 3 .i64 plL0,
  .fn 4 .u8 plL0,
  .fn 5 .u8 plL0,
  .fn 6 .u8 plL0,
  .fn 7 .u8 plL0,
  .fn 8 .u8 plL0,
  .fn 9 .u8 plL0,
  .fn 10 .u8 plL0,
  .fn 11 .u8 plL0,
  .fn 12 .i64 plL0,
  .fn 13 .u8 plL0,
  .fn 14 .u8 plL0,
  .fn 15 .u8 plL0,
  .fn 16 .u8 plL0,
  .fn 17 .u8 plL0,
  .fn 18 .u8 plL0,
  .fn 19 .u8 plL0,
  .fn 20 .u8 plL0,
  .fnb 21 plL0,
  .fn 22 .u8 plL0,
  .fn 23 .u8 plL0,
  .fn 24 .u16 plL0,
  .fn 25 .u16 plL0,
  .fn 26 .u16 plL0,
  .fn 27 .u16 plL0,
  .fn 28 .u16 plL0,
  .fn 29 .u16 plL0,
  .fn 30 .u8 plL0,
  .fn 31 .u8 plL0,
  .bin .lss (.symi .u8 40) (.int .u8 6),
  .fn 64 .i32 plL1,
  .fn 65 .u8 plL1,
  .fn 66 .u8 plL1,
  .fn 67 .u8 plL1,
  .fn 68 .i64 plL1,
  .fn 69 .u8 plL1,
  .fn 70 .u8 plL1,
  .fn 71 .u8 plL1,
  .fn 72 .u8 plL1,
  .fn 73 .u8 plL1,
  .fn 74 .u8 plL1,
  .fn 75 .u8 plL1,
  .fn 76 .u8 plL1,
  .fn 77 .i64 plL1,
  .fn 78 .u8 plL1,
  .fn 79 .u8 plL1,
  .fn 80 .u8 plL1,
  .fn 81 .u8 plL1,
  .fn 82 .u8 plL1,
  .fn 83 .u8 plL1,
  .fn 84 .u8 plL1,
  .fn 85 .u8 plL1,
  .fnb 86 plL1,
  .fn 87 .u8 plL1,
  .fn 88 .u8 plL1,
  .fn 89 .u16 plL1,
  .fn 90 .u16 plL1,
  .fn 91 .u16 plL1,
  .fn 92 .u16 plL1,
  .fn 93 .u16 plL1,
  .fn 94 .u16 plL1,
  .fn 95 .u8 plL1,
  .fn 96 .u8 plL1,
  .bin .eql (.symi .u8 40) (.int .u8 6),
  .conv .u8 (.symi .i32 36),
  .fn 192 .u8 plL2,
  .fn 193 .u8 plL2,
  .fn 194 .u8 plL2,
  .fn 195 .i64 plL2,
  .fn 196 .u8 plL2,
  .fn 197 .u8 plL2,
  .fn 198 .u8 plL2,
  .fn 199 .u8 plL2,
  .fn 200 .u8 plL2,
  .fn 201 .u8 plL2,
  .fn 202 .u8 plL2,
  .fn 203 .u8 plL2,
  .fn 204 .i64 plL2,
  .fn 205 .u8 plL2,
  .fn 206 .u8 plL2,
  .fn 207 .u8 plL2,
  .fn 208 .u8 plL2,
  .fn 209 .u8 plL2,
  .fn 210 .u8 plL2,
  .fn 211 .u8 plL2,
  .fn 212 .u8 plL2,
  .fnb 213 plL2,
  .fn 214 .u8 plL2,
  .fn 215 .u8 plL2,
  .fn 216 .u16 plL2,
  .fn 217 .u16 plL2,
  .fn 218 .u16 plL2,
  .fn 219 .u16 plL2,
  .fn 220 .u16 plL2,
  .fn 221 .u16 plL2,
  .fn 222 .u8 plL2,
  .fn 223 .u8 plL2,
  .bin .eql (.symi .u8 40) (.int .u8 7),
  .fn 256 .u8 plL2,
  .fn 257 .u8 plL2,
  .fn 258 .u8 plL2,
  .fn 259 .i64 plL2,
  .fn 260 .u8 plL2,
  .fn 261 .u8 plL2,
  .fn 262 .u8 plL2,
  .fn 263 .u8 plL2,
  .fn 264 .u8 plL2,
  .fn 265 .u8 plL2,
  .fn 266 .u8 plL2,
  .fn 267 .u8 plL2,
  .fn 268 .i64 plL2,
  .fn 269 .u8 plL2,
  .fn 270 .u8 plL2,
  .fn 271 .u8 plL2,
  .fn 272 .u8 plL2,
  .fn 273 .u8 plL2,
  .fn 274 .u8 plL2,
  .fn 275 .u8 plL2,
  .fn 276 .u8 plL2,
  .fnb 277 plL2,
  .fn 278 .u8 plL2,
  .fn 279 .u8 plL2,
  .fn 280 .u16 plL2,
  .fn 281 .u16 plL2,
  .fn 282 .u16 plL2,
  .fn 283 .u16 plL2,
  .fn 284 .u16 plL2,
  .fn 285 .u16 plL2,
  .fn 286 .u8 plL2,
  .fn 287 .u8 plL2,
  .fn 128 .u8 plL3,
  .fn 129 .u8 plL3,
  .fn 130 .u8 plL3,
  .fn 131 .i64 plL3,
  .fn 132 .u8 plL3,
  .fn 133 .u8 plL3,
  .fn 134 .u8 plL3,
  .fn 135 .u8 plL3,
  .fn 136 .u8 plL3,
  .fn 137 .u8 plL3,
  .fn 138 .u8 plL3,
  .fn 139 .u8 plL3,
  .fn 140 .i64 plL3,
  .fn 141 .u8 plL3,
  .fn 142 .u8 plL3,
  .fn 143 .u8 plL3,
  .fn 144 .u8 plL3,
  .fn 145 .u8 plL3,
  .fn 146 .u8 plL3,
  .fn 147 .u8 plL3,
  .fn 148 .u8 plL3,
  .fnb 149 plL3,
  .fn 150 .u8 plL3,
  .fn 151 .u8 plL3,
  .fn 152 .u16 plL3,
  .fn 153 .u16 plL3,
  .fn 154 .u16 plL3,
  .fn 155 .u16 plL3,
  .fn 156 .u16 plL3,
  .fn 157 .u16 plL3,
  .fn 158 .u8 plL3,
  .fn 159 .u8 plL3,
  .fn 160 .u8 plL3,
  .fnb 161 plL3,
  .ite (.symb 143) (.symi .u8 144) (.symi .u8 176),
  .ite (.symb 143) (.symi .u8 145) (.symi .u8 177),
  .ite (.symb 143) (.symi .u8 146) (.symi .u8 178),
  .ite (.symb 143) (.symi .i64 147) (.symi .i64 179),
  .ite (.symb 143) (.symi .u8 148) (.symi .u8 180),
  .ite (.symb 143) (.symi .u8 149) (.symi .u8 181),
  .ite (.symb 143) (.symi .u8 150) (.symi .u8 182),
  .ite (.symb 143) (.symi .u8 151) (.symi .u8 183),
  .ite (.symb 143) (.symi .u8 152) (.symi .u8 184),
  .ite (.symb 143) (.symi .u8 153) (.symi .u8 185),
  .ite (.symb 143) (.symi .u8 154) (.symi .u8 186),
  .ite (.symb 143) (.symi .u8 155) (.symi .u8 187),
  .ite (.symb 143) (.symi .i64 156) (.symi .i64 188),
  .ite (.symb 143) (.symi .u8 157) (.symi .u8 189),
  .ite (.symb 143) (.symi .u8 158) (.symi .u8 190),
  .ite (.symb 143) (.symi .u8 159) (.symi .u8 191),
  .ite (.symb 143) (.symi .u8 160) (.symi .u8 192),
  .ite (.symb 143) (.symi .u8 161) (.symi .u8 193),
  .ite (.symb 143) (.symi .u8 162) (.symi .u8 194),
  .ite (.symb 143) (.symi .u8 163) (.symi .u8 195),
  .ite (.symb 143) (.symi .u8 164) (.symi .u8 196),
  .ite (.symb 143) (.symb 165) (.symb 197),
  .ite (.symb 143) (.symi .u8 166) (.symi .u8 198),
  .ite (.symb 143) (.symi .u8 167) (.symi .u8 199),
  .ite (.symb 143) (.symi .u16 168) (.symi .u16 200),
  .ite (.symb 143) (.symi .u16 169) (.symi .u16 201),
  .ite (.symb 143) (.symi .u16 170) (.symi .u16 202),
  .ite (.symb 143) (.symi .u16 171) (.symi .u16 203),
  .ite (.symb 143) (.symi .u16 172) (.symi .u16 204),
  .ite (.symb 143) (.symi .u16 173) (.symi .u16 205),
  .ite (.symb 143) (.symi .u8 174) (.symi .u8 206),
  .ite (.symb 143) (.symi .u8 175) (.symi .u8 207),
  .ite (.symb 109) (.symi .u8 111) (.symi .u8 210),
  .ite (.symb 109) (.symi .u8 112) (.symi .u8 211),
  .ite (.symb 109) (.symi .u8 113) (.symi .u8 212),
  .ite (.symb 109) (.symi .i64 114) (.symi .i64 213),
  .ite (.symb 109) (.symi .u8 115) (.symi .u8 214),
  .ite (.symb 109) (.symi .u8 116) (.symi .u8 215),
  .ite (.symb 109) (.symi .u8 117) (.symi .u8 216),
  .ite (.symb 109) (.symi .u8 118) (.symi .u8 217),
  .ite (.symb 109) (.symi .u8 119) (.symi .u8 218),
  .ite (.symb 109) (.symi .u8 120) (.symi .u8 219),
  .ite (.symb 109) (.symi .u8 121) (.symi .u8 220),
  .ite (.symb 109) (.symi .u8 122) (.symi .u8 221),
  .ite (.symb 109) (.symi .i64 123) (.symi .i64 222),
  .ite (.symb 109) (.symi .u8 124) (.symi .u8 223),
  .ite (.symb 109) (.symi .u8 125) (.symi .u8 224),
  .ite (.symb 109) (.symi .u8 126) (.symi .u8 225),
  .ite (.symb 109) (.symi .u8 127) (.symi .u8 226),
  .ite (.symb 109) (.symi .u8 128) (.symi .u8 227),
  .ite (.symb 109) (.symi .u8 129) (.symi .u8 228),
  .ite (.symb 109) (.symi .u8 130) (.symi .u8 229),
  .ite (.symb 109) (.symi .u8 131) (.symi .u8 230),
  .ite (.symb 109) (.symb 132) (.symb 231),
  .ite (.symb 109) (.symi .u8 133) (.symi .u8 232),
  .ite (.symb 109) (.symi .u8 134) (.symi .u8 233),
  .ite (.symb 109) (.symi .u16 135) (.symi .u16 234),
  .ite (.symb 109) (.symi .u16 136) (.symi .u16 235),
  .ite (.symb 109) (.symi .u16 137) (.symi .u16 236),
  .ite (.symb 109) (.symi .u16 138) (.symi .u16 237),
  .ite (.symb 109) (.symi .u16 139) (.symi .u16 238),
  .ite (.symb 109) (.symi .u16 140) (.symi .u16 239),
  .ite (.symb 109) (.symi .u8 141) (.symi .u8 240),
  .ite (.symb 109) (.symi .u8 142) (.symi .u8 241),
  .ite (.symb 75) (.symi .u8 77) (.symi .u8 242),
  .ite (.symb 75) (.symi .u8 78) (.symi .u8 243),
  .ite (.symb 75) (.symi .u8 79) (.symi .u8 244),
  .ite (.symb 75) (.symi .i64 80) (.symi .i64 245),
  .ite (.symb 75) (.symi .u8 81) (.symi .u8 246),
  .ite (.symb 75) (.symi .u8 82) (.symi .u8 247),
  .ite (.symb 75) (.symi .u8 83) (.symi .u8 248),
  .ite (.symb 75) (.symi .u8 84) (.symi .u8 249),
  .ite (.symb 75) (.symi .u8 85) (.symi .u8 250),
  .ite (.symb 75) (.symi .u8 86) (.symi .u8 251),
  .ite (.symb 75) (.symi .u8 87) (.symi .u8 252),
  .ite (.symb 75) (.symi .u8 88) (.symi .u8 253),
  .ite (.symb 75) (.symi .i64 89) (.symi .i64 254),
  .ite (.symb 75) (.symi .u8 90) (.symi .u8 255),
  .ite (.symb 75) (.symi .u8 91) (.symi .u8 256),
  .ite (.symb 75) (.symi .u8 92) (.symi .u8 257),
  .ite (.symb 75) (.symi .u8 93) (.symi .u8 258),
  .ite (.symb 75) (.symi .u8 94) (.symi .u8 259),
  .ite (.symb 75) (.symi .u8 95) (.symi .u8 260),
  .ite (.symb 75) (.symi .u8 96) (.symi .u8 261),
  .ite (.symb 75) (.symi .u8 97) (.symi .u8 262),
  .ite (.symb 75) (.symb 98) (.symb 263),
  .ite (.symb 75) (.symi .u8 99) (.symi .u8 264),
  .ite (.symb 75) (.symi .u8 100) (.symi .u8 265),
  .ite (.symb 75) (.symi .u16 101) (.symi .u16 266),
  .ite (.symb 75) (.symi .u16 102) (.symi .u16 267),
  .ite (.symb 75) (.symi .u16 103) (.symi .u16 268),
  .ite (.symb 75) (.symi .u16 104) (.symi .u16 269),
  .ite (.symb 75) (.symi .u16 105) (.symi .u16 270),
  .ite (.symb 75) (.symi .u16 106) (.symi .u16 271),
  .ite (.symb 75) (.symi .u8 107) (.symi .u8 272),
  .ite (.symb 75) (.symi .u8 108) (.symi .u8 273),
  .ite (.symb 41) (.symi .u8 43) (.symi .u8 274),
  .ite (.symb 41) (.symi .u8 44) (.symi .u8 275),
  .ite (.symb 41) (.symi .u8 45) (.symi .u8 276),
  .ite (.symb 41) (.symi .i64 46) (.symi .i64 277),
  .ite (.symb 41) (.symi .u8 47) (.symi .u8 278),
  .ite (.symb 41) (.symi .u8 48) (.symi .u8 279),
  .ite (.symb 41) (.symi .u8 49) (.symi .u8 280),
  .ite (.symb 41) (.symi .u8 50) (.symi .u8 281),
  .ite (.symb 41) (.symi .u8 51) (.symi .u8 282),
  .ite (.symb 41) (.symi .u8 52) (.symi .u8 283),
  .ite (.symb 41) (.symi .u8 53) (.symi .u8 284),
  .ite (.symb 41) (.symi .u8 54) (.symi .u8 285),
  .ite (.symb 41) (.symi .i64 55) (.symi .i64 286),
  .ite (.symb 41) (.symi .u8 56) (.symi .u8 287),
  .ite (.symb 41) (.symi .u8 57) (.symi .u8 288),
  .ite (.symb 41) (.symi .u8 58) (.symi .u8 289),
  .ite (.symb 41) (.symi .u8 59) (.symi .u8 290),
  .ite (.symb 41) (.symi .u8 60) (.symi .u8 291),
  .ite (.symb 41) (.symi .u8 61) (.symi .u8 292),
  .ite (.symb 41) (.symi .u8 62) (.symi .u8 293),
  .ite (.symb 41) (.symi .u8 63) (.symi .u8 294),
  .ite (.symb 41) (.symb 64) (.symb 295),
  .ite (.symb 41) (.symi .u8 65) (.symi .u8 296),
  .ite (.symb 41) (.symi .u8 66) (.symi .u8 297),
  .ite (.symb 41) (.symi .u16 67) (.symi .u16 298),
  .ite (.symb 41) (.symi .u16 68) (.symi .u16 299),
  .ite (.symb 41) (.symi .u16 69) (.symi .u16 300),
  .ite (.symb 41) (.symi .u16 70) (.symi .u16 301),
  .ite (.symb 41) (.symi .u16 71) (.symi .u16 302),
  .ite (.symb 41) (.symi .u16 72) (.symi .u16 303),
  .ite (.symb 41) (.symi .u8 73) (.symi .u8 304),
  .ite (.symb 41) (.symi .u8 74) (.symi .u8 305),
  .bin .add (.symi .i64 0) (.int .i64 1)]

set_option maxRecDepth 100000 in
def plBT : LT := .n (.n (.n (.n (.n (.n (.n (.n (.n (.e) 30227 39 (.bin .leq (.int .i64 0) (.symi .i64 0)) (.e)) 60352 338 (.bin .add (.symi .i64 0) (.int .i64 1)) (.e)) 2401517 249 (.ite (.symb 109) (.symi .u8 118) (.symi .u8 217)) (.n (.e) 5013908 38 (.bin .lss (.symi .i64 0) (.int .i64 100)) (.e))) 15998384 294 (.ite (.symb 75) (.symi .u8 97) (.symi .u8 262)) (.n (.n (.n (.e) 33708582 267 (.ite (.symb 109) (.symi .u16 136) (.symi .u16 235)) (.e)) 42850389 220 (.ite (.symb 143) (.symi .u8 154) (.symi .u8 186)) (.e)) 45765540 314 (.ite (.symb 41) (.symi .u8 51) (.symi .u8 282)) (.n (.e) 49878871 242 (.ite (.symb 109) (.symi .u8 111) (.symi .u8 210)) (.e)))) 63475738 287 (.ite (.symb 75) (.symi .u8 90) (.symi .u8 255)) (.n (.n (.n (.n (.e) 74157454 238 (.ite (.symb 143) (.symi .u16 172) (.symi .u16 204)) (.e)) 77072605 332 (.ite (.symb 41) (.symi .u16 69) (.symi .u16 300)) (.e)) 81185936 260 (.ite (.symb 109) (.symi .u8 129) (.symi .u8 228)) (.n (.e) 90327743 213 (.ite (.symb 143) (.symi .i64 147) (.symi .i64 179)) (.e))) 93242894 307 (.ite (.symb 41) (.symi .u8 44) (.symi .u8 275)) (.n (.n (.e) 94782803 305 (.ite (.symb 75) (.symi .u8 108) (.symi .u8 273)) (.e)) 110953092 280 (.ite (.symb 75) (.symi .u8 83) (.symi .u8 248)) (.n (.e) 123265968 231 (.ite (.symb 143) (.symb 165) (.symb 197)) (.e))))) 124549959 325 (.ite (.symb 41) (.symi .u8 62) (.symi .u8 293)) (.n (.n (.n (.n (.n (.e) 128663290 253 (.ite (.symb 109) (.symi .u8 122) (.symi .u8 221)) (.e)) 142260157 298 (.ite (.symb 75) (.symi .u16 101) (.symi .u16 266)) (.e)) 159970355 271 (.ite (.symb 109) (.symi .u16 140) (.symi .u16 239)) (.n (.e) 169112162 224 (.ite (.symb 143) (.symi .u8 158) (.symi .u8 190)) (.e))) 172027313 318 (.ite (.symb 41) (.symi .i64 55) (.symi .i64 286)) (.n (.n (.n (.e) 176140644 246 (.ite (.symb 109) (.symi .u8 115) (.symi .u8 214)) (.e)) 189737511 291 (.ite (.symb 75) (.symi .u8 94) (.symi .u8 259)) (.e)) 203334378 336 (.ite (.symb 41) (.symi .u8 73) (.symi .u8 304)) (.n (.e) 207447709 264 (.ite (.symb 109) (.symi .u8 133) (.symi .u8 232)) (.e)))) 213395586 40 (.bin .rem (.symi .u8 34) (.int .u8 12)) (.n (.n (.n (.n (.e) 216589516 217 (.ite (.symb 143) (.symi .u8 151) (.symi .u8 183)) (.e)) 219504667 311 (.ite (.symb 41) (.symi .u8 48) (.symi .u8 279)) (.e)) 237214865 284 (.ite (.symb 75) (.symi .u8 87) (.symi .u8 252)) (.n (.e) 247896581 235 (.ite (.symb 143) (.symi .u16 169) (.symi .u16 201)) (.e))) 250811732 329 (.ite (.symb 41) (.symi .u8 66) (.symi .u8 297)) (.n (.n (.e) 254925063 257 (.ite (.symb 109) (.symi .u8 126) (.symi .u8 225)) (.e)) 264066870 210 (.ite (.symb 143) (.symi .u8 144) (.symi .u8 176)) (.n (.e) 268521930 302 (.ite (.symb 75) (.symi .u16 105) (.symi .u16 270)) (.e)))))) 284692219 277 (.ite (.symb 75) (.symi .i64 80) (.symi .i64 245)) (.n (.n (.n (.n (.n (.n (.e) 295373935 228 (.ite (.symb 143) (.symi .u8 162) (.symi .u8 194)) (.e)) 298289086 322 (.ite (.symb 41) (.symi .u8 59) (.symi .u8 290)) (.e)) 302402417 250 (.ite (.symb 109) (.symi .u8 119) (.symi .u8 218)) (.n (.e) 317629934 295 (.ite (.symb 75) (.symb 98) (.symb 263)) (.e))) 328803838 76 (.fn 64 .i32 plL1) (.n (.n (.n (.e) 328803881 77 (.fn 65 .u8 plL1) (.e)) 328803924 78 (.fn 66 .u8 plL1) (.e)) 328803967 79 (.fn 67 .u8 plL1) (.n (.e) 328804010 80 (.fn 68 .i64 plL1) (.e)))) 328804053 81 (.fn 69 .u8 plL1) (.n (.n (.n (.n (.e) 328804096 82 (.fn 70 .u8 plL1) (.e)) 328804139 83 (.fn 71 .u8 plL1) (.e)) 328804182 84 (.fn 72 .u8 plL1) (.n (.e) 328804225 85 (.fn 73 .u8 plL1) (.e))) 328804268 86 (.fn 74 .u8 plL1) (.n (.n (.e) 328804311 87 (.fn 75 .u8 plL1) (.e)) 328804354 88 (.fn 76 .u8 plL1) (.n (.e) 328804397 89 (.fn 77 .i64 plL1) (.e))))) 328804440 90 (.fn 78 .u8 plL1) (.n (.n (.n (.n (.n (.e) 328804483 91 (.fn 79 .u8 plL1) (.e)) 328804526 92 (.fn 80 .u8 plL1) (.e)) 328804569 93 (.fn 81 .u8 plL1) (.n (.e) 328804612 94 (.fn 82 .u8 plL1) (.e))) 328804655 95 (.fn 83 .u8 plL1) (.n (.n (.n (.e) 328804698 96 (.fn 84 .u8 plL1) (.e)) 328804741 97 (.fn 85 .u8 plL1) (.e)) 328804827 99 (.fn 87 .u8 plL1) (.n (.e) 328804870 100 (.fn 88 .u8 plL1) (.e)))) 328804913 101 (.fn 89 .u16 plL1) (.n (.n (.n (.n (.e) 328804956 102 (.fn 90 .u16 plL1) (.e)) 328804999 103 (.fn 91 .u16 plL1) (.e)) 328805042 104 (.fn 92 .u16 plL1) (.n (.e) 328805085 105 (.fn 93 .u16 plL1) (.e))) 328805128 106 (.fn 94 .u16 plL1) (.n (.n (.e) 328805171 107 (.fn 95 .u8 plL1) (.e)) 328805214 108 (.fn 96 .u8 plL1) (.n (.e) 333101712 197 (.fnb 149 plL3) (.e))))))) 333102348 209 (.fnb 161 plL3) (.n (.n (.n (.n (.n (.n (.n (.e) 333709482 268 (.ite (.symb 109) (.symi .u16 137) (.symi .u16 236)) (.e)) 342851289 221 (.ite (.symb 143) (.symi .u8 155) (.symi .u8 187)) (.e)) 343384000 37 (.bin .lss (.symi .i64 0) (.symi .i64 1)) (.n (.e) 345766440 315 (.ite (.symb 41) (.symi .u8 52) (.symi .u8 283)) (.e))) 349879771 243 (.ite (.symb 109) (.symi .u8 112) (.symi .u8 211)) (.n (.n (.n (.e) 363476638 288 (.ite (.symb 75) (.symi .u8 91) (.symi .u8 256)) (.e)) 374158354 239 (.ite (.symb 143) (.symi .u16 173) (.symi .u16 205)) (.e)) 377073505 333 (.ite (.symb 41) (.symi .u16 70) (.symi .u16 301)) (.n (.e) 381186836 261 (.ite (.symb 109) (.symi .u8 130) (.symi .u8 229)) (.e)))) 383785666 42 (.conv .i64 (.symi .i8 35)) (.n (.n (.n (.n (.e) 390328643 214 (.ite (.symb 143) (.symi .u8 148) (.symi .u8 180)) (.e)) 393243794 308 (.ite (.symb 41) (.symi .u8 45) (.symi .u8 276)) (.e)) 410953992 281 (.ite (.symb 75) (.symi .u8 84) (.symi .u8 249)) (.n (.e) 421635708 232 (.ite (.symb 143) (.symi .u8 166) (.symi .u8 198)) (.e))) 424550859 326 (.ite (.symb 41) (.symi .u8 63) (.symi .u8 294)) (.n (.n (.e) 428664190 254 (.ite (.symb 109) (.symi .i64 123) (.symi .i64 222)) (.e)) 442261057 299 (.ite (.symb 75) (.symi .u16 102) (.symi .u16 267)) (.n (.e) 458431346 274 (.ite (.symb 75) (.symi .u8 77) (.symi .u8 242)) (.e))))) 459971255 272 (.ite (.symb 109) (.symi .u8 141) (.symi .u8 240)) (.n (.n (.n (.n (.n (.e) 469113062 225 (.ite (.symb 143) (.symi .u8 159) (.symi .u8 191)) (.e)) 472028213 319 (.ite (.symb 41) (.symi .u8 56) (.symi .u8 287)) (.e)) 476141544 247 (.ite (.symb 109) (.symi .u8 116) (.symi .u8 215)) (.n (.e) 486785975 110 (.conv .u8 (.symi .i32 36)) (.e))) 489738411 292 (.ite (.symb 75) (.symi .u8 95) (.symi .u8 260)) (.n (.n (.n (.e) 499598793 98 (.fnb 86 plL1) (.e)) 503335278 337 (.ite (.symb 41) (.symi .u8 74) (.symi .u8 305)) (.e)) 507448609 265 (.ite (.symb 109) (.symi .u8 134) (.symi .u8 233)) (.n (.e) 516590416 218 (.ite (.symb 143) (.symi .u8 152) (.symi .u8 184)) (.e)))) 519505567 312 (.ite (.symb 41) (.symi .u8 49) (.symi .u8 280)) (.n (.n (.n (.n (.e) 537215765 285 (.ite (.symb 75) (.symi .u8 88) (.symi .u8 253)) (.e)) 547897481 236 (.ite (.symb 143) (.symi .u16 170) (.symi .u16 202)) (.e)) 550812632 330 (.ite (.symb 41) (.symi .u16 67) (.symi .u16 298)) (.n (.e) 554925963 258 (.ite (.symb 109) (.symi .u8 127) (.symi .u8 226)) (.e))) 564067770 211 (.ite (.symb 143) (.symi .u8 145) (.symi .u8 177)) (.n (.n (.e) 568522830 303 (.ite (.symb 75) (.symi .u16 106) (.symi .u16 271)) (.e)) 584693119 278 (.ite (.symb 75) (.symi .u8 81) (.symi .u8 246)) (.n (.e) 595374835 229 (.ite (.symb 143) (.symi .u8 163) (.symi .u8 195)) (.e)))))) 598289986 323 (.ite (.symb 41) (.symi .u8 60) (.symi .u8 291)) (.n (.n (.n (.n (.n (.n (.e) 602403317 251 (.ite (.symb 109) (.symi .u8 120) (.symi .u8 219)) (.e)) 616000184 296 (.ite (.symb 75) (.symi .u8 99) (.symi .u8 264)) (.e)) 633710382 269 (.ite (.symb 109) (.symi .u16 138) (.symi .u16 237)) (.n (.e) 642852189 222 (.ite (.symb 143) (.symi .i64 156) (.symi .i64 188)) (.e))) 645767340 316 (.ite (.symb 41) (.symi .u8 53) (.symi .u8 284)) (.n (.n (.n (.e) 649880671 244 (.ite (.symb 109) (.symi .u8 113) (.symi .u8 212)) (.e)) 663477538 289 (.ite (.symb 75) (.symi .u8 92) (.symi .u8 257)) (.e)) 674159254 240 (.ite (.symb 143) (.symi .u8 174) (.symi .u8 206)) (.n (.e) 677074405 334 (.ite (.symb 41) (.symi .u16 71) (.symi .u16 302)) (.e)))) 681187736 262 (.ite (.symb 109) (.symi .u8 131) (.symi .u8 230)) (.n (.n (.n (.n (.e) 690329543 215 (.ite (.symb 143) (.symi .u8 149) (.symi .u8 181)) (.e)) 693244694 309 (.ite (.symb 41) (.symi .i64 46) (.symi .i64 277)) (.e)) 710954892 282 (.ite (.symb 75) (.symi .u8 85) (.symi .u8 250)) (.n (.e) 721636608 233 (.ite (.symb 143) (.symi .u8 167) (.symi .u8 199)) (.e))) 726175389 327 (.ite (.symb 41) (.symb 64) (.symb 295)) (.n (.n (.e) 728665090 255 (.ite (.symb 109) (.symi .u8 124) (.symi .u8 223)) (.e)) 742261957 300 (.ite (.symb 75) (.symi .u16 103) (.symi .u16 268)) (.n (.e) 758432246 275 (.ite (.symb 75) (.symi .u8 78) (.symi .u8 243)) (.e))))) 759972155 273 (.ite (.symb 109) (.symi .u8 142) (.symi .u8 241)) (.n (.n (.n (.n (.n (.e) 769113962 226 (.ite (.symb 143) (.symi .u8 160) (.symi .u8 192)) (.e)) 772029113 320 (.ite (.symb 41) (.symi .u8 57) (.symi .u8 288)) (.e)) 776142444 248 (.ite (.symb 109) (.symi .u8 117) (.symi .u8 216)) (.n (.e) 784386905 111 (.fn 192 .u8 plL2) (.e))) 784386948 112 (.fn 193 .u8 plL2) (.n (.n (.n (.e) 784386991 113 (.fn 194 .u8 plL2) (.e)) 784387034 114 (.fn 195 .i64 plL2) (.e)) 784387077 115 (.fn 196 .u8 plL2) (.n (.e) 784387120 116 (.fn 197 .u8 plL2) (.e)))) 784387163 117 (.fn 198 .u8 plL2) (.n (.n (.n (.n (.e) 784387206 118 (.fn 199 .u8 plL2) (.e)) 784387249 119 (.fn 200 .u8 plL2) (.e)) 784387292 120 (.fn 201 .u8 plL2) (.n (.e) 784387335 121 (.fn 202 .u8 plL2) (.e))) 784387378 122 (.fn 203 .u8 plL2) (.n (.n (.e) 784387421 123 (.fn 204 .i64 plL2) (.e)) 784387464 124 (.fn 205 .u8 plL2) (.n (.e) 784387507 125 (.fn 206 .u8 plL2) (.e)))))))) 784387550 126 (.fn 207 .u8 plL2) (.n (.n (.n (.n (.n (.n (.n (.n (.e) 784387593 127 (.fn 208 .u8 plL2) (.e)) 784387636 128 (.fn 209 .u8 plL2) (.e)) 784387679 129 (.fn 210 .u8 plL2) (.n (.e) 784387722 130 (.fn 211 .u8 plL2) (.e))) 784387765 131 (.fn 212 .u8 plL2) (.n (.n (.n (.e) 784387851 133 (.fn 214 .u8 plL2) (.e)) 784387894 134 (.fn 215 .u8 plL2) (.e)) 784387937 135 (.fn 216 .u16 plL2) (.n (.e) 784387980 136 (.fn 217 .u16 plL2) (.e)))) 784388023 137 (.fn 218 .u16 plL2) (.n (.n (.n (.n (.e) 784388066 138 (.fn 219 .u16 plL2) (.e)) 784388109 139 (.fn 220 .u16 plL2) (.e)) 784388152 140 (.fn 221 .u16 plL2) (.n (.e) 784388195 141 (.fn 222 .u8 plL2) (.e))) 784388238 142 (.fn 223 .u8 plL2) (.n (.n (.e) 784389657 144 (.fn 256 .u8 plL2) (.e)) 784389700 145 (.fn 257 .u8 plL2) (.n (.e) 784389743 146 (.fn 258 .u8 plL2) (.e))))) 784389786 147 (.fn 259 .i64 plL2) (.n (.n (.n (.n (.n (.e) 784389829 148 (.fn 260 .u8 plL2) (.e)) 784389872 149 (.fn 261 .u8 plL2) (.e)) 784389915 150 (.fn 262 .u8 plL2) (.n (.e) 784389958 151 (.fn 263 .u8 plL2) (.e))) 784390001 152 (.fn 264 .u8 plL2) (.n (.n (.n (.e) 784390044 153 (.fn 265 .u8 plL2) (.e)) 784390087 154 (.fn 266 .u8 plL2) (.e)) 784390130 155 (.fn 267 .u8 plL2) (.n (.e) 784390173 156 (.fn 268 .i64 plL2) (.e)))) 784390216 157 (.fn 269 .u8 plL2) (.n (.n (.n (.n (.e) 784390259 158 (.fn 270 .u8 plL2) (.e)) 784390302 159 (.fn 271 .u8 plL2) (.e)) 784390345 160 (.fn 272 .u8 plL2) (.n (.e) 784390388 161 (.fn 273 .u8 plL2) (.e))) 784390431 162 (.fn 274 .u8 plL2) (.n (.n (.e) 784390474 163 (.fn 275 .u8 plL2) (.e)) 784390517 164 (.fn 276 .u8 plL2) (.n (.e) 784390603 166 (.fn 278 .u8 plL2) (.e)))))) 784390646 167 (.fn 279 .u8 plL2) (.n (.n (.n (.n (.n (.n (.e) 784390689 168 (.fn 280 .u16 plL2) (.e)) 784390732 169 (.fn 281 .u16 plL2) (.e)) 784390775 170 (.fn 282 .u16 plL2) (.n (.e) 784390818 171 (.fn 283 .u16 plL2) (.e))) 784390861 172 (.fn 284 .u16 plL2) (.n (.n (.n (.e) 784390904 173 (.fn 285 .u16 plL2) (.e)) 784390947 174 (.fn 286 .u8 plL2) (.e)) 784390990 175 (.fn 287 .u8 plL2) (.n (.e) 789739311 293 (.ite (.symb 75) (.symi .u8 96) (.symi .u8 261)) (.e)))) 807449509 266 (.ite (.symb 109) (.symi .u16 135) (.symi .u16 234)) (.n (.n (.n (.n (.e) 812119185 132 (.fnb 213 plL2) (.e)) 812122577 165 (.fnb 277 plL2) (.e)) 816591316 219 (.ite (.symb 143) (.symi .u8 153) (.symi .u8 185)) (.n (.e) 818997187 41 (.bin .lss (.symi .u8 40) (.int .u8 4)) (.e))) 819097243 109 (.bin .eql (.symi .u8 40) (.int .u8 6)) (.n (.n (.e) 819097257 75 (.bin .lss (.symi .u8 40) (.int .u8 6)) (.e)) 819147278 143 (.bin .eql (.symi .u8 40) (.int .u8 7)) (.n (.e) 819506467 313 (.ite (.symb 41) (.symi .u8 50) (.symi .u8 281)) (.e))))) 837216665 286 (.ite (.symb 75) (.symi .i64 89) (.symi .i64 254)) (.n (.n (.n (.n (.n (.e) 847898381 237 (.ite (.symb 143) (.symi .u16 171) (.symi .u16 203)) (.e)) 850813532 331 (.ite (.symb 41) (.symi .u16 68) (.symi .u16 299)) (.e)) 851463407 176 (.fn 128 .u8 plL3) (.n (.e) 851463450 177 (.fn 129 .u8 plL3) (.e))) 851463493 178 (.fn 130 .u8 plL3) (.n (.n (.n (.e) 851463536 179 (.fn 131 .i64 plL3) (.e)) 851463579 180 (.fn 132 .u8 plL3) (.e)) 851463622 181 (.fn 133 .u8 plL3) (.n (.e) 851463665 182 (.fn 134 .u8 plL3) (.e)))) 851463708 183 (.fn 135 .u8 plL3) (.n (.n (.n (.n (.e) 851463751 184 (.fn 136 .u8 plL3) (.e)) 851463794 185 (.fn 137 .u8 plL3) (.e)) 851463837 186 (.fn 138 .u8 plL3) (.n (.e) 851463880 187 (.fn 139 .u8 plL3) (.e))) 851463923 188 (.fn 140 .i64 plL3) (.n (.n (.e) 851463966 189 (.fn 141 .u8 plL3) (.e)) 851464009 190 (.fn 142 .u8 plL3) (.n (.e) 851464052 191 (.fn 143 .u8 plL3) (.e))))))) 851464095 192 (.fn 144 .u8 plL3) (.n (.n (.n (.n (.n (.n (.n (.e) 851464138 193 (.fn 145 .u8 plL3) (.e)) 851464181 194 (.fn 146 .u8 plL3) (.e)) 851464224 195 (.fn 147 .u8 plL3) (.n (.e) 851464267 196 (.fn 148 .u8 plL3) (.e))) 851464353 198 (.fn 150 .u8 plL3) (.n (.n (.n (.e) 851464396 199 (.fn 151 .u8 plL3) (.e)) 851464439 200 (.fn 152 .u16 plL3) (.e)) 851464482 201 (.fn 153 .u16 plL3) (.n (.e) 851464525 202 (.fn 154 .u16 plL3) (.e)))) 851464568 203 (.fn 155 .u16 plL3) (.n (.n (.n (.n (.e) 851464611 204 (.fn 156 .u16 plL3) (.e)) 851464654 205 (.fn 157 .u16 plL3) (.e)) 851464697 206 (.fn 158 .u8 plL3) (.n (.e) 851464740 207 (.fn 159 .u8 plL3) (.e))) 851464783 208 (.fn 160 .u8 plL3) (.n (.n (.e) 854926863 259 (.ite (.symb 109) (.symi .u8 128) (.symi .u8 227)) (.e)) 864068670 212 (.ite (.symb 143) (.symi .u8 146) (.symi .u8 178)) (.n (.e) 866983821 306 (.ite (.symb 41) (.symi .u8 43) (.symi .u8 274)) (.e))))) 868523730 304 (.ite (.symb 75) (.symi .u8 107) (.symi .u8 272)) (.n (.n (.n (.n (.n (.e) 884694019 279 (.ite (.symb 75) (.symi .u8 82) (.symi .u8 247)) (.e)) 895375735 230 (.ite (.symb 143) (.symi .u8 164) (.symi .u8 196)) (.e)) 898290886 324 (.ite (.symb 41) (.symi .u8 61) (.symi .u8 292)) (.n (.e) 902404217 252 (.ite (.symb 109) (.symi .u8 121) (.symi .u8 220)) (.e))) 912847696 43 (.fn 0 .u8 plL0) (.n (.n (.n (.e) 912847739 44 (.fn 1 .u8 plL0) (.e)) 912847782 45 (.fn 2 .u8 plL0) (.e)) 912847825 46 (.fn 3 .i64 plL0) (.n (.e) 912847868 47 (.fn 4 .u8 plL0) (.e)))) 912847911 48 (.fn 5 .u8 plL0) (.n (.n (.n (.n (.e) 912847954 49 (.fn 6 .u8 plL0) (.e)) 912847997 50 (.fn 7 .u8 plL0) (.e)) 912848040 51 (.fn 8 .u8 plL0) (.n (.e) 912848083 52 (.fn 9 .u8 plL0) (.e))) 912848126 53 (.fn 10 .u8 plL0) (.n (.n (.e) 912848169 54 (.fn 11 .u8 plL0) (.e)) 912848212 55 (.fn 12 .i64 plL0) (.n (.e) 912848255 56 (.fn 13 .u8 plL0) (.e)))))) 912848298 57 (.fn 14 .u8 plL0) (.n (.n (.n (.n (.n (.n (.e) 912848341 58 (.fn 15 .u8 plL0) (.e)) 912848384 59 (.fn 16 .u8 plL0) (.e)) 912848427 60 (.fn 17 .u8 plL0) (.n (.e) 912848470 61 (.fn 18 .u8 plL0) (.e))) 912848513 62 (.fn 19 .u8 plL0) (.n (.n (.n (.e) 912848556 63 (.fn 20 .u8 plL0) (.e)) 912848642 65 (.fn 22 .u8 plL0) (.e)) 912848685 66 (.fn 23 .u8 plL0) (.n (.e) 912848728 67 (.fn 24 .u16 plL0) (.e)))) 912848771 68 (.fn 25 .u16 plL0) (.n (.n (.n (.n (.e) 912848814 69 (.fn 26 .u16 plL0) (.e)) 912848857 70 (.fn 27 .u16 plL0) (.e)) 912848900 71 (.fn 28 .u16 plL0) (.n (.e) 912848943 72 (.fn 29 .u16 plL0) (.e))) 912848986 73 (.fn 30 .u8 plL0) (.n (.n (.e) 912849029 74 (.fn 31 .u8 plL0) (.e)) 916001084 297 (.ite (.symb 75) (.symi .u8 100) (.symi .u8 265)) (.n (.e) 921872627 64 (.fnb 21 plL0) (.e))))) 933711282 270 (.ite (.symb 109) (.symi .u16 139) (.symi .u16 238)) (.n (.n (.n (.n (.n (.e) 942853089 223 (.ite (.symb 143) (.symi .u8 157) (.symi .u8 189)) (.e)) 945768240 317 (.ite (.symb 41) (.symi .u8 54) (.symi .u8 285)) (.e)) 949881571 245 (.ite (.symb 109) (.symi .i64 114) (.symi .i64 213)) (.n (.e) 963478438 290 (.ite (.symb 75) (.symi .u8 93) (.symi .u8 258)) (.e))) 974160154 241 (.ite (.symb 143) (.symi .u8 175) (.symi .u8 207)) (.n (.n (.e) 977075305 335 (.ite (.symb 41) (.symi .u16 72) (.symi .u16 303)) (.e)) 982826306 263 (.ite (.symb 109) (.symb 132) (.symb 231)) (.n (.e) 990330443 216 (.ite (.symb 143) (.symi .u8 150) (.symi .u8 182)) (.e)))) 993245594 310 (.ite (.symb 41) (.symi .u8 47) (.symi .u8 278)) (.n (.n (.n (.n (.e) 1010955792 283 (.ite (.symb 75) (.symi .u8 86) (.symi .u8 251)) (.e)) 1021637508 234 (.ite (.symb 143) (.symi .u16 168) (.symi .u16 200)) (.e)) 1024552659 328 (.ite (.symb 41) (.symi .u8 65) (.symi .u8 296)) (.n (.e) 1028665990 256 (.ite (.symb 109) (.symi .u8 125) (.symi .u8 224)) (.e))) 1042262857 301 (.ite (.symb 75) (.symi .u16 104) (.symi .u16 269)) (.n (.n (.e) 1058433146 276 (.ite (.symb 75) (.symi .u8 79) (.symi .u8 244)) (.e)) 1069114862 227 (.ite (.symb 143) (.symi .u8 161) (.symi .u8 193)) (.n (.e) 1072030013 321 (.ite (.symb 41) (.symi .u8 58) (.symi .u8 289)) (.e))))))))

set_option maxRecDepth 100000 in
def plBW : Sw := .run (.node 37 (.node 38 (.node 39 (.leaf .normal plS1 [(0, 0), (1, 0)] [(0, .symi .i64 338), (2, .symi .u8 306), (3, .symi .u8 307), (4, .symi .u8 308), (5, .symi .i64 309), (6, .symi .u8 310), (7, .symi .u8 311), (8, .symi .u8 312), (9, .symi .u8 313), (10, .symi .u8 314), (11, .symi .u8 315), (12, .symi .u8 316), (13, .symi .u8 317), (14, .symi .i64 318), (15, .symi .u8 319), (16, .symi .u8 320), (17, .symi .u8 321), (18, .symi .u8 322), (19, .symi .u8 323), (20, .symi .u8 324), (21, .symi .u8 325), (22, .symi .u8 326), (23, .symb 327), (24, .symi .u8 328), (25, .symi .u8 329), (26, .symi .u16 330), (27, .symi .u16 331), (28, .symi .u16 332), (29, .symi .u16 333), (30, .symi .u16 334), (31, .symi .u16 335), (32, .symi .u8 336), (33, .symi .u8 337)] [(1, .symi .i64 1)]) (.dead)) (.leaf (.exit 0) plS2 [(0, 0), (1, 0)] [(0, .symi .u8 2), (1, .symi .u8 3), (2, .symi .u8 4), (3, .symi .i64 5), (4, .symi .u8 6), (5, .symi .u8 7), (6, .symi .u8 8), (7, .symi .u8 9), (8, .symi .u8 10), (9, .symi .u8 11), (10, .symi .u8 12), (11, .symi .u8 13), (12, .symi .i64 14), (13, .symi .u8 15), (14, .symi .u8 16), (15, .symi .u8 17), (16, .symi .u8 18), (17, .symi .u8 19), (18, .symi .u8 20), (19, .symi .u8 21), (20, .symi .u8 22), (21, .symb 23), (22, .symi .u8 24), (23, .symi .u8 25), (24, .symi .u16 26), (25, .symi .u16 27), (26, .symi .u16 28), (27, .symi .u16 29), (28, .symi .u16 30), (29, .symi .u16 31), (30, .symi .u8 32), (31, .symi .u8 33)] [])) (.leaf (.exit 0) plS2 [(0, 0), (1, 0)] [(0, .symi .u8 2), (1, .symi .u8 3), (2, .symi .u8 4), (3, .symi .i64 5), (4, .symi .u8 6), (5, .symi .u8 7), (6, .symi .u8 8), (7, .symi .u8 9), (8, .symi .u8 10), (9, .symi .u8 11), (10, .symi .u8 12), (11, .symi .u8 13), (12, .symi .i64 14), (13, .symi .u8 15), (14, .symi .u8 16), (15, .symi .u8 17), (16, .symi .u8 18), (17, .symi .u8 19), (18, .symi .u8 20), (19, .symi .u8 21), (20, .symi .u8 22), (21, .symb 23), (22, .symi .u8 24), (23, .symi .u8 25), (24, .symi .u16 26), (25, .symi .u16 27), (26, .symi .u16 28), (27, .symi .u16 29), (28, .symi .u16 30), (29, .symi .u16 31), (30, .symi .u8 32), (31, .symi .u8 33)] []))
set_option maxRecDepth 100000 in
def plCG : List SDef := []

set_option maxRecDepth 100000 in
def plCT : LT := .e

set_option maxRecDepth 100000 in
def plCW : Sw := .run (.leaf .ret plSE [(0, 0)] [(0, .symi .u8 0), (1, .symi .u8 1), (2, .symi .u8 2), (3, .symi .i64 3), (4, .symi .u8 4), (5, .symi .u8 5), (6, .symi .u8 6), (7, .symi .u8 7), (8, .symi .u8 8), (9, .symi .u8 9), (10, .symi .u8 10), (11, .symi .u8 11), (12, .symi .i64 12), (13, .symi .u8 13), (14, .symi .u8 14), (15, .symi .u8 15), (16, .symi .u8 16), (17, .symi .u8 17), (18, .symi .u8 18), (19, .symi .u8 19), (20, .symi .u8 20), (21, .symb 21), (22, .symi .u8 22), (23, .symi .u8 23), (24, .symi .u16 24), (25, .symi .u16 25), (26, .symi .u16 26), (27, .symi .u16 27), (28, .symi .u16 28), (29, .symi .u16 29), (30, .symi .u8 30), (31, .symi .u8 31)] [])
def plAX : Ing := { m := 2, ins := [some .i64, some .i64], G := plAG, T := plAT, hook := tblHook (tabOf plFs) plTbl, tab := tabOf plFs, rows := [⟨.symi .i64 1, []⟩] }
def plBX : Ing := { m := 37, ins := plQK ++ ([.i .u8, .i .i8, .i .i32] : List Cl).map kindC, G := plBG, T := plBT, hook := tblHook (tabOf plFs) plTbl, tab := tabOf plFs, rows := [⟨.symi .i64 1, [(.symi .i64 0, elCells 34 [.i .u8, .i .i8, .i .i32])]⟩] }
def plCX : Ing := { m := 32, ins := b32c.map kindC, G := plCG, T := plCT, hook := tblHook (tabOf plFs) plTbl, tab := tabOf plFs, rows := [] }
theorem plA_ok : okG plAG 2 = true := by kernel_rfl
theorem plA_lt : okLT 2 plAG plAT = true := by kernel_rfl
theorem plA_seg : SegOk Try.prog (tabOf plFs) 72 (preOf (bodyOf Try.f30)) plS0 plAX plAW where
  lt := plA_lt
  ok := plA_ok
  hook := fun F => tbl_hooks plA_lt rfl rfl pl_all F
  n0 := rfl
  id := by kernel_rfl
  reck := by kernel_rfl
  tab := rfl
  cuts := rfl
theorem plB_ok : okG plBG 37 = true := by kernel_rfl
theorem plB_lt : okLT 37 plBG plBT = true := by kernel_rfl
theorem plB_seg : SegOk Try.prog (tabOf plFs) 72 ([loopOf (bodyOf Try.f30)]) plS1 plBX plBW where
  lt := plB_lt
  ok := plB_ok
  hook := fun F => tbl_hooks plB_lt rfl rfl pl_all F
  n0 := rfl
  id := by kernel_rfl
  reck := by kernel_rfl
  tab := rfl
  cuts := rfl
theorem plC_ok : okG plCG 32 = true := by kernel_rfl
theorem plC_lt : okLT 32 plCG plCT = true := by kernel_rfl
theorem plC_seg : SegOk Try.prog (tabOf plFs) 72 (postOf (bodyOf Try.f30)) plS2 plCX plCW where
  lt := plC_lt
  ok := plC_ok
  hook := fun F => tbl_hooks plC_lt rfl rfl pl_all F
  n0 := rfl
  id := by kernel_rfl
  reck := by kernel_rfl
  tab := rfl
  cuts := rfl

theorem hbody : Try.f30.body = some (bodyOf Try.f30) := by kernel_rfl
theorem hnt : Try.f30.ntmps = 72 := by kernel_rfl
theorem hcut : (cutC (bodyOf Try.f30)).isSome = true := by kernel_rfl
theorem hidOf : idOf (bodyOf Try.f30) = 0 := by kernel_rfl

/-- The bank behind a row of acts. -/
def playedF : Fz → List Int := rowF (tabOf plFs) 34 plAX plBX plCX plAW plBW plCW (cellsOf [b32]) (plBank 0)

set_option maxRecDepth 100000 in
theorem played_fn : RowFn Try.prog 30 [.i .u8, .i .i8, .i .i32] [b32] playedF :=
  rows_fold (q := 34) (insq := plQK) (ins2 := b32c.map kindC) (insE := b32c.map kindC) (mE := 32) (S0 := plS0) (S1 := plS1) (S2 := plS2) (SE := plSE) (vs := [.agg (plBank 0)]) fc.mixed Try.func30 hbody hnt hcut rfl (by decide) rfl (by decide) (by kernel_rfl) (by kernel_rfl) (by kernel_rfl) (by kernel_rfl) rfl
    plA_seg ⟨rfl, rfl, rfl⟩ plB_seg ⟨rfl, rfl, rfl⟩ plC_seg ⟨rfl, rfl⟩
    (fun τ e ht hin _ => ⟨rfl, rfl, rfl, rfl, insOk_asg e hin 12 (by kernel_rfl), ht, rfl⟩)
    (fun τ e ht hin h0 h01 hlen => by
      have e37 : τ.bval 37 = decide (τ.ival 0 < τ.ival 1) := eqB (e.at 0 _ rfl rfl) rfl
      have e38 : τ.bval 38 = decide (τ.ival 0 < 100) := eqB (e.at 1 _ rfl rfl) rfl
      have e39 : τ.bval 39 = decide (0 ≤ τ.ival 0) := eqB (e.at 2 _ rfl rfl) rfl
      have e338 : τ.ival 338 = IntKind.i64.wrap (τ.ival 0 + 1) := eqI (e.at 301 _ rfl rfl) rfl
      refine ⟨⟨⟨fun hF => ?_, fun hF => ?_⟩, fun hF => ?_⟩, fun hF => ?_⟩
      · have h37 : τ.bval 37 = true := hF.2.2.1
        rw [e37, decide_eq_true_eq] at h37
        refine .inl ⟨rfl, rfl, h37, ?_, rfl, insOk_asg e hin 12 (by kernel_rfl), ht, rfl⟩
        show τ.ival 338 = τ.ival 0 + 1
        rw [e338]
        simp [IntKind.wrap, IntKind.bits, IntKind.signed]; omega
      · have h : τ.bval 39 = false := hF.1
        rw [e39, decide_eq_false_iff_not] at h
        exact h h0
      · exact .inr ⟨congrArg SEx.exit hidOf.symm, rfl, insOk_asg e hin 12 (by kernel_rfl), ht⟩
      · exact .inr ⟨congrArg SEx.exit hidOf.symm, rfl, insOk_asg e hin 12 (by kernel_rfl), ht⟩)
    (fun τ e ht hin _ => ⟨.inl rfl, rfl, insOk_asg e hin 12 (by kernel_rfl)⟩)
end Go.Proofs.Ytgifnmiggloclab.pl
