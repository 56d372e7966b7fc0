/-
  The contracts of gpio.Pins and ploverref11.Pins: both do the same.
  No conditions.
-/
import Derived.Test.YtgifnmiggloclabChecked
import Derived.Test.YtgifnmiggloclabEwZl
import Derived.Test.YtgifnmiggloclabBib
import Derived.ProofKit
namespace Go.Proofs.Ytgifnmiggloclab.rp
open Go.RowKit Go.Ev
open Go.Proofs.Ytgifnmiggloclab.bi (mixed biSs bitF bit_contract)
set_option linter.unusedVariables false
set_option linter.unusedSimpArgs false

def rpFs : Nat → List Int → List Int := fun _ => bitF
def rpTbl : List Ent := [⟨108, biSs, [.one .b], 0⟩]
def rpI : List Sh := [.agg [.i .u8, .i .u8, .i .u8], .one (.i .u8)]
def rpO : List Sh := [.agg [.i .u8, .i .u8, .i .u8], .one .b]
theorem rp_all : ∀ e, e ∈ rpTbl → (cellsOf e.outs).length ≤ 64 ∧ FnOk Try.prog e.f e.ins e.outs (rpFs e.id) := by
  intro e he
  simp only [rpTbl, List.mem_singleton] at he
  subst he
  exact ⟨by decide, bit_contract⟩

theorem okW_node (run : List Fact → Tree (Out × Hp)) (i : Nat) (y n : Wr') (F : List Fact) : okW run (.node i y n) F = (okW run y (.tru i true :: F) && okW run n (.tru i false :: F)) := rfl

set_option maxRecDepth 100000 in
def rqG : List SDef := [.bin .andNot (.symi .u8 3) (.symi .u8 1),
  .bin .and (.symi .u8 4) (.symi .u8 2),
  .bin .neq (.symi .u8 5) (.int .u8 0),
  .fnb 0 [.symi .u8 1, .int .i64 0],
  .un .not (.symb 7),
  .fnb 0 [.symi .u8 3, .int .i64 0],
  .ite (.symb 8) (.symb 9) (.bool false),
  .fnb 0 [.symi .u8 1, .int .i64 1],
  .un .not (.symb 11),
  .fnb 0 [.symi .u8 3, .int .i64 1],
  .ite (.symb 12) (.symb 13) (.bool false),
  .fnb 0 [.symi .u8 1, .int .i64 2],
  .un .not (.symb 15),
  .fnb 0 [.symi .u8 3, .int .i64 2],
  .ite (.symb 16) (.symb 17) (.bool false),
  .fnb 0 [.symi .u8 1, .int .i64 3],
  .un .not (.symb 19),
  .fnb 0 [.symi .u8 3, .int .i64 3],
  .ite (.symb 20) (.symb 21) (.bool false),
  .fnb 0 [.symi .u8 1, .int .i64 4],
  .un .not (.symb 23),
  .fnb 0 [.symi .u8 3, .int .i64 4],
  .ite (.symb 24) (.symb 25) (.bool false),
  .fnb 0 [.symi .u8 1, .int .i64 5],
  .un .not (.symb 27),
  .fnb 0 [.symi .u8 3, .int .i64 5],
  .ite (.symb 28) (.symb 29) (.bool false),
  .fnb 0 [.symi .u8 1, .int .i64 6],
  .un .not (.symb 31),
  .fnb 0 [.symi .u8 3, .int .i64 6],
  .ite (.symb 32) (.symb 33) (.bool false),
  .fnb 0 [.symi .u8 1, .int .i64 7],
  .un .not (.symb 35),
  .fnb 0 [.symi .u8 3, .int .i64 7],
  .ite (.symb 36) (.symb 37) (.bool false),
  .fnb 0 [.symi .u8 2, .int .i64 0],
  .fnb 0 [.symi .u8 2, .int .i64 1],
  .ite (.symb 39) (.bool true) (.symb 40),
  .fnb 0 [.symi .u8 2, .int .i64 2],
  .ite (.symb 41) (.bool true) (.symb 42),
  .fnb 0 [.symi .u8 2, .int .i64 3],
  .ite (.symb 43) (.bool true) (.symb 44),
  .fnb 0 [.symi .u8 2, .int .i64 4],
  .ite (.symb 45) (.bool true) (.symb 46),
  .fnb 0 [.symi .u8 2, .int .i64 5],
  .ite (.symb 47) (.bool true) (.symb 48),
  .fnb 0 [.symi .u8 2, .int .i64 6],
  .ite (.symb 49) (.bool true) (.symb 50),
  .fnb 0 [.symi .u8 2, .int .i64 7],
  .ite (.symb 51) (.bool true) (.symb 52),
  .ite (.symb 49) (.bool true) (.symb 52),
  .ite (.symb 47) (.bool true) (.symb 50),
  .ite (.symb 55) (.bool true) (.symb 52),
  .ite (.symb 47) (.bool true) (.symb 52),
  .ite (.symb 45) (.bool true) (.symb 48),
  .ite (.symb 58) (.bool true) (.symb 50),
  .ite (.symb 59) (.bool true) (.symb 52),
  .ite (.symb 58) (.bool true) (.symb 52),
  .ite (.symb 45) (.bool true) (.symb 50),
  .ite (.symb 62) (.bool true) (.symb 52),
  .ite (.symb 45) (.bool true) (.symb 52),
  .ite (.symb 43) (.bool true) (.symb 46),
  .ite (.symb 65) (.bool true) (.symb 48),
  .ite (.symb 66) (.bool true) (.symb 50),
  .ite (.symb 67) (.bool true) (.symb 52),
  .ite (.symb 66) (.bool true) (.symb 52),
  .ite (.symb 65) (.bool true) (.symb 50),
  .ite (.symb 70) (.bool true) (.symb 52),
  .ite (.symb 65) (.bool true) (.symb 52),
  .ite (.symb 43) (.bool true) (.symb 48),
  .ite (.symb 73) (.bool true) (.symb 50),
  .ite (.symb 74) (.bool true) (.symb 52),
  .ite (.symb 73) (.bool true) (.symb 52),
  .ite (.symb 43) (.bool true) (.symb 50),
  .ite (.symb 77) (.bool true) (.symb 52),
  .ite (.symb 43) (.bool true) (.symb 52),
  .ite (.symb 41) (.bool true) (.symb 44),
  .ite (.symb 80) (.bool true) (.symb 46),
  .ite (.symb 81) (.bool true) (.symb 48),
  .ite (.symb 82) (.bool true) (.symb 50),
  .ite (.symb 83) (.bool true) (.symb 52),
  .ite (.symb 82) (.bool true) (.symb 52),
  .ite (.symb 81) (.bool true) (.symb 50),
  .ite (.symb 86) (.bool true) (.symb 52),
  .ite (.symb 81) (.bool true) (.symb 52),
  .ite (.symb 80) (.bool true) (.symb 48),
  .ite (.symb 89) (.bool true) (.symb 50),
  .ite (.symb 90) (.bool true) (.symb 52),
  .ite (.symb 89) (.bool true) (.symb 52),
  .ite (.symb 80) (.bool true) (.symb 50),
  .ite (.symb 93) (.bool true) (.symb 52),
  .ite (.symb 80) (.bool true) (.symb 52),
  .ite (.symb 41) (.bool true) (.symb 46),
  .ite (.symb 96) (.bool true) (.symb 48),
  .ite (.symb 97) (.bool true) (.symb 50),
  .ite (.symb 98) (.bool true) (.symb 52),
  .ite (.symb 97) (.bool true) (.symb 52),
  .ite (.symb 96) (.bool true) (.symb 50),
  .ite (.symb 101) (.bool true) (.symb 52),
  .ite (.symb 96) (.bool true) (.symb 52),
  .ite (.symb 41) (.bool true) (.symb 48),
  .ite (.symb 104) (.bool true) (.symb 50),
  .ite (.symb 105) (.bool true) (.symb 52),
  .ite (.symb 104) (.bool true) (.symb 52),
  .ite (.symb 41) (.bool true) (.symb 50),
  .ite (.symb 108) (.bool true) (.symb 52),
  .ite (.symb 41) (.bool true) (.symb 52),
  .ite (.symb 39) (.bool true) (.symb 42),
  .ite (.symb 111) (.bool true) (.symb 44),
  .ite (.symb 112) (.bool true) (.symb 46),
  .ite (.symb 113) (.bool true) (.symb 48),
  .ite (.symb 114) (.bool true) (.symb 50),
  .ite (.symb 115) (.bool true) (.symb 52),
  .ite (.symb 114) (.bool true) (.symb 52),
  .ite (.symb 113) (.bool true) (.symb 50),
  .ite (.symb 118) (.bool true) (.symb 52),
  .ite (.symb 113) (.bool true) (.symb 52),
  .ite (.symb 112) (.bool true) (.symb 48),
  .ite (.symb 121) (.bool true) (.symb 50),
  .ite (.symb 122) (.bool true) (.symb 52),
  .ite (.symb 121) (.bool true) (.symb 52),
  .ite (.symb 112) (.bool true) (.symb 50),
  .ite (.symb 125) (.bool true) (.symb 52),
  .ite (.symb 112) (.bool true) (.symb 52),
  .ite (.symb 111) (.bool true) (.symb 46),
  .ite (.symb 128) (.bool true) (.symb 48),
  .ite (.symb 129) (.bool true) (.symb 50),
  .ite (.symb 130) (.bool true) (.symb 52),
  .ite (.symb 129) (.bool true) (.symb 52),
  .ite (.symb 128) (.bool true) (.symb 50),
  .ite (.symb 133) (.bool true) (.symb 52),
  .ite (.symb 128) (.bool true) (.symb 52),
  .ite (.symb 111) (.bool true) (.symb 48),
  .ite (.symb 136) (.bool true) (.symb 50),
  .ite (.symb 137) (.bool true) (.symb 52),
  .ite (.symb 136) (.bool true) (.symb 52),
  .ite (.symb 111) (.bool true) (.symb 50),
  .ite (.symb 140) (.bool true) (.symb 52),
  .ite (.symb 111) (.bool true) (.symb 52),
  .ite (.symb 39) (.bool true) (.symb 44),
  .ite (.symb 143) (.bool true) (.symb 46),
  .ite (.symb 144) (.bool true) (.symb 48),
  .ite (.symb 145) (.bool true) (.symb 50),
  .ite (.symb 146) (.bool true) (.symb 52),
  .ite (.symb 145) (.bool true) (.symb 52),
  .ite (.symb 144) (.bool true) (.symb 50),
  .ite (.symb 149) (.bool true) (.symb 52),
  .ite (.symb 144) (.bool true) (.symb 52),
  .ite (.symb 143) (.bool true) (.symb 48),
  .ite (.symb 152) (.bool true) (.symb 50),
  .ite (.symb 153) (.bool true) (.symb 52),
  .ite (.symb 152) (.bool true) (.symb 52),
  .ite (.symb 143) (.bool true) (.symb 50),
  .ite (.symb 156) (.bool true) (.symb 52),
  .ite (.symb 143) (.bool true) (.symb 52),
  .ite (.symb 39) (.bool true) (.symb 46),
  .ite (.symb 159) (.bool true) (.symb 48),
  .ite (.symb 160) (.bool true) (.symb 50),
  .ite (.symb 161) (.bool true) (.symb 52),
  .ite (.symb 160) (.bool true) (.symb 52),
  .ite (.symb 159) (.bool true) (.symb 50),
  .ite (.symb 164) (.bool true) (.symb 52),
  .ite (.symb 159) (.bool true) (.symb 52),
  .ite (.symb 39) (.bool true) (.symb 48),
  .ite (.symb 167) (.bool true) (.symb 50),
  .ite (.symb 168) (.bool true) (.symb 52),
  .ite (.symb 167) (.bool true) (.symb 52),
  .ite (.symb 39) (.bool true) (.symb 50),
  .ite (.symb 171) (.bool true) (.symb 52),
  .ite (.symb 39) (.bool true) (.symb 52),
  .ite (.symb 40) (.bool true) (.symb 42),
  .ite (.symb 174) (.bool true) (.symb 44),
  .ite (.symb 175) (.bool true) (.symb 46),
  .ite (.symb 176) (.bool true) (.symb 48),
  .ite (.symb 177) (.bool true) (.symb 50),
  .ite (.symb 178) (.bool true) (.symb 52),
  .ite (.symb 177) (.bool true) (.symb 52),
  .ite (.symb 176) (.bool true) (.symb 50),
  .ite (.symb 181) (.bool true) (.symb 52),
  .ite (.symb 176) (.bool true) (.symb 52),
  .ite (.symb 175) (.bool true) (.symb 48),
  .ite (.symb 184) (.bool true) (.symb 50),
  .ite (.symb 185) (.bool true) (.symb 52),
  .ite (.symb 184) (.bool true) (.symb 52),
  .ite (.symb 175) (.bool true) (.symb 50),
  .ite (.symb 188) (.bool true) (.symb 52),
  .ite (.symb 175) (.bool true) (.symb 52),
  .ite (.symb 174) (.bool true) (.symb 46),
  .ite (.symb 191) (.bool true) (.symb 48),
  .ite (.symb 192) (.bool true) (.symb 50),
  .ite (.symb 193) (.bool true) (.symb 52),
  .ite (.symb 192) (.bool true) (.symb 52),
  .ite (.symb 191) (.bool true) (.symb 50),
  .ite (.symb 196) (.bool true) (.symb 52),
  .ite (.symb 191) (.bool true) (.symb 52),
  .ite (.symb 174) (.bool true) (.symb 48),
  .ite (.symb 199) (.bool true) (.symb 50),
  .ite (.symb 200) (.bool true) (.symb 52),
  .ite (.symb 199) (.bool true) (.symb 52),
  .ite (.symb 174) (.bool true) (.symb 50),
  .ite (.symb 203) (.bool true) (.symb 52),
  .ite (.symb 174) (.bool true) (.symb 52),
  .ite (.symb 40) (.bool true) (.symb 44),
  .ite (.symb 206) (.bool true) (.symb 46),
  .ite (.symb 207) (.bool true) (.symb 48),
  .ite (.symb 208) (.bool true) (.symb 50),
  .ite (.symb 209) (.bool true) (.symb 52),
  .ite (.symb 208) (.bool true) (.symb 52),
  .ite (.symb 207) (.bool true) (.symb 50),
  .ite (.symb 212) (.bool true) (.symb 52),
  .ite (.symb 207) (.bool true) (.symb 52),
  .ite (.symb 206) (.bool true) (.symb 48),
  .ite (.symb 215) (.bool true) (.symb 50),
  .ite (.symb 216) (.bool true) (.symb 52),
  .ite (.symb 215) (.bool true) (.symb 52),
  .ite (.symb 206) (.bool true) (.symb 50),
  .ite (.symb 219) (.bool true) (.symb 52),
  .ite (.symb 206) (.bool true) (.symb 52),
  .ite (.symb 40) (.bool true) (.symb 46),
  .ite (.symb 222) (.bool true) (.symb 48),
  .ite (.symb 223) (.bool true) (.symb 50),
  .ite (.symb 224) (.bool true) (.symb 52),
  .ite (.symb 223) (.bool true) (.symb 52),
  .ite (.symb 222) (.bool true) (.symb 50),
  .ite (.symb 227) (.bool true) (.symb 52),
  .ite (.symb 222) (.bool true) (.symb 52),
  .ite (.symb 40) (.bool true) (.symb 48),
  .ite (.symb 230) (.bool true) (.symb 50),
  .ite (.symb 231) (.bool true) (.symb 52),
  .ite (.symb 230) (.bool true) (.symb 52),
  .ite (.symb 40) (.bool true) (.symb 50),
  .ite (.symb 234) (.bool true) (.symb 52),
  .ite (.symb 40) (.bool true) (.symb 52),
  .ite (.symb 42) (.bool true) (.symb 44),
  .ite (.symb 237) (.bool true) (.symb 46),
  .ite (.symb 238) (.bool true) (.symb 48),
  .ite (.symb 239) (.bool true) (.symb 50),
  .ite (.symb 240) (.bool true) (.symb 52),
  .ite (.symb 239) (.bool true) (.symb 52),
  .ite (.symb 238) (.bool true) (.symb 50),
  .ite (.symb 243) (.bool true) (.symb 52),
  .ite (.symb 238) (.bool true) (.symb 52),
  .ite (.symb 237) (.bool true) (.symb 48),
  .ite (.symb 246) (.bool true) (.symb 50),
  .ite (.symb 247) (.bool true) (.symb 52),
  .ite (.symb 246) (.bool true) (.symb 52),
  .ite (.symb 237) (.bool true) (.symb 50),
  .ite (.symb 250) (.bool true) (.symb 52),
  .ite (.symb 237) (.bool true) (.symb 52),
  .ite (.symb 42) (.bool true) (.symb 46),
  .ite (.symb 253) (.bool true) (.symb 48),
  .ite (.symb 254) (.bool true) (.symb 50),
  .ite (.symb 255) (.bool true) (.symb 52),
  .ite (.symb 254) (.bool true) (.symb 52),
  .ite (.symb 253) (.bool true) (.symb 50),
  .ite (.symb 258) (.bool true) (.symb 52),
  .ite (.symb 253) (.bool true) (.symb 52),
  .ite (.symb 42) (.bool true) (.symb 48),
  .ite (.symb 261) (.bool true) (.symb 50),
  .ite (.symb 262) (.bool true) (.symb 52),
  .ite (.symb 261) (.bool true) (.symb 52),
  .ite (.symb 42) (.bool true) (.symb 50),
  .ite (.symb 265) (.bool true) (.symb 52),
  .ite (.symb 42) (.bool true) (.symb 52),
  .ite (.symb 44) (.bool true) (.symb 46),
  .ite (.symb 268) (.bool true) (.symb 48),
  .ite (.symb 269) (.bool true) (.symb 50),
  .ite (.symb 270) (.bool true) (.symb 52),
  .ite (.symb 269) (.bool true) (.symb 52),
  .ite (.symb 268) (.bool true) (.symb 50),
  .ite (.symb 273) (.bool true) (.symb 52),
  .ite (.symb 268) (.bool true) (.symb 52),
  .ite (.symb 44) (.bool true) (.symb 48),
  .ite (.symb 276) (.bool true) (.symb 50),
  .ite (.symb 277) (.bool true) (.symb 52),
  .ite (.symb 276) (.bool true) (.symb 52),
  .ite (.symb 44) (.bool true) (.symb 50),
  .ite (.symb 280) (.bool true) (.symb 52),
  .ite (.symb 44) (.bool true) (.symb 52),
  .ite (.symb 46) (.bool true) (.symb 48),
  .ite (.symb 283) (.bool true) (.symb 50),
  .ite (.symb 284) (.bool true) (.symb 52),
  .ite (.symb 283) (.bool true) (.symb 52),
  .ite (.symb 46) (.bool true) (.symb 50),
  .ite (.symb 287) (.bool true) (.symb 52),
  .ite (.symb 46) (.bool true) (.symb 52),
  .ite (.symb 48) (.bool true) (.symb 50),
  .ite (.symb 290) (.bool true) (.symb 52),
  .ite (.symb 48) (.bool true) (.symb 52),
  .ite (.symb 50) (.bool true) (.symb 52),
  .ite (.symb 38) (.symb 53) (.symb 51),
  .ite (.symb 38) (.symb 54) (.symb 49),
  .ite (.symb 34) (.symb 294) (.symb 295),
  .ite (.symb 38) (.symb 56) (.symb 55),
  .ite (.symb 38) (.symb 57) (.symb 47),
  .ite (.symb 34) (.symb 297) (.symb 298),
  .ite (.symb 30) (.symb 296) (.symb 299),
  .ite (.symb 38) (.symb 60) (.symb 59),
  .ite (.symb 38) (.symb 61) (.symb 58),
  .ite (.symb 34) (.symb 301) (.symb 302),
  .ite (.symb 38) (.symb 63) (.symb 62),
  .ite (.symb 38) (.symb 64) (.symb 45),
  .ite (.symb 34) (.symb 304) (.symb 305),
  .ite (.symb 30) (.symb 303) (.symb 306),
  .ite (.symb 26) (.symb 300) (.symb 307),
  .ite (.symb 38) (.symb 68) (.symb 67),
  .ite (.symb 38) (.symb 69) (.symb 66),
  .ite (.symb 34) (.symb 309) (.symb 310),
  .ite (.symb 38) (.symb 71) (.symb 70),
  .ite (.symb 38) (.symb 72) (.symb 65),
  .ite (.symb 34) (.symb 312) (.symb 313),
  .ite (.symb 30) (.symb 311) (.symb 314),
  .ite (.symb 38) (.symb 75) (.symb 74),
  .ite (.symb 38) (.symb 76) (.symb 73),
  .ite (.symb 34) (.symb 316) (.symb 317),
  .ite (.symb 38) (.symb 78) (.symb 77),
  .ite (.symb 38) (.symb 79) (.symb 43),
  .ite (.symb 34) (.symb 319) (.symb 320),
  .ite (.symb 30) (.symb 318) (.symb 321),
  .ite (.symb 26) (.symb 315) (.symb 322),
  .ite (.symb 22) (.symb 308) (.symb 323),
  .ite (.symb 38) (.symb 84) (.symb 83),
  .ite (.symb 38) (.symb 85) (.symb 82),
  .ite (.symb 34) (.symb 325) (.symb 326),
  .ite (.symb 38) (.symb 87) (.symb 86),
  .ite (.symb 38) (.symb 88) (.symb 81),
  .ite (.symb 34) (.symb 328) (.symb 329),
  .ite (.symb 30) (.symb 327) (.symb 330),
  .ite (.symb 38) (.symb 91) (.symb 90),
  .ite (.symb 38) (.symb 92) (.symb 89),
  .ite (.symb 34) (.symb 332) (.symb 333),
  .ite (.symb 38) (.symb 94) (.symb 93),
  .ite (.symb 38) (.symb 95) (.symb 80),
  .ite (.symb 34) (.symb 335) (.symb 336),
  .ite (.symb 30) (.symb 334) (.symb 337),
  .ite (.symb 26) (.symb 331) (.symb 338),
  .ite (.symb 38) (.symb 99) (.symb 98),
  .ite (.symb 38) (.symb 100) (.symb 97),
  .ite (.symb 34) (.symb 340) (.symb 341),
  .ite (.symb 38) (.symb 102) (.symb 101),
  .ite (.symb 38) (.symb 103) (.symb 96),
  .ite (.symb 34) (.symb 343) (.symb 344),
  .ite (.symb 30) (.symb 342) (.symb 345),
  .ite (.symb 38) (.symb 106) (.symb 105),
  .ite (.symb 38) (.symb 107) (.symb 104),
  .ite (.symb 34) (.symb 347) (.symb 348),
  .ite (.symb 38) (.symb 109) (.symb 108),
  .ite (.symb 38) (.symb 110) (.symb 41),
  .ite (.symb 34) (.symb 350) (.symb 351),
  .ite (.symb 30) (.symb 349) (.symb 352),
  .ite (.symb 26) (.symb 346) (.symb 353),
  .ite (.symb 22) (.symb 339) (.symb 354),
  .ite (.symb 18) (.symb 324) (.symb 355),
  .ite (.symb 38) (.symb 116) (.symb 115),
  .ite (.symb 38) (.symb 117) (.symb 114),
  .ite (.symb 34) (.symb 357) (.symb 358),
  .ite (.symb 38) (.symb 119) (.symb 118),
  .ite (.symb 38) (.symb 120) (.symb 113),
  .ite (.symb 34) (.symb 360) (.symb 361),
  .ite (.symb 30) (.symb 359) (.symb 362),
  .ite (.symb 38) (.symb 123) (.symb 122),
  .ite (.symb 38) (.symb 124) (.symb 121),
  .ite (.symb 34) (.symb 364) (.symb 365),
  .ite (.symb 38) (.symb 126) (.symb 125),
  .ite (.symb 38) (.symb 127) (.symb 112),
  .ite (.symb 34) (.symb 367) (.symb 368),
  .ite (.symb 30) (.symb 366) (.symb 369),
  .ite (.symb 26) (.symb 363) (.symb 370),
  .ite (.symb 38) (.symb 131) (.symb 130),
  .ite (.symb 38) (.symb 132) (.symb 129),
  .ite (.symb 34) (.symb 372) (.symb 373),
  .ite (.symb 38) (.symb 134) (.symb 133),
  .ite (.symb 38) (.symb 135) (.symb 128),
  .ite (.symb 34) (.symb 375) (.symb 376),
  .ite (.symb 30) (.symb 374) (.symb 377),
  .ite (.symb 38) (.symb 138) (.symb 137),
  .ite (.symb 38) (.symb 139) (.symb 136),
  .ite (.symb 34) (.symb 379) (.symb 380),
  .ite (.symb 38) (.symb 141) (.symb 140),
  .ite (.symb 38) (.symb 142) (.symb 111),
  .ite (.symb 34) (.symb 382) (.symb 383),
  .ite (.symb 30) (.symb 381) (.symb 384),
  .ite (.symb 26) (.symb 378) (.symb 385),
  .ite (.symb 22) (.symb 371) (.symb 386),
  .ite (.symb 38) (.symb 147) (.symb 146),
  .ite (.symb 38) (.symb 148) (.symb 145),
  .ite (.symb 34) (.symb 388) (.symb 389),
  .ite (.symb 38) (.symb 150) (.symb 149),
  .ite (.symb 38) (.symb 151) (.symb 144),
  .ite (.symb 34) (.symb 391) (.symb 392),
  .ite (.symb 30) (.symb 390) (.symb 393),
  .ite (.symb 38) (.symb 154) (.symb 153),
  .ite (.symb 38) (.symb 155) (.symb 152),
  .ite (.symb 34) (.symb 395) (.symb 396),
  .ite (.symb 38) (.symb 157) (.symb 156),
  .ite (.symb 38) (.symb 158) (.symb 143),
  .ite (.symb 34) (.symb 398) (.symb 399),
  .ite (.symb 30) (.symb 397) (.symb 400),
  .ite (.symb 26) (.symb 394) (.symb 401),
  .ite (.symb 38) (.symb 162) (.symb 161),
  .ite (.symb 38) (.symb 163) (.symb 160),
  .ite (.symb 34) (.symb 403) (.symb 404),
  .ite (.symb 38) (.symb 165) (.symb 164),
  .ite (.symb 38) (.symb 166) (.symb 159),
  .ite (.symb 34) (.symb 406) (.symb 407),
  .ite (.symb 30) (.symb 405) (.symb 408),
  .ite (.symb 38) (.symb 169) (.symb 168),
  .ite (.symb 38) (.symb 170) (.symb 167),
  .ite (.symb 34) (.symb 410) (.symb 411),
  .ite (.symb 38) (.symb 172) (.symb 171),
  .ite (.symb 38) (.symb 173) (.symb 39),
  .ite (.symb 34) (.symb 413) (.symb 414),
  .ite (.symb 30) (.symb 412) (.symb 415),
  .ite (.symb 26) (.symb 409) (.symb 416),
  .ite (.symb 22) (.symb 402) (.symb 417),
  .ite (.symb 18) (.symb 387) (.symb 418),
  .ite (.symb 14) (.symb 356) (.symb 419),
  .ite (.symb 38) (.symb 179) (.symb 178),
  .ite (.symb 38) (.symb 180) (.symb 177),
  .ite (.symb 34) (.symb 421) (.symb 422),
  .ite (.symb 38) (.symb 182) (.symb 181),
  .ite (.symb 38) (.symb 183) (.symb 176),
  .ite (.symb 34) (.symb 424) (.symb 425),
  .ite (.symb 30) (.symb 423) (.symb 426),
  .ite (.symb 38) (.symb 186) (.symb 185),
  .ite (.symb 38) (.symb 187) (.symb 184),
  .ite (.symb 34) (.symb 428) (.symb 429),
  .ite (.symb 38) (.symb 189) (.symb 188),
  .ite (.symb 38) (.symb 190) (.symb 175),
  .ite (.symb 34) (.symb 431) (.symb 432),
  .ite (.symb 30) (.symb 430) (.symb 433),
  .ite (.symb 26) (.symb 427) (.symb 434),
  .ite (.symb 38) (.symb 194) (.symb 193),
  .ite (.symb 38) (.symb 195) (.symb 192),
  .ite (.symb 34) (.symb 436) (.symb 437),
  .ite (.symb 38) (.symb 197) (.symb 196),
  .ite (.symb 38) (.symb 198) (.symb 191),
  .ite (.symb 34) (.symb 439) (.symb 440),
  .ite (.symb 30) (.symb 438) (.symb 441),
  .ite (.symb 38) (.symb 201) (.symb 200),
  .ite (.symb 38) (.symb 202) (.symb 199),
  .ite (.symb 34) (.symb 443) (.symb 444),
  .ite (.symb 38) (.symb 204) (.symb 203),
  .ite (.symb 38) (.symb 205) (.symb 174),
  .ite (.symb 34) (.symb 446) (.symb 447),
  .ite (.symb 30) (.symb 445) (.symb 448),
  .ite (.symb 26) (.symb 442) (.symb 449),
  .ite (.symb 22) (.symb 435) (.symb 450),
  .ite (.symb 38) (.symb 210) (.symb 209),
  .ite (.symb 38) (.symb 211) (.symb 208),
  .ite (.symb 34) (.symb 452) (.symb 453),
  .ite (.symb 38) (.symb 213) (.symb 212),
  .ite (.symb 38) (.symb 214) (.symb 207),
  .ite (.symb 34) (.symb 455) (.symb 456),
  .ite (.symb 30) (.symb 454) (.symb 457),
  .ite (.symb 38) (.symb 217) (.symb 216),
  .ite (.symb 38) (.symb 218) (.symb 215),
  .ite (.symb 34) (.symb 459) (.symb 460),
  .ite (.symb 38) (.symb 220) (.symb 219),
  .ite (.symb 38) (.symb 221) (.symb 206),
  .ite (.symb 34) (.symb 462) (.symb 463),
  .ite (.symb 30) (.symb 461) (.symb 464),
  .ite (.symb 26) (.symb 458) (.symb 465),
  .ite (.symb 38) (.symb 225) (.symb 224),
  .ite (.symb 38) (.symb 226) (.symb 223),
  .ite (.symb 34) (.symb 467) (.symb 468),
  .ite (.symb 38) (.symb 228) (.symb 227),
  .ite (.symb 38) (.symb 229) (.symb 222),
  .ite (.symb 34) (.symb 470) (.symb 471),
  .ite (.symb 30) (.symb 469) (.symb 472),
  .ite (.symb 38) (.symb 232) (.symb 231),
  .ite (.symb 38) (.symb 233) (.symb 230),
  .ite (.symb 34) (.symb 474) (.symb 475),
  .ite (.symb 38) (.symb 235) (.symb 234),
  .ite (.symb 38) (.symb 236) (.symb 40),
  .ite (.symb 34) (.symb 477) (.symb 478),
  .ite (.symb 30) (.symb 476) (.symb 479),
  .ite (.symb 26) (.symb 473) (.symb 480),
  .ite (.symb 22) (.symb 466) (.symb 481),
  .ite (.symb 18) (.symb 451) (.symb 482),
  .ite (.symb 38) (.symb 241) (.symb 240),
  .ite (.symb 38) (.symb 242) (.symb 239),
  .ite (.symb 34) (.symb 484) (.symb 485),
  .ite (.symb 38) (.symb 244) (.symb 243),
  .ite (.symb 38) (.symb 245) (.symb 238),
  .ite (.symb 34) (.symb 487) (.symb 488),
  .ite (.symb 30) (.symb 486) (.symb 489),
  .ite (.symb 38) (.symb 248) (.symb 247),
  .ite (.symb 38) (.symb 249) (.symb 246),
  .ite (.symb 34) (.symb 491) (.symb 492),
  .ite (.symb 38) (.symb 251) (.symb 250),
  .ite (.symb 38) (.symb 252) (.symb 237),
  .ite (.symb 34) (.symb 494) (.symb 495),
  .ite (.symb 30) (.symb 493) (.symb 496),
  .ite (.symb 26) (.symb 490) (.symb 497),
  .ite (.symb 38) (.symb 256) (.symb 255),
  .ite (.symb 38) (.symb 257) (.symb 254),
  .ite (.symb 34) (.symb 499) (.symb 500),
  .ite (.symb 38) (.symb 259) (.symb 258),
  .ite (.symb 38) (.symb 260) (.symb 253),
  .ite (.symb 34) (.symb 502) (.symb 503),
  .ite (.symb 30) (.symb 501) (.symb 504),
  .ite (.symb 38) (.symb 263) (.symb 262),
  .ite (.symb 38) (.symb 264) (.symb 261),
  .ite (.symb 34) (.symb 506) (.symb 507),
  .ite (.symb 38) (.symb 266) (.symb 265),
  .ite (.symb 38) (.symb 267) (.symb 42),
  .ite (.symb 34) (.symb 509) (.symb 510),
  .ite (.symb 30) (.symb 508) (.symb 511),
  .ite (.symb 26) (.symb 505) (.symb 512),
  .ite (.symb 22) (.symb 498) (.symb 513),
  .ite (.symb 38) (.symb 271) (.symb 270),
  .ite (.symb 38) (.symb 272) (.symb 269),
  .ite (.symb 34) (.symb 515) (.symb 516),
  .ite (.symb 38) (.symb 274) (.symb 273),
  .ite (.symb 38) (.symb 275) (.symb 268),
  .ite (.symb 34) (.symb 518) (.symb 519),
  .ite (.symb 30) (.symb 517) (.symb 520),
  .ite (.symb 38) (.symb 278) (.symb 277),
  .ite (.symb 38) (.symb 279) (.symb 276),
  .ite (.symb 34) (.symb 522) (.symb 523),
  .ite (.symb 38) (.symb 281) (.symb 280),
  .ite (.symb 38) (.symb 282) (.symb 44),
  .ite (.symb 34) (.symb 525) (.symb 526),
  .ite (.symb 30) (.symb 524) (.symb 527),
  .ite (.symb 26) (.symb 521) (.symb 528),
  .ite (.symb 38) (.symb 285) (.symb 284),
  .ite (.symb 38) (.symb 286) (.symb 283),
  .ite (.symb 34) (.symb 530) (.symb 531),
  .ite (.symb 38) (.symb 288) (.symb 287),
  .ite (.symb 38) (.symb 289) (.symb 46),
  .ite (.symb 34) (.symb 533) (.symb 534),
  .ite (.symb 30) (.symb 532) (.symb 535),
  .ite (.symb 38) (.symb 291) (.symb 290),
  .ite (.symb 38) (.symb 292) (.symb 48),
  .ite (.symb 34) (.symb 537) (.symb 538),
  .ite (.symb 38) (.symb 293) (.symb 50),
  .ite (.symb 38) (.symb 52) (.bool false),
  .ite (.symb 34) (.symb 540) (.symb 541),
  .ite (.symb 30) (.symb 539) (.symb 542),
  .ite (.symb 26) (.symb 536) (.symb 543),
  .ite (.symb 22) (.symb 529) (.symb 544),
  .ite (.symb 18) (.symb 514) (.symb 545),
  .ite (.symb 14) (.symb 483) (.symb 546),
  .ite (.symb 10) (.symb 420) (.symb 547)]

set_option maxRecDepth 100000 in
def rqT : LT := .n (.n (.n (.n (.n (.n (.n (.n (.n (.n (.e) 8335726 275 (.ite (.symb 268) (.bool true) (.symb 52)) (.e)) 9821221 282 (.ite (.symb 44) (.bool true) (.symb 52)) (.e)) 10547144 300 (.ite (.symb 30) (.symb 296) (.symb 299)) (.n (.e) 11116954 426 (.ite (.symb 34) (.symb 424) (.symb 425)) (.e))) 14051019 132 (.ite (.symb 129) (.bool true) (.symb 52)) (.n (.n (.e) 15721736 324 (.ite (.symb 22) (.symb 308) (.symb 323)) (.e)) 16996907 5 (.bin .and (.symi .u8 4) (.symi .u8 2)) (.n (.e) 26640730 469 (.ite (.symb 34) (.symb 467) (.symb 468)) (.e)))) 26658150 354 (.ite (.symb 26) (.symb 346) (.symb 353)) (.n (.n (.n (.n (.e) 28225908 163 (.ite (.symb 160) (.bool true) (.symb 52)) (.e)) 30161131 360 (.ite (.symb 38) (.symb 119) (.symb 118)) (.e)) 37295562 12 (.un .not (.symb 11)) (.n (.e) 38528563 65 (.ite (.symb 43) (.bool true) (.symb 46)) (.e))) 42400797 198 (.ite (.symb 191) (.bool true) (.symb 52)) (.n (.n (.e) 43684841 404 (.ite (.symb 38) (.symb 163) (.symb 160)) (.e)) 45684907 403 (.ite (.symb 38) (.symb 162) (.symb 161)) (.n (.e) 46106420 335 (.ite (.symb 38) (.symb 94) (.symb 93)) (.e))))) 46630595 279 (.ite (.symb 276) (.bool true) (.symb 52)) (.n (.n (.n (.n (.n (.e) 52345888 138 (.ite (.symb 137) (.bool true) (.symb 52)) (.e)) 56051511 313 (.ite (.symb 38) (.symb 72) (.symb 65)) (.e)) 56575686 229 (.ite (.symb 222) (.bool true) (.symb 52)) (.n (.e) 56696959 497 (.ite (.symb 30) (.symb 493) (.symb 496)) (.e))) 62290979 84 (.ite (.symb 83) (.bool true) (.symb 52)) (.n (.n (.e) 62529355 104 (.ite (.symb 41) (.bool true) (.symb 48)) (.e)) 66520777 169 (.ite (.symb 168) (.bool true) (.symb 52)) (.n (.e) 70750575 260 (.ite (.symb 253) (.bool true) (.symb 52)) (.e)))) 71153774 425 (.ite (.symb 38) (.symb 183) (.symb 176)) (.n (.n (.n (.e) 74732393 492 (.ite (.symb 38) (.symb 249) (.symb 246)) (.e)) 76465868 117 (.ite (.symb 114) (.bool true) (.symb 52)) (.n (.e) 76732459 491 (.ite (.symb 38) (.symb 248) (.symb 247)) (.e))) 80695666 202 (.ite (.symb 199) (.bool true) (.symb 52)) (.n (.n (.e) 84925464 285 (.ite (.symb 284) (.bool true) (.symb 52)) (.e)) 86530147 171 (.ite (.symb 39) (.bool true) (.symb 50)) (.n (.e) 90421886 369 (.ite (.symb 34) (.symb 367) (.symb 368)) (.e)))))) 90640757 148 (.ite (.symb 145) (.bool true) (.symb 52)) (.n (.n (.n (.n (.n (.n (.e) 91236697 174 (.ite (.symb 40) (.bool true) (.symb 42)) (.e)) 92256235 537 (.ite (.symb 38) (.symb 291) (.symb 290)) (.e)) 93520774 328 (.ite (.symb 38) (.symb 87) (.symb 86)) (.n (.e) 94870555 233 (.ite (.symb 230) (.bool true) (.symb 52)) (.e))) 104111313 490 (.ite (.symb 30) (.symb 486) (.symb 489)) (.n (.n (.e) 104815646 183 (.ite (.symb 176) (.bool true) (.symb 52)) (.e)) 105945662 412 (.ite (.symb 34) (.symb 410) (.symb 411)) (.n (.e) 108201524 509 (.ite (.symb 38) (.symb 266) (.symb 265)) (.e)))) 109045444 264 (.ite (.symb 261) (.bool true) (.symb 52)) (.n (.n (.n (.e) 109285905 514 (.ite (.symb 22) (.symb 498) (.symb 513)) (.e)) 114760737 123 (.ite (.symb 122) (.bool true) (.symb 52)) (.n (.e) 114999113 89 (.ite (.symb 80) (.bool true) (.symb 48)) (.e))) 118990535 214 (.ite (.symb 207) (.bool true) (.symb 52)) (.n (.n (.e) 120056602 465 (.ite (.symb 30) (.symb 461) (.symb 464)) (.e)) 120222319 544 (.ite (.symb 26) (.symb 536) (.symb 543)) (.n (.e) 122146747 485 (.ite (.symb 38) (.symb 242) (.symb 239)) (.e))))) 124146813 484 (.ite (.symb 38) (.symb 241) (.symb 240)) (.n (.n (.n (.n (.n (.e) 124825016 55 (.ite (.symb 47) (.bool true) (.symb 50)) (.e)) 128935626 154 (.ite (.symb 153) (.bool true) (.symb 52)) (.e)) 129174002 136 (.ite (.symb 111) (.bool true) (.symb 48)) (.n (.e) 133165424 245 (.ite (.symb 238) (.bool true) (.symb 52)) (.e))) 133522988 176 (.ite (.symb 175) (.bool true) (.symb 46)) (.n (.n (.e) 134513417 392 (.ite (.symb 38) (.symb 151) (.symb 144)) (.e)) 137136785 7 (.fnb 0 [.symi .u8 1, .int .i64 0]) (.n (.e) 137158020 11 (.fnb 0 [.symi .u8 1, .int .i64 1]) (.e)))) 137179255 15 (.fnb 0 [.symi .u8 1, .int .i64 2]) (.n (.n (.n (.e) 137200490 19 (.fnb 0 [.symi .u8 1, .int .i64 3]) (.e)) 137221725 23 (.fnb 0 [.symi .u8 1, .int .i64 4]) (.n (.e) 137242960 27 (.fnb 0 [.symi .u8 1, .int .i64 5]) (.e))) 137264195 31 (.fnb 0 [.symi .u8 1, .int .i64 6]) (.n (.n (.e) 137285430 35 (.fnb 0 [.symi .u8 1, .int .i64 7]) (.e)) 137414727 430 (.ite (.symb 34) (.symb 428) (.symb 429)) (.n (.e) 137836240 362 (.ite (.symb 34) (.symb 360) (.symb 361)) (.e))))))) 138879823 305 (.ite (.symb 38) (.symb 64) (.symb 45)) (.n (.n (.n (.n (.n (.n (.n (.e) 143110515 187 (.ite (.symb 184) (.bool true) (.symb 52)) (.e)) 145532710 541 (.ite (.symb 38) (.symb 52) (.bool false)) (.e)) 147340313 272 (.ite (.symb 269) (.bool true) (.symb 52)) (.n (.e) 147697877 207 (.ite (.symb 206) (.bool true) (.symb 46)) (.e))) 148825808 64 (.ite (.symb 45) (.bool true) (.symb 52)) (.n (.n (.e) 151304711 420 (.ite (.symb 14) (.symb 356) (.symb 419)) (.e)) 153055606 131 (.ite (.symb 130) (.bool true) (.symb 52)) (.n (.e) 153360016 405 (.ite (.symb 34) (.symb 403) (.symb 404)) (.e)))) 153781529 337 (.ite (.symb 34) (.symb 335) (.symb 336)) (.n (.n (.n (.e) 154458838 365 (.ite (.symb 38) (.symb 124) (.symb 121)) (.e)) 155615878 502 (.ite (.symb 38) (.symb 259) (.symb 258)) (.n (.e) 156458904 364 (.ite (.symb 38) (.symb 123) (.symb 122)) (.e))) 157285404 218 (.ite (.symb 215) (.bool true) (.symb 52)) (.n (.n (.e) 161872766 238 (.ite (.symb 237) (.bool true) (.symb 46)) (.e)) 167230495 162 (.ite (.symb 161) (.bool true) (.symb 52)) (.n (.e) 167470956 458 (.ite (.symb 30) (.symb 454) (.symb 457)) (.e))))) 168313982 322 (.ite (.symb 30) (.symb 318) (.symb 321)) (.n (.n (.n (.n (.n (.e) 168883792 448 (.ite (.symb 34) (.symb 446) (.symb 447)) (.e)) 171460293 249 (.ite (.symb 246) (.bool true) (.symb 52)) (.e)) 172645548 482 (.ite (.symb 22) (.symb 466) (.symb 481)) (.n (.e) 175593731 24 (.un .not (.symb 23)) (.e))) 177413962 66 (.ite (.symb 65) (.bool true) (.symb 48)) (.n (.n (.e) 177533150 268 (.ite (.symb 44) (.bool true) (.symb 46)) (.e)) 181405384 195 (.ite (.symb 192) (.bool true) (.symb 52)) (.n (.e) 184829081 423 (.ite (.symb 34) (.symb 421) (.symb 422)) (.e)))) 184846501 308 (.ite (.symb 26) (.symb 300) (.symb 307)) (.n (.n (.n (.e) 185635182 278 (.ite (.symb 277) (.bool true) (.symb 52)) (.e)) 187927969 382 (.ite (.symb 38) (.symb 141) (.symb 140)) (.n (.e) 191588851 97 (.ite (.symb 96) (.bool true) (.symb 48)) (.e))) 195580273 226 (.ite (.symb 223) (.bool true) (.symb 52)) (.n (.n (.e) 201195883 330 (.ite (.symb 34) (.symb 328) (.symb 329)) (.e)) 201533942 261 (.ite (.symb 42) (.bool true) (.symb 48)) (.n (.e) 201873192 358 (.ite (.symb 38) (.symb 117) (.symb 114)) (.e)))))) 203873258 357 (.ite (.symb 38) (.symb 116) (.symb 115)) (.n (.n (.n (.n (.n (.n (.e) 205277384 538 (.ite (.symb 38) (.symb 292) (.symb 48)) (.e)) 209755162 257 (.ite (.symb 254) (.bool true) (.symb 52)) (.e)) 215470455 116 (.ite (.symb 115) (.bool true) (.symb 52)) (.n (.e) 215728336 315 (.ite (.symb 30) (.symb 311) (.symb 314)) (.e))) 216298146 441 (.ite (.symb 34) (.symb 439) (.symb 440)) (.n (.n (.e) 217818481 333 (.ite (.symb 38) (.symb 92) (.symb 89)) (.e)) 219700253 201 (.ite (.symb 200) (.bool true) (.symb 52)) (.n (.e) 219818547 332 (.ite (.symb 38) (.symb 91) (.symb 90)) (.e)))) 225534734 234 (.ite (.symb 40) (.bool true) (.symb 50)) (.n (.n (.n (.e) 229645344 147 (.ite (.symb 146) (.bool true) (.symb 52)) (.e)) 230241284 43 (.ite (.symb 41) (.bool true) (.symb 42)) (.n (.e) 233490554 356 (.ite (.symb 18) (.symb 324) (.symb 355)) (.e))) 233875142 232 (.ite (.symb 231) (.bool true) (.symb 52)) (.n (.n (.e) 235342323 375 (.ite (.symb 38) (.symb 134) (.symb 133)) (.e)) 236444124 495 (.ite (.symb 38) (.symb 252) (.symb 237)) (.n (.e) 243820233 180 (.ite (.symb 177) (.bool true) (.symb 52)) (.e))))) 246775888 401 (.ite (.symb 30) (.symb 397) (.symb 400)) (.n (.n (.n (.n (.n (.e) 247345698 527 (.ite (.symb 34) (.symb 525) (.symb 526)) (.e)) 248050031 263 (.ite (.symb 262) (.bool true) (.symb 52)) (.e)) 251287612 350 (.ite (.symb 38) (.symb 109) (.symb 108)) (.n (.e) 252755687 383 (.ite (.symb 38) (.symb 142) (.symb 111)) (.e))) 254003700 82 (.ite (.symb 81) (.bool true) (.symb 48)) (.n (.n (.e) 254242076 143 (.ite (.symb 39) (.bool true) (.symb 44)) (.e)) 257995122 211 (.ite (.symb 208) (.bool true) (.symb 52)) (.n (.e) 258691936 526 (.ite (.symb 38) (.symb 282) (.symb 44)) (.e)))) 261878151 512 (.ite (.symb 30) (.symb 508) (.symb 511)) (.n (.n (.n (.e) 263829603 290 (.ite (.symb 48) (.bool true) (.symb 50)) (.e)) 264134013 366 (.ite (.symb 34) (.symb 364) (.symb 365)) (.n (.e) 265232835 326 (.ite (.symb 38) (.symb 85) (.symb 82)) (.e))) 265968362 533 (.ite (.symb 38) (.symb 288) (.symb 287)) (.n (.n (.e) 266389875 462 (.ite (.symb 38) (.symb 220) (.symb 219)) (.e)) 267232901 325 (.ite (.symb 38) (.symb 84) (.symb 83)) (.n (.e) 268178589 121 (.ite (.symb 112) (.bool true) (.symb 48)) (.e)))))))) 272170011 242 (.ite (.symb 239) (.bool true) (.symb 52)) (.n (.n (.n (.n (.n (.n (.n (.n (.e) 274137196 39 (.fnb 0 [.symi .u8 2, .int .i64 0]) (.e)) 274158431 40 (.fnb 0 [.symi .u8 2, .int .i64 1]) (.e)) 274179666 42 (.fnb 0 [.symi .u8 2, .int .i64 2]) (.n (.e) 274200901 44 (.fnb 0 [.symi .u8 2, .int .i64 3]) (.e))) 274222136 46 (.fnb 0 [.symi .u8 2, .int .i64 4]) (.n (.n (.e) 274243371 48 (.fnb 0 [.symi .u8 2, .int .i64 5]) (.e)) 274264606 50 (.fnb 0 [.symi .u8 2, .int .i64 6]) (.n (.e) 274285841 52 (.fnb 0 [.symi .u8 2, .int .i64 7]) (.e)))) 276334966 440 (.ite (.symb 38) (.symb 198) (.symb 191)) (.n (.n (.n (.e) 278410670 498 (.ite (.symb 26) (.symb 490) (.symb 497)) (.e)) 279913585 507 (.ite (.symb 38) (.symb 264) (.symb 261)) (.n (.e) 281913651 506 (.ite (.symb 38) (.symb 263) (.symb 262)) (.e))) 282115102 186 (.ite (.symb 185) (.bool true) (.symb 52)) (.n (.n (.e) 282353478 152 (.ite (.symb 143) (.bool true) (.symb 48)) (.e)) 286344900 271 (.ite (.symb 270) (.bool true) (.symb 52)) (.n (.e) 287830395 289 (.ite (.symb 46) (.bool true) (.symb 52)) (.e))))) 294190242 394 (.ite (.symb 30) (.symb 390) (.symb 393)) (.n (.n (.n (.n (.n (.e) 294760052 520 (.ite (.symb 34) (.symb 518) (.symb 519)) (.e)) 295603078 384 (.ite (.symb 34) (.symb 382) (.symb 383)) (.e)) 296289991 217 (.ite (.symb 216) (.bool true) (.symb 52)) (.n (.e) 296528367 199 (.ite (.symb 174) (.bool true) (.symb 48)) (.e))) 298701966 343 (.ite (.symb 38) (.symb 102) (.symb 101)) (.n (.n (.e) 299364834 418 (.ite (.symb 22) (.symb 402) (.symb 417)) (.e)) 302005284 78 (.ite (.symb 77) (.bool true) (.symb 52)) (.n (.e) 305601939 10 (.ite (.symb 8) (.symb 9) (.bool false)) (.e)))) 309292505 505 (.ite (.symb 30) (.symb 501) (.symb 504)) (.n (.n (.n (.e) 310464880 248 (.ite (.symb 247) (.bool true) (.symb 52)) (.e)) 311548367 359 (.ite (.symb 34) (.symb 357) (.symb 358)) (.n (.e) 313382716 525 (.ite (.symb 38) (.symb 281) (.symb 280)) (.e))) 313804229 455 (.ite (.symb 38) (.symb 213) (.symb 212)) (.n (.n (.e) 313891900 36 (.un .not (.symb 35)) (.e)) 316170569 368 (.ite (.symb 38) (.symb 127) (.symb 112)) (.n (.e) 316180173 109 (.ite (.symb 108) (.bool true) (.symb 52)) (.e)))))) 316537737 47 (.ite (.symb 45) (.bool true) (.symb 46)) (.n (.n (.n (.n (.n (.n (.e) 316638611 478 (.ite (.symb 38) (.symb 236) (.symb 40)) (.e)) 320409971 194 (.ite (.symb 193) (.bool true) (.symb 52)) (.e)) 325237794 480 (.ite (.symb 30) (.symb 476) (.symb 479)) (.n (.e) 326592412 295 (.ite (.symb 38) (.symb 54) (.symb 49)) (.e))) 327054723 546 (.ite (.symb 18) (.symb 514) (.symb 545)) (.n (.n (.e) 327327939 500 (.ite (.symb 38) (.symb 257) (.symb 254)) (.e)) 327493656 334 (.ite (.symb 34) (.symb 332) (.symb 333)) (.n (.e) 329328005 499 (.ite (.symb 38) (.symb 256) (.symb 255)) (.e)))) 334584860 225 (.ite (.symb 224) (.bool true) (.symb 52)) (.n (.n (.n (.e) 339694609 407 (.ite (.symb 38) (.symb 166) (.symb 159)) (.e)) 340538529 73 (.ite (.symb 43) (.bool true) (.symb 48)) (.n (.e) 341770313 466 (.ite (.symb 26) (.symb 458) (.symb 465)) (.e))) 342595919 445 (.ite (.symb 34) (.symb 443) (.symb 444)) (.n (.n (.e) 343017432 377 (.ite (.symb 34) (.symb 375) (.symb 376)) (.e)) 344768327 129 (.ite (.symb 128) (.bool true) (.symb 48)) (.n (.e) 348759749 256 (.ite (.symb 255) (.bool true) (.symb 52)) (.e))))) 358943216 160 (.ite (.symb 159) (.bool true) (.symb 48)) (.n (.n (.n (.n (.n (.e) 358962721 352 (.ite (.symb 34) (.symb 350) (.symb 351)) (.e)) 359640030 380 (.ite (.symb 38) (.symb 139) (.symb 136)) (.e)) 360797070 518 (.ite (.symb 38) (.symb 274) (.symb 273)) (.n (.e) 361640096 379 (.ite (.symb 38) (.symb 138) (.symb 137)) (.e))) 364420133 63 (.ite (.symb 62) (.bool true) (.symb 52)) (.n (.n (.e) 364539321 108 (.ite (.symb 41) (.bool true) (.symb 50)) (.e)) 372652148 473 (.ite (.symb 30) (.symb 469) (.symb 472)) (.n (.e) 374908010 327 (.ite (.symb 34) (.symb 325) (.symb 326)) (.e)))) 378595022 94 (.ite (.symb 93) (.bool true) (.symb 52)) (.n (.n (.n (.e) 379530212 336 (.ite (.symb 38) (.symb 95) (.symb 80)) (.e)) 382824820 179 (.ite (.symb 178) (.bool true) (.symb 52)) (.n (.e) 383898128 14 (.ite (.symb 12) (.symb 13) (.bool false)) (.e))) 388540113 173 (.ite (.symb 39) (.bool true) (.symb 52)) (.n (.n (.e) 390010273 438 (.ite (.symb 34) (.symb 436) (.symb 437)) (.e)) 390027693 323 (.ite (.symb 26) (.symb 315) (.symb 322)) (.n (.e) 393246663 206 (.ite (.symb 40) (.bool true) (.symb 44)) (.e))))))) 396999709 210 (.ite (.symb 209) (.bool true) (.symb 52)) (.n (.n (.n (.n (.n (.n (.n (.e) 402715002 71 (.ite (.symb 70) (.bool true) (.symb 52)) (.e)) 402834190 51 (.ite (.symb 49) (.bool true) (.symb 50)) (.e)) 406377075 345 (.ite (.symb 34) (.symb 343) (.symb 344)) (.n (.e) 407054384 373 (.ite (.symb 38) (.symb 132) (.symb 129)) (.e))) 407183176 114 (.ite (.symb 113) (.bool true) (.symb 48)) (.n (.n (.e) 409054450 372 (.ite (.symb 38) (.symb 131) (.symb 130)) (.e)) 409475963 304 (.ite (.symb 38) (.symb 63) (.symb 62)) (.n (.e) 411137607 9 (.fnb 0 [.symi .u8 3, .int .i64 0]) (.e)))) 411158842 13 (.fnb 0 [.symi .u8 3, .int .i64 1]) (.n (.n (.n (.e) 411174598 241 (.ite (.symb 240) (.bool true) (.symb 52)) (.e)) 411180077 17 (.fnb 0 [.symi .u8 3, .int .i64 2]) (.n (.e) 411201312 21 (.fnb 0 [.symi .u8 3, .int .i64 3]) (.e))) 411222547 25 (.fnb 0 [.symi .u8 3, .int .i64 4]) (.n (.n (.e) 411243782 29 (.fnb 0 [.symi .u8 3, .int .i64 5]) (.e)) 411265017 33 (.fnb 0 [.symi .u8 3, .int .i64 6]) (.n (.e) 411286252 37 (.fnb 0 [.symi .u8 3, .int .i64 7]) (.e))))) 416889891 102 (.ite (.symb 101) (.bool true) (.symb 52)) (.n (.n (.n (.n (.n (.e) 417009079 93 (.ite (.symb 80) (.bool true) (.symb 50)) (.e)) 418156515 488 (.ite (.symb 38) (.symb 245) (.symb 238)) (.e)) 421057825 524 (.ite (.symb 34) (.symb 522) (.symb 523)) (.n (.e) 421358065 145 (.ite (.symb 144) (.bool true) (.symb 48)) (.e))) 422999673 348 (.ite (.symb 38) (.symb 107) (.symb 104)) (.n (.n (.e) 424999739 347 (.ite (.symb 38) (.symb 106) (.symb 105)) (.e)) 426834982 57 (.ite (.symb 47) (.bool true) (.symb 52)) (.n (.e) 431183968 140 (.ite (.symb 111) (.bool true) (.symb 50)) (.e)))) 435532954 184 (.ite (.symb 175) (.bool true) (.symb 48)) (.n (.n (.n (.e) 437680423 531 (.ite (.symb 38) (.symb 286) (.symb 283)) (.e)) 438101936 460 (.ite (.symb 38) (.symb 218) (.symb 215)) (.n (.e) 439680489 530 (.ite (.symb 38) (.symb 285) (.symb 284)) (.e))) 440102002 459 (.ite (.symb 38) (.symb 217) (.symb 216)) (.n (.n (.e) 441308894 16 (.un .not (.symb 15)) (.e)) 442000300 414 (.ite (.symb 38) (.symb 173) (.symb 39)) (.n (.e) 449707843 215 (.ite (.symb 206) (.bool true) (.symb 48)) (.e)))))) 451957080 416 (.ite (.symb 30) (.symb 412) (.symb 415)) (.n (.n (.n (.n (.n (.n (.e) 452526890 542 (.ite (.symb 34) (.symb 540) (.symb 541)) (.e)) 456890317 297 (.ite (.symb 38) (.symb 56) (.symb 55)) (.e)) 462194317 18 (.ite (.symb 16) (.symb 17) (.bool false)) (.n (.e) 463882732 246 (.ite (.symb 237) (.bool true) (.symb 48)) (.e))) 465129851 56 (.ite (.symb 55) (.bool true) (.symb 52)) (.n (.n (.e) 468472179 517 (.ite (.symb 34) (.symb 515) (.symb 516)) (.e)) 468489599 402 (.ite (.symb 26) (.symb 394) (.symb 401)) (.n (.e) 469315205 381 (.ite (.symb 34) (.symb 379) (.symb 380)) (.e)))) 469359649 141 (.ite (.symb 140) (.bool true) (.symb 52)) (.n (.n (.n (.e) 470414027 341 (.ite (.symb 38) (.symb 100) (.symb 97)) (.e)) 471571067 477 (.ite (.symb 38) (.symb 235) (.symb 234)) (.n (.e) 471597197 298 (.ite (.symb 38) (.symb 57) (.symb 47)) (.e))) 472414093 340 (.ite (.symb 38) (.symb 99) (.symb 98)) (.n (.n (.e) 478057621 269 (.ite (.symb 268) (.bool true) (.symb 48)) (.e)) 479304740 87 (.ite (.symb 86) (.bool true) (.symb 52)) (.n (.e) 479423928 70 (.ite (.symb 65) (.bool true) (.symb 50)) (.e))))) 479543116 276 (.ite (.symb 44) (.bool true) (.symb 48)) (.n (.n (.n (.n (.n (.e) 479597461 294 (.ite (.symb 38) (.symb 53) (.symb 51)) (.e)) 483426145 434 (.ite (.symb 30) (.symb 430) (.symb 433)) (.e)) 483534538 172 (.ite (.symb 171) (.bool true) (.symb 52)) (.n (.e) 483591862 513 (.ite (.symb 26) (.symb 505) (.symb 512)) (.e))) 485094777 523 (.ite (.symb 38) (.symb 279) (.symb 276)) (.n (.n (.e) 485516290 453 (.ite (.symb 38) (.symb 211) (.symb 208)) (.e)) 487094843 522 (.ite (.symb 38) (.symb 278) (.symb 277)) (.n (.e) 487516356 452 (.ite (.symb 38) (.symb 210) (.symb 209)) (.e)))) 493598817 101 (.ite (.symb 96) (.bool true) (.symb 50)) (.n (.n (.n (.e) 497882960 361 (.ite (.symb 38) (.symb 120) (.symb 113)) (.e)) 499371434 409 (.ite (.symb 30) (.symb 405) (.symb 408)) (.n (.e) 499941244 535 (.ite (.symb 34) (.symb 533) (.symb 534)) (.e))) 501939225 288 (.ite (.symb 287) (.bool true) (.symb 52)) (.n (.n (.e) 503543908 265 (.ite (.symb 42) (.bool true) (.symb 50)) (.e)) 505011916 6 (.bin .neq (.symi .u8 5) (.int .u8 0)) (.n (.e) 512122692 192 (.ite (.symb 191) (.bool true) (.symb 48)) (.e))))))))) 516729559 374 (.ite (.symb 34) (.symb 372) (.symb 373)) (.n (.n (.n (.n (.n (.n (.n (.n (.n (.e) 517151072 306 (.ite (.symb 34) (.symb 304) (.symb 305)) (.e)) 517718797 74 (.ite (.symb 73) (.bool true) (.symb 50)) (.e)) 518985421 470 (.ite (.symb 38) (.symb 228) (.symb 227)) (.n (.e) 526297581 223 (.ite (.symb 222) (.bool true) (.symb 48)) (.e))) 527544700 236 (.ite (.symb 40) (.bool true) (.symb 52)) (.n (.n (.e) 529994494 534 (.ite (.symb 38) (.symb 289) (.symb 46)) (.e)) 530840499 427 (.ite (.symb 30) (.symb 423) (.symb 426)) (.n (.e) 531774498 126 (.ite (.symb 125) (.bool true) (.symb 52)) (.e)))) 531893686 105 (.ite (.symb 104) (.bool true) (.symb 50)) (.n (.n (.n (.n (.e) 532251250 80 (.ite (.symb 41) (.bool true) (.symb 44)) (.e)) 532509131 516 (.ite (.symb 38) (.symb 272) (.symb 269)) (.e)) 532674848 349 (.ite (.symb 34) (.symb 347) (.symb 348)) (.n (.e) 534509197 515 (.ite (.symb 38) (.symb 271) (.symb 270)) (.e))) 536015091 451 (.ite (.symb 22) (.symb 435) (.symb 450)) (.n (.n (.e) 540472470 254 (.ite (.symb 253) (.bool true) (.symb 48)) (.e)) 540490506 22 (.ite (.symb 20) (.symb 21) (.bool false)) (.n (.e) 542951373 548 (.ite (.symb 10) (.symb 420) (.symb 547)) (.e))))) 545949387 157 (.ite (.symb 156) (.bool true) (.symb 52)) (.n (.n (.n (.n (.n (.e) 546951505 481 (.ite (.symb 26) (.symb 473) (.symb 480)) (.e)) 556013666 86 (.ite (.symb 81) (.bool true) (.symb 50)) (.e)) 556252042 159 (.ite (.symb 39) (.bool true) (.symb 46)) (.n (.e) 561242603 329 (.ite (.symb 38) (.symb 88) (.symb 81)) (.e))) 564565426 299 (.ite (.symb 34) (.symb 297) (.symb 298)) (.n (.n (.e) 565839569 292 (.ite (.symb 48) (.bool true) (.symb 52)) (.e)) 570069367 134 (.ite (.symb 133) (.bool true) (.symb 52)) (.n (.e) 570188555 125 (.ite (.symb 112) (.bool true) (.symb 50)) (.e)))) 574537541 177 (.ite (.symb 176) (.bool true) (.symb 48)) (.n (.n (.n (.e) 579607063 28 (.un .not (.symb 27)) (.e)) 580089202 342 (.ite (.symb 34) (.symb 340) (.symb 341)) (.n (.e) 580133646 59 (.ite (.symb 58) (.bool true) (.symb 50)) (.e))) 581188024 302 (.ite (.symb 38) (.symb 61) (.symb 58)) (.n (.n (.e) 583188090 301 (.ite (.symb 38) (.symb 60) (.symb 59)) (.e)) 584244256 165 (.ite (.symb 164) (.bool true) (.symb 52)) (.n (.e) 584363444 156 (.ite (.symb 143) (.bool true) (.symb 50)) (.e)))))) 588712430 208 (.ite (.symb 207) (.bool true) (.symb 48)) (.n (.n (.n (.n (.n (.n (.e) 594308535 90 (.ite (.symb 89) (.bool true) (.symb 50)) (.e)) 598538333 203 (.ite (.symb 174) (.bool true) (.symb 50)) (.e)) 598895897 112 (.ite (.symb 111) (.bool true) (.symb 44)) (.n (.e) 599813667 463 (.ite (.symb 38) (.symb 221) (.symb 206)) (.e))) 602648943 281 (.ite (.symb 280) (.bool true) (.symb 52)) (.n (.n (.e) 602887319 239 (.ite (.symb 238) (.bool true) (.symb 48)) (.e)) 610145431 370 (.ite (.symb 30) (.symb 366) (.symb 369)) (.n (.e) 610715241 496 (.ite (.symb 34) (.symb 494) (.symb 495)) (.e)))) 614657155 319 (.ite (.symb 38) (.symb 78) (.symb 77)) (.n (.n (.n (.e) 618428515 67 (.ite (.symb 66) (.bool true) (.symb 50)) (.e)) 618547703 58 (.ite (.symb 45) (.bool true) (.symb 48)) (.n (.e) 618786695 26 (.ite (.symb 24) (.symb 25) (.bool false)) (.e))) 623337707 503 (.ite (.symb 38) (.symb 260) (.symb 253)) (.n (.n (.e) 626239017 539 (.ite (.symb 34) (.symb 537) (.symb 538)) (.e)) 629759418 431 (.ite (.symb 38) (.symb 189) (.symb 188)) (.n (.e) 632484216 119 (.ite (.symb 118) (.bool true) (.symb 52)) (.e))))) 632603404 98 (.ite (.symb 97) (.bool true) (.symb 50)) (.n (.n (.n (.n (.n (.e) 636714014 204 (.ite (.symb 203) (.bool true) (.symb 52)) (.e)) 642548495 77 (.ite (.symb 43) (.bool true) (.symb 50)) (.e)) 643283128 475 (.ite (.symb 38) (.symb 233) (.symb 230)) (.n (.e) 645283194 474 (.ite (.symb 38) (.symb 232) (.symb 231)) (.e))) 646384888 4 (.bin .andNot (.symi .u8 3) (.symi .u8 1)) (.n (.n (.e) 646659105 150 (.ite (.symb 149) (.bool true) (.symb 52)) (.e)) 646778293 133 (.ite (.symb 128) (.bool true) (.symb 50)) (.n (.e) 650888903 235 (.ite (.symb 234) (.bool true) (.symb 52)) (.e)))) 656292267 540 (.ite (.symb 38) (.symb 293) (.symb 50)) (.n (.n (.n (.e) 657559785 363 (.ite (.symb 30) (.symb 359) (.symb 362)) (.e)) 658129595 489 (.ite (.symb 34) (.symb 487) (.symb 488)) (.n (.e) 660953182 164 (.ite (.symb 159) (.bool true) (.symb 50)) (.e))) 662071509 312 (.ite (.symb 38) (.symb 71) (.symb 70)) (.n (.n (.e) 662734377 387 (.ite (.symb 22) (.symb 371) (.symb 386)) (.e)) 665063792 266 (.ite (.symb 265) (.bool true) (.symb 52)) (.n (.e) 666549287 110 (.ite (.symb 41) (.bool true) (.symb 52)) (.e))))))) 671255837 237 (.ite (.symb 42) (.bool true) (.symb 44)) (.n (.n (.n (.n (.n (.n (.n (.e) 671598066 547 (.ite (.symb 14) (.symb 483) (.symb 546)) (.e)) 673505074 338 (.ite (.symb 30) (.symb 334) (.symb 337)) (.e)) 673653371 532 (.ite (.symb 34) (.symb 530) (.symb 531)) (.n (.e) 673670791 417 (.ite (.symb 26) (.symb 409) (.symb 416)) (.e))) 674074884 464 (.ite (.symb 34) (.symb 462) (.symb 463)) (.n (.n (.e) 677173772 424 (.ite (.symb 38) (.symb 182) (.symb 181)) (.e)) 685073162 137 (.ite (.symb 136) (.bool true) (.symb 50)) (.n (.e) 688607337 449 (.ite (.symb 30) (.symb 445) (.symb 448)) (.e)))) 690697482 468 (.ite (.symb 38) (.symb 226) (.symb 223)) (.n (.n (.n (.e) 690863199 303 (.ite (.symb 34) (.symb 301) (.symb 302)) (.e)) 692697548 467 (.ite (.symb 38) (.symb 225) (.symb 224)) (.n (.e) 693119061 398 (.ite (.symb 38) (.symb 157) (.symb 156)) (.e))) 695018253 83 (.ite (.symb 82) (.bool true) (.symb 50)) (.n (.n (.e) 695256629 222 (.ite (.symb 40) (.bool true) (.symb 46)) (.e)) 697082884 30 (.ite (.symb 28) (.symb 29) (.bool false)) (.n (.e) 699128863 189 (.ite (.symb 188) (.bool true) (.symb 52)) (.e))))) 699248051 168 (.ite (.symb 167) (.bool true) (.symb 50)) (.n (.n (.n (.n (.n (.e) 703064152 376 (.ite (.symb 38) (.symb 135) (.symb 128)) (.e)) 703358661 274 (.ite (.symb 273) (.bool true) (.symb 52)) (.e)) 704844156 54 (.ite (.symb 49) (.bool true) (.symb 52)) (.n (.e) 705139856 435 (.ite (.symb 26) (.symb 427) (.symb 434)) (.e))) 707024057 8 (.un .not (.symb 7)) (.n (.n (.e) 709193142 118 (.ite (.symb 113) (.bool true) (.symb 50)) (.e)) 713303752 220 (.ite (.symb 219) (.bool true) (.symb 52)) (.n (.e) 717652738 284 (.ite (.symb 283) (.bool true) (.symb 50)) (.e)))) 719019045 95 (.ite (.symb 80) (.bool true) (.symb 52)) (.n (.n (.n (.e) 720919428 331 (.ite (.symb 30) (.symb 327) (.symb 330)) (.e)) 721489238 457 (.ite (.symb 34) (.symb 455) (.symb 456)) (.n (.e) 722332264 321 (.ite (.symb 34) (.symb 319) (.symb 320)) (.e))) 723368031 149 (.ite (.symb 144) (.bool true) (.symb 50)) (.n (.n (.e) 723963971 41 (.ite (.symb 39) (.bool true) (.symb 40)) (.e)) 726094020 355 (.ite (.symb 22) (.symb 339) (.symb 354)) (.n (.e) 727478641 251 (.ite (.symb 250) (.bool true) (.symb 52)) (.e)))))) 733193934 142 (.ite (.symb 111) (.bool true) (.symb 52)) (.n (.n (.n (.n (.n (.n (.e) 736021691 442 (.ite (.symb 30) (.symb 438) (.symb 441)) (.e)) 737423732 197 (.ite (.symb 196) (.bool true) (.symb 52)) (.e)) 737542920 188 (.ite (.symb 175) (.bool true) (.symb 50)) (.n (.e) 738277553 296 (.ite (.symb 34) (.symb 294) (.symb 295)) (.e))) 740533415 391 (.ite (.symb 38) (.symb 150) (.symb 149)) (.n (.n (.e) 747488011 122 (.ite (.symb 121) (.bool true) (.symb 50)) (.e)) 751598621 228 (.ite (.symb 227) (.bool true) (.symb 52)) (.n (.e) 751717809 219 (.ite (.symb 206) (.bool true) (.symb 50)) (.e)))) 753783909 483 (.ite (.symb 18) (.symb 451) (.symb 482)) (.n (.n (.n (.e) 757552290 283 (.ite (.symb 46) (.bool true) (.symb 48)) (.e)) 761662900 153 (.ite (.symb 152) (.bool true) (.symb 50)) (.n (.e) 765773510 259 (.ite (.symb 258) (.bool true) (.symb 52)) (.e))) 765892698 250 (.ite (.symb 237) (.bool true) (.symb 50)) (.n (.n (.e) 766250262 175 (.ite (.symb 174) (.bool true) (.symb 44)) (.e)) 766423795 344 (.ite (.symb 38) (.symb 103) (.symb 96)) (.n (.e) 767069243 528 (.ite (.symb 30) (.symb 524) (.symb 527)) (.e))))) 769746618 314 (.ite (.symb 34) (.symb 312) (.symb 313)) (.n (.n (.n (.n (.n (.e) 775379073 34 (.ite (.symb 32) (.symb 33) (.bool false)) (.e)) 780067587 273 (.ite (.symb 268) (.bool true) (.symb 50)) (.e)) 781433894 72 (.ite (.symb 65) (.bool true) (.symb 52)) (.n (.e) 781526058 456 (.ite (.symb 38) (.symb 214) (.symb 207)) (.e))) 781553082 280 (.ite (.symb 44) (.bool true) (.symb 50)) (.n (.n (.e) 784427368 493 (.ite (.symb 34) (.symb 491) (.symb 492)) (.e)) 785782880 130 (.ite (.symb 129) (.bool true) (.symb 50)) (.n (.e) 786369216 317 (.ite (.symb 38) (.symb 76) (.symb 73)) (.e)))) 788369282 316 (.ite (.symb 38) (.symb 75) (.symb 74)) (.n (.n (.n (.e) 795608783 103 (.ite (.symb 96) (.bool true) (.symb 52)) (.e)) 799838581 182 (.ite (.symb 181) (.bool true) (.symb 52)) (.n (.e) 799957769 161 (.ite (.symb 160) (.bool true) (.symb 50)) (.e))) 800794170 400 (.ite (.symb 34) (.symb 398) (.symb 399)) (.n (.n (.e) 801471479 429 (.ite (.symb 38) (.symb 187) (.symb 184)) (.e)) 803471545 428 (.ite (.symb 38) (.symb 186) (.symb 185)) (.n (.e) 805553874 267 (.ite (.symb 42) (.bool true) (.symb 52)) (.e)))))))) 810260424 45 (.ite (.symb 43) (.bool true) (.symb 44)) (.n (.n (.n (.n (.n (.n (.n (.n (.e) 814013470 213 (.ite (.symb 212) (.bool true) (.symb 52)) (.e)) 814132658 196 (.ite (.symb 191) (.bool true) (.symb 50)) (.e)) 814483597 521 (.ite (.symb 30) (.symb 517) (.symb 520)) (.n (.e) 815326623 385 (.ite (.symb 30) (.symb 381) (.symb 384)) (.e))) 815896433 511 (.ite (.symb 34) (.symb 509) (.symb 510)) (.n (.n (.e) 818362456 277 (.ite (.symb 276) (.bool true) (.symb 50)) (.e)) 819658189 545 (.ite (.symb 22) (.symb 529) (.symb 544)) (.n (.e) 819728763 76 (.ite (.symb 73) (.bool true) (.symb 52)) (.e)))) 828188359 244 (.ite (.symb 243) (.bool true) (.symb 52)) (.n (.n (.n (.e) 828307547 227 (.ite (.symb 222) (.bool true) (.symb 50)) (.e)) 828518899 519 (.ite (.symb 38) (.symb 275) (.symb 268)) (.n (.e) 831841722 486 (.ite (.symb 34) (.symb 484) (.symb 485)) (.e))) 831859142 371 (.ite (.symb 26) (.symb 363) (.symb 370)) (.n (.n (.e) 833783570 310 (.ite (.symb 38) (.symb 69) (.symb 66)) (.e)) 833903652 107 (.ite (.symb 104) (.bool true) (.symb 52)) (.n (.e) 834261216 96 (.ite (.symb 41) (.bool true) (.symb 46)) (.e))))) 834940610 446 (.ite (.symb 38) (.symb 204) (.symb 203)) (.n (.n (.n (.n (.n (.e) 835783636 309 (.ite (.symb 38) (.symb 68) (.symb 67)) (.e)) 842482436 258 (.ite (.symb 253) (.bool true) (.symb 50)) (.e)) 843848743 293 (.ite (.symb 50) (.bool true) (.symb 52)) (.n (.e) 845322226 20 (.un .not (.symb 19)) (.e))) 847787011 461 (.ite (.symb 34) (.symb 459) (.symb 460)) (.n (.n (.e) 848197729 115 (.ite (.symb 114) (.bool true) (.symb 50)) (.e)) 848208524 393 (.ite (.symb 34) (.symb 391) (.symb 392)) (.n (.e) 848885833 422 (.ite (.symb 38) (.symb 180) (.symb 177)) (.e)))) 850885899 421 (.ite (.symb 38) (.symb 179) (.symb 178)) (.n (.n (.n (.e) 852427527 200 (.ite (.symb 199) (.bool true) (.symb 50)) (.e)) 853675262 38 (.ite (.symb 36) (.symb 37) (.bool false)) (.n (.e) 858023632 88 (.ite (.symb 81) (.bool true) (.symb 52)) (.e))) 858262008 167 (.ite (.symb 39) (.bool true) (.symb 48)) (.n (.n (.e) 862372618 146 (.ite (.symb 145) (.bool true) (.symb 50)) (.e)) 862740977 378 (.ite (.symb 30) (.symb 374) (.symb 377)) (.n (.e) 863310787 504 (.ite (.symb 34) (.symb 502) (.symb 503)) (.e)))))) 864831122 396 (.ite (.symb 38) (.symb 155) (.symb 152)) (.n (.n (.n (.n (.n (.n (.e) 866602416 231 (.ite (.symb 230) (.bool true) (.symb 50)) (.e)) 866831188 395 (.ite (.symb 38) (.symb 154) (.symb 153)) (.e)) 872198521 127 (.ite (.symb 112) (.bool true) (.symb 52)) (.n (.e) 876547507 181 (.ite (.symb 176) (.bool true) (.symb 50)) (.e))) 878686266 353 (.ite (.symb 30) (.symb 349) (.symb 352)) (.n (.n (.e) 879256076 479 (.ite (.symb 34) (.symb 477) (.symb 478)) (.e)) 880503195 419 (.ite (.symb 18) (.symb 387) (.symb 418)) (.n (.e) 880777305 262 (.ite (.symb 261) (.bool true) (.symb 50)) (.e)))) 882143612 61 (.ite (.symb 58) (.bool true) (.symb 52)) (.n (.n (.n (.e) 882354964 439 (.ite (.symb 38) (.symb 197) (.symb 196)) (.e)) 886373410 158 (.ite (.symb 143) (.bool true) (.symb 52)) (.n (.e) 886730974 81 (.ite (.symb 80) (.bool true) (.symb 46)) (.e))) 890722396 212 (.ite (.symb 207) (.bool true) (.symb 50)) (.n (.n (.e) 895201365 454 (.ite (.symb 34) (.symb 452) (.symb 453)) (.e)) 895218785 339 (.ite (.symb 26) (.symb 331) (.symb 338)) (.n (.e) 896044391 318 (.ite (.symb 34) (.symb 316) (.symb 317)) (.e))))) 896318501 92 (.ite (.symb 89) (.bool true) (.symb 52)) (.n (.n (.n (.n (.n (.e) 896556877 49 (.ite (.symb 47) (.bool true) (.symb 48)) (.e)) 898300253 413 (.ite (.symb 38) (.symb 172) (.symb 171)) (.e)) 899768328 447 (.ite (.symb 38) (.symb 205) (.symb 174)) (.n (.e) 900548299 205 (.ite (.symb 174) (.bool true) (.symb 52)) (.e))) 900905863 128 (.ite (.symb 111) (.bool true) (.symb 46)) (.n (.n (.e) 904897285 243 (.ite (.symb 238) (.bool true) (.symb 50)) (.e)) 910321048 450 (.ite (.symb 26) (.symb 442) (.symb 449)) (.n (.e) 912245476 389 (.ite (.symb 38) (.symb 148) (.symb 145)) (.e)))) 914245542 388 (.ite (.symb 38) (.symb 147) (.symb 146)) (.n (.n (.n (.e) 914842376 185 (.ite (.symb 184) (.bool true) (.symb 50)) (.e)) 918952986 291 (.ite (.symb 290) (.bool true) (.symb 52)) (.n (.e) 919072174 270 (.ite (.symb 269) (.bool true) (.symb 50)) (.e))) 920438481 69 (.ite (.symb 66) (.bool true) (.symb 52)) (.n (.n (.e) 920557669 62 (.ite (.symb 45) (.bool true) (.symb 50)) (.e)) 926100620 346 (.ite (.symb 30) (.symb 342) (.symb 345)) (.n (.e) 926670430 472 (.ite (.symb 34) (.symb 470) (.symb 471)) (.e))))))) 929017265 216 (.ite (.symb 215) (.bool true) (.symb 50)) (.n (.n (.n (.n (.n (.n (.n (.e) 934613370 100 (.ite (.symb 97) (.bool true) (.symb 52)) (.e)) 942833696 510 (.ite (.symb 38) (.symb 267) (.symb 42)) (.e)) 943192154 247 (.ite (.symb 246) (.bool true) (.symb 50)) (.n (.e) 943458745 311 (.ite (.symb 34) (.symb 309) (.symb 310)) (.e))) 944558461 79 (.ite (.symb 43) (.bool true) (.symb 52)) (.n (.n (.e) 945714607 406 (.ite (.symb 38) (.symb 165) (.symb 164)) (.e)) 948788259 135 (.ite (.symb 128) (.bool true) (.symb 52)) (.n (.e) 953137245 193 (.ite (.symb 192) (.bool true) (.symb 50)) (.e)))) 958733350 75 (.ite (.symb 74) (.bool true) (.symb 52)) (.n (.n (.n (.e) 962963148 166 (.ite (.symb 159) (.bool true) (.symb 52)) (.e)) 963183210 432 (.ite (.symb 38) (.symb 190) (.symb 175)) (.n (.e) 967312134 224 (.ite (.symb 223) (.bool true) (.symb 50)) (.e))) 972250435 543 (.ite (.symb 30) (.symb 539) (.symb 542)) (.n (.n (.e) 972908239 106 (.ite (.symb 105) (.bool true) (.symb 52)) (.e)) 973265803 253 (.ite (.symb 42) (.bool true) (.symb 46)) (.n (.e) 974506297 397 (.ite (.symb 34) (.symb 395) (.symb 396)) (.e))))) 976762159 494 (.ite (.symb 38) (.symb 251) (.symb 250)) (.n (.n (.n (.n (.n (.e) 981487023 255 (.ite (.symb 254) (.bool true) (.symb 50)) (.e)) 982853330 53 (.ite (.symb 51) (.bool true) (.symb 52)) (.e)) 983620395 32 (.un .not (.symb 31)) (.n (.e) 986707250 471 (.ite (.symb 38) (.symb 229) (.symb 222)) (.e))) 987083128 139 (.ite (.symb 136) (.bool true) (.symb 52)) (.n (.n (.e) 988782954 529 (.ite (.symb 26) (.symb 521) (.symb 528)) (.e)) 989608560 508 (.ite (.symb 34) (.symb 506) (.symb 507)) (.n (.e) 997028219 85 (.ite (.symb 82) (.bool true) (.symb 52)) (.e)))) 997266595 230 (.ite (.symb 40) (.bool true) (.symb 48)) (.n (.n (.n (.e) 998201785 320 (.ite (.symb 38) (.symb 79) (.symb 43)) (.e)) 1001258017 170 (.ite (.symb 167) (.bool true) (.symb 52)) (.n (.e) 1005975362 415 (.ite (.symb 34) (.symb 413) (.symb 414)) (.e))) 1006652671 444 (.ite (.symb 38) (.symb 202) (.symb 199)) (.n (.n (.e) 1008652737 443 (.ite (.symb 38) (.symb 201) (.symb 200)) (.e)) 1011203108 120 (.ite (.symb 113) (.bool true) (.symb 52)) (.n (.e) 1015552094 178 (.ite (.symb 177) (.bool true) (.symb 50)) (.e)))))) 1019662704 286 (.ite (.symb 283) (.bool true) (.symb 52)) (.n (.n (.n (.n (.n (.n (.e) 1019664789 536 (.ite (.symb 30) (.symb 532) (.symb 535)) (.e)) 1020376938 351 (.ite (.symb 38) (.symb 110) (.symb 41)) (.e)) 1021148199 60 (.ite (.symb 59) (.bool true) (.symb 52)) (.n (.e) 1021920651 390 (.ite (.symb 34) (.symb 388) (.symb 389)) (.e))) 1024176513 487 (.ite (.symb 38) (.symb 244) (.symb 243)) (.n (.n (.e) 1025377997 151 (.ite (.symb 144) (.bool true) (.symb 52)) (.e)) 1025973937 111 (.ite (.symb 39) (.bool true) (.symb 42)) (.n (.e) 1026542853 399 (.ite (.symb 38) (.symb 158) (.symb 143)) (.e)))) 1029726983 209 (.ite (.symb 208) (.bool true) (.symb 50)) (.n (.n (.n (.e) 1035323088 91 (.ite (.symb 90) (.bool true) (.symb 52)) (.e)) 1036874617 307 (.ite (.symb 30) (.symb 303) (.symb 306)) (.n (.e) 1037022914 501 (.ite (.symb 34) (.symb 499) (.symb 500)) (.e))) 1037040334 386 (.ite (.symb 26) (.symb 378) (.symb 385)) (.n (.n (.e) 1037444427 433 (.ite (.symb 34) (.symb 431) (.symb 432)) (.e)) 1039552886 190 (.ite (.symb 175) (.bool true) (.symb 52)) (.n (.e) 1039910450 113 (.ite (.symb 112) (.bool true) (.symb 46)) (.e))))) 1043901872 240 (.ite (.symb 239) (.bool true) (.symb 50)) (.n (.n (.n (.n (.n (.e) 1049497977 124 (.ite (.symb 121) (.bool true) (.symb 52)) (.e)) 1052968203 476 (.ite (.symb 34) (.symb 474) (.symb 475)) (.e)) 1053389716 408 (.ite (.symb 34) (.symb 406) (.symb 407)) (.n (.e) 1053727775 221 (.ite (.symb 206) (.bool true) (.symb 52)) (.e))) 1054067025 437 (.ite (.symb 38) (.symb 195) (.symb 192)) (.n (.n (.e) 1054085339 144 (.ite (.symb 143) (.bool true) (.symb 46)) (.e)) 1056067091 436 (.ite (.symb 38) (.symb 194) (.symb 193)) (.n (.e) 1056488604 367 (.ite (.symb 38) (.symb 126) (.symb 125)) (.e)))) 1059443068 68 (.ite (.symb 67) (.bool true) (.symb 52)) (.n (.n (.n (.e) 1059562256 287 (.ite (.symb 46) (.bool true) (.symb 50)) (.e)) 1063672866 155 (.ite (.symb 152) (.bool true) (.symb 52)) (.n (.e) 1067902664 252 (.ite (.symb 237) (.bool true) (.symb 52)) (.e))) 1068260228 191 (.ite (.symb 174) (.bool true) (.symb 46)) (.n (.n (.e) 1070012314 411 (.ite (.symb 38) (.symb 170) (.symb 167)) (.e)) 1072012380 410 (.ite (.symb 38) (.symb 169) (.symb 168)) (.n (.e) 1073617957 99 (.ite (.symb 98) (.bool true) (.symb 52)) (.e)))))))))

def rqKd : KdT := .n (.n (.n (.n (.n (.n (.n (.n (.n (.n .e none .e) none .e) none (.n .e none .e)) none (.n (.n .e none .e) none (.n .e none .e))) none (.n (.n (.n (.n .e none .e) none .e) none (.n .e none .e)) none (.n (.n .e none .e) none (.n .e none .e)))) none (.n (.n (.n (.n (.n .e none .e) none .e) none (.n .e none .e)) none (.n (.n .e none .e) none (.n .e none .e))) none (.n (.n (.n .e none .e) none (.n .e none .e)) none (.n (.n .e none .e) none (.n .e none .e))))) none (.n (.n (.n (.n (.n (.n .e none .e) none .e) none (.n .e none .e)) none (.n (.n .e none .e) none (.n .e none .e))) none (.n (.n (.n .e none .e) none (.n .e none .e)) none (.n (.n .e none .e) none (.n .e none .e)))) none (.n (.n (.n (.n (.n .e none .e) none .e) none (.n .e none .e)) none (.n (.n .e none .e) none (.n .e none .e))) none (.n (.n (.n .e none .e) none (.n .e none .e)) none (.n (.n .e none .e) none (.n .e none .e)))))) (some .u8) (.n (.n (.n (.n (.n (.n (.n .e none .e) none .e) none (.n .e none .e)) none (.n (.n .e none .e) none (.n .e none .e))) none (.n (.n (.n (.n .e none .e) none .e) none (.n .e none .e)) none (.n (.n .e none .e) none (.n .e none .e)))) none (.n (.n (.n (.n (.n .e none .e) none .e) none (.n .e none .e)) none (.n (.n .e none .e) none (.n .e none .e))) none (.n (.n (.n .e none .e) none (.n .e none .e)) none (.n (.n .e none .e) none (.n .e none .e))))) none (.n (.n (.n (.n (.n (.n .e none .e) none .e) none (.n .e none .e)) none (.n (.n .e none .e) none (.n .e none .e))) none (.n (.n (.n .e none .e) none (.n .e none .e)) none (.n (.n .e none .e) none (.n .e none .e)))) none (.n (.n (.n (.n (.n .e none .e) none .e) none (.n .e none .e)) none (.n (.n .e none .e) none (.n .e none .e))) none (.n (.n (.n .e none .e) none (.n .e none .e)) none (.n (.n .e none .e) none (.n .e none .e))))))) (some .u8) (.n (.n (.n (.n (.n (.n (.n (.n .e none .e) none .e) none (.n .e none .e)) none (.n (.n .e none .e) none (.n .e none .e))) none (.n (.n (.n (.n .e none .e) none .e) none (.n .e none .e)) none (.n (.n .e none .e) none (.n .e none .e)))) none (.n (.n (.n (.n (.n .e none .e) none .e) none (.n .e none .e)) none (.n (.n .e none .e) none (.n .e none .e))) none (.n (.n (.n .e none .e) none (.n .e none .e)) none (.n (.n .e none .e) none (.n .e none .e))))) none (.n (.n (.n (.n (.n (.n .e none .e) none .e) none (.n .e none .e)) none (.n (.n .e none .e) none (.n .e none .e))) none (.n (.n (.n .e none .e) none (.n .e none .e)) none (.n (.n .e none .e) none (.n .e none .e)))) none (.n (.n (.n (.n (.n .e none .e) none .e) none (.n .e none .e)) none (.n (.n .e none .e) none (.n .e none .e))) none (.n (.n (.n .e none .e) none (.n .e none .e)) none (.n (.n .e none .e) none (.n .e none .e)))))) (some .u8) (.n (.n (.n (.n (.n (.n (.n .e none .e) none .e) none (.n .e none .e)) none (.n (.n .e none .e) none (.n .e none .e))) none (.n (.n (.n .e none .e) none (.n .e none .e)) none (.n (.n .e none .e) none (.n .e none .e)))) none (.n (.n (.n (.n (.n .e none .e) none .e) none (.n .e none .e)) none (.n (.n .e none .e) none (.n .e none .e))) none (.n (.n (.n .e none .e) none (.n .e none .e)) none (.n (.n .e none .e) none (.n .e none .e))))) none (.n (.n (.n (.n (.n (.n .e none .e) none .e) none (.n .e none .e)) none (.n (.n .e none .e) none (.n .e none .e))) none (.n (.n (.n .e none .e) none (.n .e none .e)) none (.n (.n .e none .e) none (.n .e none .e)))) none (.n (.n (.n (.n (.n .e none .e) none .e) none (.n .e none .e)) none (.n (.n .e none .e) none (.n .e none .e))) none (.n (.n (.n .e none .e) none (.n .e none .e)) none (.n (.n .e none .e) none (.n .e none .e)))))))) (some .u8) (.n (.n (.n (.n (.n (.n (.n (.n (.n .e none .e) none .e) none (.n .e none .e)) none (.n (.n .e none .e) none (.n .e none .e))) none (.n (.n (.n (.n .e none .e) none .e) none (.n .e none .e)) none (.n (.n .e none .e) none (.n .e none .e)))) none (.n (.n (.n (.n (.n .e none .e) none .e) none (.n .e none .e)) none (.n (.n .e none .e) none (.n .e none .e))) none (.n (.n (.n .e none .e) none (.n .e none .e)) none (.n (.n .e none .e) none (.n .e none .e))))) none (.n (.n (.n (.n (.n (.n .e none .e) none .e) none (.n .e none .e)) none (.n (.n .e none .e) none (.n .e none .e))) none (.n (.n (.n .e none .e) none (.n .e none .e)) none (.n (.n .e none .e) none (.n .e none .e)))) none (.n (.n (.n (.n (.n .e none .e) none .e) none (.n .e none .e)) none (.n (.n .e none .e) none (.n .e none .e))) none (.n (.n (.n .e none .e) none (.n .e none .e)) none (.n (.n .e none .e) none (.n .e none .e)))))) (some .u8) (.n (.n (.n (.n (.n (.n (.n .e none .e) none .e) none (.n .e none .e)) none (.n (.n .e none .e) none (.n .e none .e))) none (.n (.n (.n (.n .e none .e) none .e) none (.n .e none .e)) none (.n (.n .e none .e) none (.n .e none .e)))) none (.n (.n (.n (.n (.n .e none .e) none .e) none (.n .e none .e)) none (.n (.n .e none .e) none (.n .e none .e))) none (.n (.n (.n .e none .e) none (.n .e none .e)) none (.n (.n .e none .e) none (.n .e none .e))))) none (.n (.n (.n (.n (.n (.n .e none .e) none .e) none (.n .e none .e)) none (.n (.n .e none .e) none (.n .e none .e))) none (.n (.n (.n .e none .e) none (.n .e none .e)) none (.n (.n .e none .e) none (.n .e none .e)))) none (.n (.n (.n (.n (.n .e none .e) none .e) none (.n .e none .e)) none (.n (.n .e none .e) none (.n .e none .e))) none (.n (.n (.n .e none .e) none (.n .e none .e)) none (.n (.n .e none .e) none (.n .e none .e))))))) (some .u8) (.n (.n (.n (.n (.n (.n (.n (.n .e none .e) none .e) none (.n .e none .e)) none (.n (.n .e none .e) none (.n .e none .e))) none (.n (.n (.n (.n .e none .e) none .e) none (.n .e none .e)) none (.n (.n .e none .e) none (.n .e none .e)))) none (.n (.n (.n (.n (.n .e none .e) none .e) none (.n .e none .e)) none (.n (.n .e none .e) none (.n .e none .e))) none (.n (.n (.n .e none .e) none (.n .e none .e)) none (.n (.n .e none .e) none (.n .e none .e))))) none (.n (.n (.n (.n (.n (.n .e none .e) none .e) none (.n .e none .e)) none (.n (.n .e none .e) none (.n .e none .e))) none (.n (.n (.n .e none .e) none (.n .e none .e)) none (.n (.n .e none .e) none (.n .e none .e)))) none (.n (.n (.n (.n (.n .e none .e) none .e) none (.n .e none .e)) none (.n (.n .e none .e) none (.n .e none .e))) none (.n (.n (.n .e none .e) none (.n .e none .e)) none (.n (.n .e none .e) none (.n .e none .e)))))) none (.n (.n (.n (.n (.n (.n (.n .e none .e) none .e) none (.n .e none .e)) none (.n (.n .e none .e) none (.n .e none .e))) none (.n (.n (.n .e none .e) none (.n .e none .e)) none (.n (.n .e none .e) none (.n .e none .e)))) none (.n (.n (.n (.n (.n .e none .e) none .e) none (.n .e none .e)) none (.n (.n .e none .e) none (.n .e none .e))) none (.n (.n (.n .e none .e) none (.n .e none .e)) none (.n (.n .e none .e) none (.n .e none .e))))) none (.n (.n (.n (.n (.n (.n .e none .e) none .e) none (.n .e none .e)) none (.n (.n .e none .e) none (.n .e none .e))) none (.n (.n (.n .e none .e) none (.n .e none .e)) none (.n (.n .e none .e) none (.n .e none .e)))) none (.n (.n (.n (.n (.n .e none .e) none .e) none (.n .e none .e)) none (.n (.n .e none .e) none (.n .e none .e))) none (.n (.n (.n .e none .e) none (.n .e none .e)) none (.n (.n .e none .e) none (.n .e none .e))))))))
def rqX : Ing := { kb := 549, kt := rqKd, m := 4, ins := (cellsOf rpI).map kindC, G := rqG, T := rqT, hook := tblHook (tabOf rpFs) rpTbl, tab := tabOf rpFs }
def rqA : List AVal := [.symi .u8 0, .symi .u8 3, .symi .u8 2, .symb 6]
def rqB : List AVal := [.symi .u8 0, .symi .u8 3, .symi .u8 2, .symb 548]
def pinsF : List Int → List Int := dagF (tabOf rpFs) 4 rqG rqA
theorem rq_ok : okG rqG 4 = true := by kernel_rfl
theorem rq_lt : okLT 4 rqG rqT = true := by kernel_rfl
theorem rq_run0 : okW (fun F => (evD Try.prog (cxOf rqX) true 1001 40).1 F 66 (symSh rpI 0) ⟨[], []⟩) (.run (.leaf (.tuple [.agg [.symi .u8 0, .symi .u8 3, .symi .u8 2], .symb 6]))) [] = true := by kernel_rfl
def rqW : Wr' := .node 10 (.node 14 (.node 18 (.run (.leaf (.tuple [.agg [.symi .u8 0, .symi .u8 3, .symi .u8 2], .symb 324]))) (.run (.leaf (.tuple [.agg [.symi .u8 0, .symi .u8 3, .symi .u8 2], .symb 355])))) (.node 18 (.run (.leaf (.tuple [.agg [.symi .u8 0, .symi .u8 3, .symi .u8 2], .symb 387]))) (.run (.leaf (.tuple [.agg [.symi .u8 0, .symi .u8 3, .symi .u8 2], .symb 418]))))) (.node 14 (.node 18 (.run (.leaf (.tuple [.agg [.symi .u8 0, .symi .u8 3, .symi .u8 2], .symb 451]))) (.run (.leaf (.tuple [.agg [.symi .u8 0, .symi .u8 3, .symi .u8 2], .symb 482])))) (.node 18 (.run (.leaf (.tuple [.agg [.symi .u8 0, .symi .u8 3, .symi .u8 2], .symb 514]))) (.run (.leaf (.tuple [.agg [.symi .u8 0, .symi .u8 3, .symi .u8 2], .symb 545])))))
theorem rq_run1_0 : okW (fun F => (evD Try.prog (cxOf rqX) true 1001 40).1 F 93 (symSh rpI 0) ⟨[], []⟩) (.run (.leaf (.tuple [.agg [.symi .u8 0, .symi .u8 3, .symi .u8 2], .symb 324]))) [.tru 18 true, .tru 14 true, .tru 10 true] = true := by kernel_rfl
theorem rq_run1_1 : okW (fun F => (evD Try.prog (cxOf rqX) true 1001 40).1 F 93 (symSh rpI 0) ⟨[], []⟩) (.run (.leaf (.tuple [.agg [.symi .u8 0, .symi .u8 3, .symi .u8 2], .symb 355]))) [.tru 18 false, .tru 14 true, .tru 10 true] = true := by kernel_rfl
theorem rq_run1_2 : okW (fun F => (evD Try.prog (cxOf rqX) true 1001 40).1 F 93 (symSh rpI 0) ⟨[], []⟩) (.run (.leaf (.tuple [.agg [.symi .u8 0, .symi .u8 3, .symi .u8 2], .symb 387]))) [.tru 18 true, .tru 14 false, .tru 10 true] = true := by kernel_rfl
theorem rq_run1_3 : okW (fun F => (evD Try.prog (cxOf rqX) true 1001 40).1 F 93 (symSh rpI 0) ⟨[], []⟩) (.run (.leaf (.tuple [.agg [.symi .u8 0, .symi .u8 3, .symi .u8 2], .symb 418]))) [.tru 18 false, .tru 14 false, .tru 10 true] = true := by kernel_rfl
theorem rq_run1_4 : okW (fun F => (evD Try.prog (cxOf rqX) true 1001 40).1 F 93 (symSh rpI 0) ⟨[], []⟩) (.run (.leaf (.tuple [.agg [.symi .u8 0, .symi .u8 3, .symi .u8 2], .symb 451]))) [.tru 18 true, .tru 14 true, .tru 10 false] = true := by kernel_rfl
theorem rq_run1_5 : okW (fun F => (evD Try.prog (cxOf rqX) true 1001 40).1 F 93 (symSh rpI 0) ⟨[], []⟩) (.run (.leaf (.tuple [.agg [.symi .u8 0, .symi .u8 3, .symi .u8 2], .symb 482]))) [.tru 18 false, .tru 14 true, .tru 10 false] = true := by kernel_rfl
theorem rq_run1_6 : okW (fun F => (evD Try.prog (cxOf rqX) true 1001 40).1 F 93 (symSh rpI 0) ⟨[], []⟩) (.run (.leaf (.tuple [.agg [.symi .u8 0, .symi .u8 3, .symi .u8 2], .symb 514]))) [.tru 18 true, .tru 14 false, .tru 10 false] = true := by kernel_rfl
theorem rq_run1_7 : okW (fun F => (evD Try.prog (cxOf rqX) true 1001 40).1 F 93 (symSh rpI 0) ⟨[], []⟩) (.run (.leaf (.tuple [.agg [.symi .u8 0, .symi .u8 3, .symi .u8 2], .symb 545]))) [.tru 18 false, .tru 14 false, .tru 10 false] = true := by kernel_rfl
theorem rq_run1 : okW (fun F => (evD Try.prog (cxOf rqX) true 1001 40).1 F 93 (symSh rpI 0) ⟨[], []⟩) rqW [] = true := by
  unfold rqW
  simp only [okW_node, Bool.and_eq_true]
  exact ⟨⟨⟨rq_run1_0, rq_run1_1⟩, rq_run1_2, rq_run1_3⟩, ⟨rq_run1_4, rq_run1_5⟩, rq_run1_6, rq_run1_7⟩


/-! ### A tree of choices: which of the truths are joined -/

def isB : AVal → Bool
  | .bool _ => true
  | .symb _ => true
  | _ => false
def opAt (G : List SDef) (m i : Nat) : Option SDef := if m ≤ i then G[i - m]? else none
theorem ite_at {σ : Sig} {m i : Nat} {G : List SDef} (e : Eqs σ m G) {c x y : AVal} (h : opAt G m i = some (.ite c x y)) (hx : isB x = true) {bc bx bb : Bool} (hc : den σ c = .bool bc) (h1 : den σ x = .bool bx) (h2 : den σ y = .bool bb) : den σ (.symb i) = .bool (bif bc then bx else bb) := by
  unfold opAt at h
  split at h
  · rename_i hm
    have hr := e.at (i - m) _ h rfl
    have hi : m + (i - m) = i := by omega
    rw [hi] at hr
    have hs : resS (.ite c x y) i = .symb i := by cases x <;> first | rfl | cases hx
    rw [hs] at hr
    show AVal.bool (σ.bval i) = _
    exact congrArg AVal.bool (eqIteB hr hc h1 h2)
  · cases h
def chn (G : List SDef) (m : Nat) : Nat → AVal → Option (List Nat)
  | 0, _ => none
  | _ + 1, .bool b => if b then none else some []
  | f + 1, .symb i => match opAt G m i with
    | some (.ite x (.bool true) (.symb j)) => match chn G m f x with
      | some l => some (l ++ [j])
      | none => none
    | some (.fnb _ _) => some [i]
    | _ => none
  | _ + 1, _ => none
theorem chn_ok {σ : Sig} {m : Nat} {G : List SDef} (e : Eqs σ m G) : ∀ (f : Nat) (a : AVal) (l : List Nat), chn G m f a = some l → den σ a = .bool (l.any σ.bval)
  | 0, _, _, h => by cases h
  | f + 1, a, l, h => by
    unfold chn at h
    split at h
    · cases h
    · rename_i b _
      cases b
      · simp at h; subst h; rfl
      · simp at h
    · rename_i f' i he
      cases he
      split at h
      · rename_i x j ho
        split at h
        · rename_i l' hl
          cases h
          rw [ite_at e ho rfl (chn_ok e f x l' hl) rfl rfl, List.any_append]
          congr 1
          cases l'.any σ.bval <;> simp
        · cases h
      · cases h
        show AVal.bool (σ.bval i) = _
        simp
      · cases h
    · cases h
def chk (G : List SDef) (m : Nat) : List (Nat × Nat) → List Nat → AVal → Bool
  | [], S, a => decide (chn G m 12 a = some S)
  | (d, e) :: r, S, .symb i => match opAt G m i with
    | some (.ite (.symb c) x y) => (c == d) && isB x && chk G m r (S ++ [e]) x && chk G m r S y
    | _ => false
  | _ :: _, _, _ => false
theorem chk_ok {σ : Sig} {m : Nat} {G : List SDef} (e : Eqs σ m G) : ∀ (r : List (Nat × Nat)) (S : List Nat) (a : AVal), chk G m r S a = true → den σ a = .bool (S.any σ.bval || r.any (fun p => σ.bval p.1 && σ.bval p.2))
  | [], S, a, h => by
    simp only [chk, decide_eq_true_eq] at h
    simpa using chn_ok e 12 a S h
  | (d, e') :: r, S, a, h => by
    cases a with
    | symb i =>
      simp only [chk] at h
      split at h
      · rename_i c x y ho
        simp only [Bool.and_eq_true, beq_iff_eq] at h
        obtain ⟨⟨⟨h1, h2⟩, h3⟩, h4⟩ := h
        subst h1
        rw [ite_at e ho h2 rfl (chk_ok e r _ x h3) (chk_ok e r S y h4)]
        simp only [List.any_append, List.any_cons, List.any_nil, Bool.or_false]
        congr 1
        cases σ.bval c <;> cases σ.bval e' <;> cases S.any σ.bval <;> simp
      · cases h
    | _ => simp [chk] at h

/-! ### Bits -/

def bv (n : Int) : BitVec 8 := BitVec.ofInt 8 n
def some8 (x : BitVec 8) : Nat → Bool
  | 0 => false
  | k + 1 => some8 x k || x.getLsbD k
theorem all8 {p : BitVec 8 → Prop} (h : ∀ i : Fin 256, p (BitVec.ofFin i)) (x : BitVec 8) : p x := h x.toFin
theorem some8_all (x : BitVec 8) : some8 x 8 = (x != 0#8) := all8 (p := fun x => some8 x 8 = (x != 0#8)) (by decide +kernel) x
theorem w8 (x : BitVec 8) : IntKind.u8.wrap (x.toNat : Int) = x.toNat := by
  have := x.isLt
  simp only [IntKind.wrap, IntKind.bits, IntKind.signed]
  simp; omega
theorem bv_nat (x : BitVec 8) : bv (x.toNat : Int) = x := by simp [bv]
theorem bv_w (x : BitVec 8) : bv (IntKind.u8.wrap (x.toNat : Int)) = x := by rw [w8, bv_nat]
theorem ne0 (x : BitVec 8) : (IntKind.u8.wrap (x.toNat : Int) != 0) = (x != 0#8) := by
  rw [w8, Bool.eq_iff_iff]
  simp only [bne_iff_ne, ne_eq]
  constructor
  · intro h h2; subst h2; exact h rfl
  · intro h h2; apply h; apply BitVec.eq_of_toNat_eq; simpa using h2
theorem u8_range {n : Int} (h : IntKind.u8.wrap n = n) : 0 ≤ n ∧ n < 256 := by
  simp [IntKind.wrap, IntKind.bits, IntKind.signed] at h; omega
theorem getL_and (x y : BitVec 8) (k : Nat) : (x &&& y).getLsbD k = (x.getLsbD k && y.getLsbD k) := by simp
theorem getL_not (x : BitVec 8) (k : Nat) (h : k < 8) : (~~~x).getLsbD k = !x.getLsbD k := by simp [h]
/-- what rises, of what is looked at -/
def ris (i v : Int) : BitVec 8 := bv v &&& ~~~ bv i
theorem bit_dec : ∀ i : Fin 256, ∀ n : Fin 8, (!((bitF [(i.val : Int), (n.val : Int)]).getD 0 0 == 0)) = (bv (i.val : Int)).getLsbD n.val := by decide +kernel
theorem bit_bv {v : Int} (h : IntKind.u8.wrap v = v) (n : Fin 8) : (!((bitF [v, (n.val : Int)]).getD 0 0 == 0)) = (bv v).getLsbD n.val := by
  obtain ⟨h0, h1⟩ := u8_range h
  have := bit_dec ⟨v.toNat, by omega⟩ n
  simpa [Int.toNat_of_nonneg h0] using this

set_option maxRecDepth 100000 in
theorem rq_chk : chk rqG 4 [(10, 39), (14, 40), (18, 42), (22, 44), (26, 46), (30, 48), (34, 50), (38, 52)] [] (.symb 548) = true := by kernel_rfl
set_option maxRecDepth 100000 in
theorem rq_eq (σ : Sig) (e : Eqs σ 4 rqG) (ht : σ.tab = tabOf rpFs) (hin : InsOk σ 4 ((cellsOf rpI).map kindC)) : σ.bval 548 = σ.bval 6 := by
  have e4 : σ.ival 4 = IntKind.u8.wrap (BitVec.ofInt IntKind.u8.bits (σ.ival 3) &&& ~~~BitVec.ofInt IntKind.u8.bits (σ.ival 1)).toNat := eqI (e.at 0 _ rfl rfl) rfl
  have e5 : σ.ival 5 = IntKind.u8.wrap (BitVec.ofInt IntKind.u8.bits (σ.ival 4) &&& BitVec.ofInt IntKind.u8.bits (σ.ival 2)).toNat := eqI (e.at 1 _ rfl rfl) rfl
  have e6 : σ.bval 6 = (σ.ival 5 != 0) := eqB (e.at 2 _ rfl rfl) rfl
  have e7 : σ.bval 7 = (!(σ.tab 0 [σ.ival 1, 0] == 0)) := eqB (e.at 3 _ rfl rfl) rfl
  have e8 : σ.bval 8 = (!σ.bval 7) := eqB (e.at 4 _ rfl rfl) rfl
  have e9 : σ.bval 9 = (!(σ.tab 0 [σ.ival 3, 0] == 0)) := eqB (e.at 5 _ rfl rfl) rfl
  have e10 : σ.bval 10 = (bif σ.bval 8 then σ.bval 9 else false) := eqIteB (e.at 6 _ rfl rfl) rfl rfl rfl
  have e11 : σ.bval 11 = (!(σ.tab 0 [σ.ival 1, 1] == 0)) := eqB (e.at 7 _ rfl rfl) rfl
  have e12 : σ.bval 12 = (!σ.bval 11) := eqB (e.at 8 _ rfl rfl) rfl
  have e13 : σ.bval 13 = (!(σ.tab 0 [σ.ival 3, 1] == 0)) := eqB (e.at 9 _ rfl rfl) rfl
  have e14 : σ.bval 14 = (bif σ.bval 12 then σ.bval 13 else false) := eqIteB (e.at 10 _ rfl rfl) rfl rfl rfl
  have e15 : σ.bval 15 = (!(σ.tab 0 [σ.ival 1, 2] == 0)) := eqB (e.at 11 _ rfl rfl) rfl
  have e16 : σ.bval 16 = (!σ.bval 15) := eqB (e.at 12 _ rfl rfl) rfl
  have e17 : σ.bval 17 = (!(σ.tab 0 [σ.ival 3, 2] == 0)) := eqB (e.at 13 _ rfl rfl) rfl
  have e18 : σ.bval 18 = (bif σ.bval 16 then σ.bval 17 else false) := eqIteB (e.at 14 _ rfl rfl) rfl rfl rfl
  have e19 : σ.bval 19 = (!(σ.tab 0 [σ.ival 1, 3] == 0)) := eqB (e.at 15 _ rfl rfl) rfl
  have e20 : σ.bval 20 = (!σ.bval 19) := eqB (e.at 16 _ rfl rfl) rfl
  have e21 : σ.bval 21 = (!(σ.tab 0 [σ.ival 3, 3] == 0)) := eqB (e.at 17 _ rfl rfl) rfl
  have e22 : σ.bval 22 = (bif σ.bval 20 then σ.bval 21 else false) := eqIteB (e.at 18 _ rfl rfl) rfl rfl rfl
  have e23 : σ.bval 23 = (!(σ.tab 0 [σ.ival 1, 4] == 0)) := eqB (e.at 19 _ rfl rfl) rfl
  have e24 : σ.bval 24 = (!σ.bval 23) := eqB (e.at 20 _ rfl rfl) rfl
  have e25 : σ.bval 25 = (!(σ.tab 0 [σ.ival 3, 4] == 0)) := eqB (e.at 21 _ rfl rfl) rfl
  have e26 : σ.bval 26 = (bif σ.bval 24 then σ.bval 25 else false) := eqIteB (e.at 22 _ rfl rfl) rfl rfl rfl
  have e27 : σ.bval 27 = (!(σ.tab 0 [σ.ival 1, 5] == 0)) := eqB (e.at 23 _ rfl rfl) rfl
  have e28 : σ.bval 28 = (!σ.bval 27) := eqB (e.at 24 _ rfl rfl) rfl
  have e29 : σ.bval 29 = (!(σ.tab 0 [σ.ival 3, 5] == 0)) := eqB (e.at 25 _ rfl rfl) rfl
  have e30 : σ.bval 30 = (bif σ.bval 28 then σ.bval 29 else false) := eqIteB (e.at 26 _ rfl rfl) rfl rfl rfl
  have e31 : σ.bval 31 = (!(σ.tab 0 [σ.ival 1, 6] == 0)) := eqB (e.at 27 _ rfl rfl) rfl
  have e32 : σ.bval 32 = (!σ.bval 31) := eqB (e.at 28 _ rfl rfl) rfl
  have e33 : σ.bval 33 = (!(σ.tab 0 [σ.ival 3, 6] == 0)) := eqB (e.at 29 _ rfl rfl) rfl
  have e34 : σ.bval 34 = (bif σ.bval 32 then σ.bval 33 else false) := eqIteB (e.at 30 _ rfl rfl) rfl rfl rfl
  have e35 : σ.bval 35 = (!(σ.tab 0 [σ.ival 1, 7] == 0)) := eqB (e.at 31 _ rfl rfl) rfl
  have e36 : σ.bval 36 = (!σ.bval 35) := eqB (e.at 32 _ rfl rfl) rfl
  have e37 : σ.bval 37 = (!(σ.tab 0 [σ.ival 3, 7] == 0)) := eqB (e.at 33 _ rfl rfl) rfl
  have e38 : σ.bval 38 = (bif σ.bval 36 then σ.bval 37 else false) := eqIteB (e.at 34 _ rfl rfl) rfl rfl rfl
  have e39 : σ.bval 39 = (!(σ.tab 0 [σ.ival 2, 0] == 0)) := eqB (e.at 35 _ rfl rfl) rfl
  have e40 : σ.bval 40 = (!(σ.tab 0 [σ.ival 2, 1] == 0)) := eqB (e.at 36 _ rfl rfl) rfl
  have e42 : σ.bval 42 = (!(σ.tab 0 [σ.ival 2, 2] == 0)) := eqB (e.at 38 _ rfl rfl) rfl
  have e44 : σ.bval 44 = (!(σ.tab 0 [σ.ival 2, 3] == 0)) := eqB (e.at 40 _ rfl rfl) rfl
  have e46 : σ.bval 46 = (!(σ.tab 0 [σ.ival 2, 4] == 0)) := eqB (e.at 42 _ rfl rfl) rfl
  have e48 : σ.bval 48 = (!(σ.tab 0 [σ.ival 2, 5] == 0)) := eqB (e.at 44 _ rfl rfl) rfl
  have e50 : σ.bval 50 = (!(σ.tab 0 [σ.ival 2, 6] == 0)) := eqB (e.at 46 _ rfl rfl) rfl
  have e52 : σ.bval 52 = (!(σ.tab 0 [σ.ival 2, 7] == 0)) := eqB (e.at 48 _ rfl rfl) rfl
  have w1 : IntKind.u8.wrap (σ.ival 1) = σ.ival 1 := hin 1 .u8 (by decide) rfl
  have w2 : IntKind.u8.wrap (σ.ival 2) = σ.ival 2 := hin 2 .u8 (by decide) rfl
  have w3 : IntKind.u8.wrap (σ.ival 3) = σ.ival 3 := hin 3 .u8 (by decide) rfl
  have b7 : σ.bval 7 = (bv (σ.ival 1)).getLsbD 0 := by rw [e7, ht]; exact bit_bv w1 0
  have b11 : σ.bval 11 = (bv (σ.ival 1)).getLsbD 1 := by rw [e11, ht]; exact bit_bv w1 1
  have b15 : σ.bval 15 = (bv (σ.ival 1)).getLsbD 2 := by rw [e15, ht]; exact bit_bv w1 2
  have b19 : σ.bval 19 = (bv (σ.ival 1)).getLsbD 3 := by rw [e19, ht]; exact bit_bv w1 3
  have b23 : σ.bval 23 = (bv (σ.ival 1)).getLsbD 4 := by rw [e23, ht]; exact bit_bv w1 4
  have b27 : σ.bval 27 = (bv (σ.ival 1)).getLsbD 5 := by rw [e27, ht]; exact bit_bv w1 5
  have b31 : σ.bval 31 = (bv (σ.ival 1)).getLsbD 6 := by rw [e31, ht]; exact bit_bv w1 6
  have b35 : σ.bval 35 = (bv (σ.ival 1)).getLsbD 7 := by rw [e35, ht]; exact bit_bv w1 7
  have b39 : σ.bval 39 = (bv (σ.ival 2)).getLsbD 0 := by rw [e39, ht]; exact bit_bv w2 0
  have b40 : σ.bval 40 = (bv (σ.ival 2)).getLsbD 1 := by rw [e40, ht]; exact bit_bv w2 1
  have b42 : σ.bval 42 = (bv (σ.ival 2)).getLsbD 2 := by rw [e42, ht]; exact bit_bv w2 2
  have b44 : σ.bval 44 = (bv (σ.ival 2)).getLsbD 3 := by rw [e44, ht]; exact bit_bv w2 3
  have b46 : σ.bval 46 = (bv (σ.ival 2)).getLsbD 4 := by rw [e46, ht]; exact bit_bv w2 4
  have b48 : σ.bval 48 = (bv (σ.ival 2)).getLsbD 5 := by rw [e48, ht]; exact bit_bv w2 5
  have b50 : σ.bval 50 = (bv (σ.ival 2)).getLsbD 6 := by rw [e50, ht]; exact bit_bv w2 6
  have b52 : σ.bval 52 = (bv (σ.ival 2)).getLsbD 7 := by rw [e52, ht]; exact bit_bv w2 7
  have b9 : σ.bval 9 = (bv (σ.ival 3)).getLsbD 0 := by rw [e9, ht]; exact bit_bv w3 0
  have b13 : σ.bval 13 = (bv (σ.ival 3)).getLsbD 1 := by rw [e13, ht]; exact bit_bv w3 1
  have b17 : σ.bval 17 = (bv (σ.ival 3)).getLsbD 2 := by rw [e17, ht]; exact bit_bv w3 2
  have b21 : σ.bval 21 = (bv (σ.ival 3)).getLsbD 3 := by rw [e21, ht]; exact bit_bv w3 3
  have b25 : σ.bval 25 = (bv (σ.ival 3)).getLsbD 4 := by rw [e25, ht]; exact bit_bv w3 4
  have b29 : σ.bval 29 = (bv (σ.ival 3)).getLsbD 5 := by rw [e29, ht]; exact bit_bv w3 5
  have b33 : σ.bval 33 = (bv (σ.ival 3)).getLsbD 6 := by rw [e33, ht]; exact bit_bv w3 6
  have b37 : σ.bval 37 = (bv (σ.ival 3)).getLsbD 7 := by rw [e37, ht]; exact bit_bv w3 7
  have d10 : σ.bval 10 = (ris (σ.ival 1) (σ.ival 3)).getLsbD 0 := by rw [e10, e8, b7, b9, ris, getL_and, getL_not _ _ (by decide)]; cases (bv (σ.ival 1)).getLsbD 0 <;> cases (bv (σ.ival 3)).getLsbD 0 <;> rfl
  have d14 : σ.bval 14 = (ris (σ.ival 1) (σ.ival 3)).getLsbD 1 := by rw [e14, e12, b11, b13, ris, getL_and, getL_not _ _ (by decide)]; cases (bv (σ.ival 1)).getLsbD 1 <;> cases (bv (σ.ival 3)).getLsbD 1 <;> rfl
  have d18 : σ.bval 18 = (ris (σ.ival 1) (σ.ival 3)).getLsbD 2 := by rw [e18, e16, b15, b17, ris, getL_and, getL_not _ _ (by decide)]; cases (bv (σ.ival 1)).getLsbD 2 <;> cases (bv (σ.ival 3)).getLsbD 2 <;> rfl
  have d22 : σ.bval 22 = (ris (σ.ival 1) (σ.ival 3)).getLsbD 3 := by rw [e22, e20, b19, b21, ris, getL_and, getL_not _ _ (by decide)]; cases (bv (σ.ival 1)).getLsbD 3 <;> cases (bv (σ.ival 3)).getLsbD 3 <;> rfl
  have d26 : σ.bval 26 = (ris (σ.ival 1) (σ.ival 3)).getLsbD 4 := by rw [e26, e24, b23, b25, ris, getL_and, getL_not _ _ (by decide)]; cases (bv (σ.ival 1)).getLsbD 4 <;> cases (bv (σ.ival 3)).getLsbD 4 <;> rfl
  have d30 : σ.bval 30 = (ris (σ.ival 1) (σ.ival 3)).getLsbD 5 := by rw [e30, e28, b27, b29, ris, getL_and, getL_not _ _ (by decide)]; cases (bv (σ.ival 1)).getLsbD 5 <;> cases (bv (σ.ival 3)).getLsbD 5 <;> rfl
  have d34 : σ.bval 34 = (ris (σ.ival 1) (σ.ival 3)).getLsbD 6 := by rw [e34, e32, b31, b33, ris, getL_and, getL_not _ _ (by decide)]; cases (bv (σ.ival 1)).getLsbD 6 <;> cases (bv (σ.ival 3)).getLsbD 6 <;> rfl
  have d38 : σ.bval 38 = (ris (σ.ival 1) (σ.ival 3)).getLsbD 7 := by rw [e38, e36, b35, b37, ris, getL_and, getL_not _ _ (by decide)]; cases (bv (σ.ival 1)).getLsbD 7 <;> cases (bv (σ.ival 3)).getLsbD 7 <;> rfl
  have hk := chk_ok e _ _ _ rq_chk
  have h6 : σ.bval 6 = some8 (ris (σ.ival 1) (σ.ival 3) &&& bv (σ.ival 2)) 8 := by
    rw [e6, e5]
    show (IntKind.u8.wrap (((bv (σ.ival 4)) &&& bv (σ.ival 2) : BitVec 8).toNat : Int) != 0) = _
    rw [ne0, some8_all, e4]
    show (bv (IntKind.u8.wrap (((bv (σ.ival 3)) &&& ~~~ bv (σ.ival 1) : BitVec 8).toNat : Int)) &&& _ != 0#8) = _
    rw [bv_w]; rfl
  have hk' : σ.bval 548 = _ := AVal.bool.inj hk
  rw [hk', h6]
  simp only [some8, getL_and, List.any_cons, List.any_nil, Bool.or_false, Bool.false_or, d10, d14, d18, d22, d26, d30, d34, d38, b39, b40, b42, b44, b46, b48, b50, b52, Bool.or_assoc]
set_option maxRecDepth 100000 in
theorem pins_contract0 : FnOk Try.prog 66 rpI rpO pinsF :=
  dag_contract (X := rqX) (cs := rqA) (cs1 := rqA) 2 mixed ⟨rfl, rfl, rfl, rfl, rfl⟩ rq_ok rq_lt (fun F => tbl_hooks rq_lt rfl rfl rp_all F) rq_run0 (by kernel_rfl) (by kernel_rfl) (fun σ _ _ _ => rfl) (hkt := by kernel_rfl)
theorem contract_leaves {P : Program} {X : Ing} {fuel : Nat} {f : FuncId} {ins outs : List Sh} {cs1 : List AVal} {Wr : Wr'} (hm : P.follows .mixedOrders = true)
    (hX : X.n = 0 ∧ X.rows = [] ∧ X.cuts = [] ∧ X.m = (cellsOf ins).length ∧ X.ins = (cellsOf ins).map kindC) (hG : okG X.G X.m = true) (hT : okLT X.m X.G X.T = true) (hh : ∀ F, Hooks P (cxOf X F))
    (h : okW (fun F => (evD P (cxOf X) true fuel 40).1 F f (symSh ins 0) ⟨[], []⟩) Wr [] = true)
    (hv : ∀ σ, Eqs σ X.m X.G → σ.tab = X.tab → InsOk σ X.m X.ins → valsW σ (fun v => OutOk σ outs v (numsOf σ cs1)) Wr []) (hinv : ∀ σ, X.inv σ := by exact fun _ => True.intro) (hkt : okKt X = true := by exact rfl) : FnOk P f ins outs (dagF X.tab X.m X.G cs1) := by
  intro l hl w
  obtain ⟨x1, x2, x3, x4, x5⟩ := hX
  have hlen := inR_length hl
  have ag := agree_solve X.G X.m (sigL X.tab l)
  have hi : ∀ i, i < X.m → (solve X.G X.m (sigL X.tab l)).ival i = l.getD i 0 := fun i hi => (ag.val i hi).1.symm
  have hb : ∀ i, i < X.m → (solve X.G X.m (sigL X.tab l)).bval i = !(l.getD i 0 == 0) := fun i hi => (ag.val i hi).2.1.symm
  have hins : InsOk (solve X.G X.m (sigL X.tab l)) X.m X.ins := by
    intro i k him hk
    rw [hi i him]
    refine inR_get hl i k ?_
    rw [x5, List.getElem?_map] at hk
    cases hc : (cellsOf ins)[i]? with
    | none => rw [hc] at hk; simp at hk
    | some c =>
      rw [hc] at hk
      cases c with
      | i k' => simp [kindC] at hk; rw [hk]
      | b => simp [kindC] at hk
  have hbase : BaseOk X (solve X.G X.m (sigL X.tab l)) := ⟨eqs_solve hG, ag.tab.symm, hins, by rw [x2]; exact rows_nil, by rw [x3]; exact cuts_nil, hinv _, hkt⟩
  refine (sym_val (Q := fun v => OutOk (solve X.G X.m (sigL X.tab l)) outs v (dagF X.tab X.m X.G cs1 l)) hm hT hh x1 (fun i => congrFun ag.ext.symm i) hbase h (hv _ (eqs_solve hG) ag.tab.symm hins) (args' := (encS ins l).toArray) ?_ w).mono ?_
  · refine symSh_rel ins l 0 hl (fun i hil => ?_)
    have him : i < X.m := by rw [x4, ← hlen]; exact hil
    rw [Nat.zero_add]
    exact ⟨hi i him, hb i him⟩
  · rintro e w' ⟨v, u, rfl, ho, hu, hB⟩
    exact ⟨by rw [outOk_rel ho hu], hB⟩
theorem same_last {σ : Sig} {cl : List Cl} {es : List AVal} {a b : AVal} {l : List Int} (h : OutOk σ [.agg cl, .one .b] (.tuple [.agg es, a]) l) (hd : den σ b = den σ a) : OutOk σ [.agg cl, .one .b] (.tuple [.agg es, b]) l :=
  ⟨h.1, by rw [hd]; exact h.2.1, trivial⟩

set_option maxRecDepth 100000 in
theorem pins_contract1 : FnOk Try.prog 93 rpI rpO pinsF :=
  contract_leaves (X := rqX) (cs1 := rqA) mixed ⟨rfl, rfl, rfl, rfl, rfl⟩ rq_ok rq_lt (fun F => tbl_hooks rq_lt rfl rfl rp_all F) rq_run1 (fun σ e ht hin => by
    have h0 : OutOk σ rpO (.tuple [.agg [.symi .u8 0, .symi .u8 3, .symi .u8 2], .symb 6]) (numsOf σ rqA) := outOk_flat (kd := kdF rqX.m rqX.ins rqX.G 2) (fun i k h => kdF_spec e hin 2 i k h) (by kernel_rfl) (by kernel_rfl)
    have c := rq_eq σ e ht hin
    have e548 : σ.bval 548 = (bif σ.bval 10 then σ.bval 420 else σ.bval 547) := eqIteB (e.at 544 _ rfl rfl) rfl rfl rfl
    have e420 : σ.bval 420 = (bif σ.bval 14 then σ.bval 356 else σ.bval 419) := eqIteB (e.at 416 _ rfl rfl) rfl rfl rfl
    have e356 : σ.bval 356 = (bif σ.bval 18 then σ.bval 324 else σ.bval 355) := eqIteB (e.at 352 _ rfl rfl) rfl rfl rfl
    have e419 : σ.bval 419 = (bif σ.bval 18 then σ.bval 387 else σ.bval 418) := eqIteB (e.at 415 _ rfl rfl) rfl rfl rfl
    have e547 : σ.bval 547 = (bif σ.bval 14 then σ.bval 483 else σ.bval 546) := eqIteB (e.at 543 _ rfl rfl) rfl rfl rfl
    have e483 : σ.bval 483 = (bif σ.bval 18 then σ.bval 451 else σ.bval 482) := eqIteB (e.at 479 _ rfl rfl) rfl rfl rfl
    have e546 : σ.bval 546 = (bif σ.bval 18 then σ.bval 514 else σ.bval 545) := eqIteB (e.at 542 _ rfl rfl) rfl rfl rfl
    exact ⟨⟨⟨fun hF => same_last h0 (by have h18 : σ.bval 18 = true := hF.1; have h14 : σ.bval 14 = true := hF.2.1; have h10 : σ.bval 10 = true := hF.2.2.1; have k := c; simp only [e548, e420, e356, e419, e547, e483, e546, h18, h14, h10, cond_true, cond_false] at k; exact congrArg AVal.bool k), fun hF => same_last h0 (by have h18 : σ.bval 18 = false := hF.1; have h14 : σ.bval 14 = true := hF.2.1; have h10 : σ.bval 10 = true := hF.2.2.1; have k := c; simp only [e548, e420, e356, e419, e547, e483, e546, h18, h14, h10, cond_true, cond_false] at k; exact congrArg AVal.bool k)⟩, fun hF => same_last h0 (by have h18 : σ.bval 18 = true := hF.1; have h14 : σ.bval 14 = false := hF.2.1; have h10 : σ.bval 10 = true := hF.2.2.1; have k := c; simp only [e548, e420, e356, e419, e547, e483, e546, h18, h14, h10, cond_true, cond_false] at k; exact congrArg AVal.bool k), fun hF => same_last h0 (by have h18 : σ.bval 18 = false := hF.1; have h14 : σ.bval 14 = false := hF.2.1; have h10 : σ.bval 10 = true := hF.2.2.1; have k := c; simp only [e548, e420, e356, e419, e547, e483, e546, h18, h14, h10, cond_true, cond_false] at k; exact congrArg AVal.bool k)⟩, ⟨fun hF => same_last h0 (by have h18 : σ.bval 18 = true := hF.1; have h14 : σ.bval 14 = true := hF.2.1; have h10 : σ.bval 10 = false := hF.2.2.1; have k := c; simp only [e548, e420, e356, e419, e547, e483, e546, h18, h14, h10, cond_true, cond_false] at k; exact congrArg AVal.bool k), fun hF => same_last h0 (by have h18 : σ.bval 18 = false := hF.1; have h14 : σ.bval 14 = true := hF.2.1; have h10 : σ.bval 10 = false := hF.2.2.1; have k := c; simp only [e548, e420, e356, e419, e547, e483, e546, h18, h14, h10, cond_true, cond_false] at k; exact congrArg AVal.bool k)⟩, fun hF => same_last h0 (by have h18 : σ.bval 18 = true := hF.1; have h14 : σ.bval 14 = false := hF.2.1; have h10 : σ.bval 10 = false := hF.2.2.1; have k := c; simp only [e548, e420, e356, e419, e547, e483, e546, h18, h14, h10, cond_true, cond_false] at k; exact congrArg AVal.bool k), fun hF => same_last h0 (by have h18 : σ.bval 18 = false := hF.1; have h14 : σ.bval 14 = false := hF.2.1; have h10 : σ.bval 10 = false := hF.2.2.1; have k := c; simp only [e548, e420, e356, e419, e547, e483, e546, h18, h14, h10, cond_true, cond_false] at k; exact congrArg AVal.bool k)⟩) (hkt := by kernel_rfl)
end Go.Proofs.Ytgifnmiggloclab.rp
