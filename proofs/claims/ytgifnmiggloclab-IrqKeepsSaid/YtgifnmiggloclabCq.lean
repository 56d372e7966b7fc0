/-
  The contracts of irq.Choose and of ploverref14.Choose: both give what 'choose' gives.
  No conditions.
-/
import Derived.Test.YtgifnmiggloclabChecked
import Derived.Test.YtgifnmiggloclabEwY
import Derived.ProofKit
namespace Go.Proofs.Ytgifnmiggloclab.ck
open Go.RowKit Go.Ev
set_option linter.unusedVariables false
set_option linter.unusedSimpArgs false

theorem mixed : Try.prog.follows .mixedOrders = true := Checked.mixed Try.checked

def ckIns : List Sh := [.agg [.i .u8, .i .u8], .agg [.i .i64, .i .i64, .i .i64, .i .i64, .i .i64, .i .i64, .i .i64, .i .i64], .one (.i .i64), .one (.i .i64), .one (.i .u8)]
def ckOuts : List Sh := [.one (.i .i64), .one .b]

def bitI (x : Int) (v : Nat) : Bool := decide (x / 2 ^ v % 2 = 1)
def prAt (p0 p1 p2 p3 p4 p5 p6 p7 b : Int) : Int :=
  if b = 0 then p0 else if b = 1 then p1 else if b = 2 then p2 else if b = 3 then p3 else if b = 4 then p4 else if b = 5 then p5 else if b = 6 then p6 else p7
def mayI (mask pend masked level p : Int) (v : Nat) : Bool := bitI pend v && bitI mask v && !bitI masked v && decide (p > 0) && decide (p > level)
/-- the best one, with one more looked at -/
def nextI (may : Bool) (p q b v : Int) : Int := bif may && (decide (b < 0) || decide (p > q)) then v else b


set_option maxRecDepth 100000 in
def chooseG : List SDef := [.bin .gtr (.symi .i64 11) (.int .i64 0),
  .bin .shr (.symi .u8 1) (.int .i64 0),
  .bin .and (.symi .u8 14) (.int .u8 1),
  .bin .eql (.symi .u8 15) (.int .u8 1),
  .un .not (.symb 16),
  .bin .shr (.symi .u8 0) (.int .i64 0),
  .bin .and (.symi .u8 18) (.int .u8 1),
  .bin .eql (.symi .u8 19) (.int .u8 1),
  .un .not (.symb 20),
  .bin .shr (.symi .u8 12) (.int .i64 0),
  .bin .and (.symi .u8 22) (.int .u8 1),
  .bin .eql (.symi .u8 23) (.int .u8 1),
  .un .not (.symb 24),
  .un .not (.symb 25),
  .un .not (.symb 26),
  .ite (.symb 21) (.bool false) (.symb 27),
  .ite (.symb 17) (.bool false) (.symb 28),
  .high [.int .i64 0, .symi .i64 10],
  .bin .gtr (.symi .i64 2) (.symi .i64 30),
  .ite (.symb 31) (.int .i64 0) (.int .i64 (-1)),
  .ite (.symb 29) (.symb 31) (.bool false),
  .ite (.symb 29) (.symi .i64 32) (.int .i64 (-1)),
  .bin .shr (.symi .u8 1) (.int .i64 1),
  .bin .and (.symi .u8 35) (.int .u8 1),
  .bin .eql (.symi .u8 36) (.int .u8 1),
  .un .not (.symb 37),
  .bin .shr (.symi .u8 0) (.int .i64 1),
  .bin .and (.symi .u8 39) (.int .u8 1),
  .bin .eql (.symi .u8 40) (.int .u8 1),
  .un .not (.symb 41),
  .bin .shr (.symi .u8 12) (.int .i64 1),
  .bin .and (.symi .u8 43) (.int .u8 1),
  .bin .eql (.symi .u8 44) (.int .u8 1),
  .un .not (.symb 45),
  .un .not (.symb 46),
  .un .not (.symb 47),
  .ite (.symb 42) (.bool false) (.symb 48),
  .ite (.symb 38) (.bool false) (.symb 49),
  .bin .gtr (.symi .i64 3) (.symi .i64 30),
  .un .not (.symb 33),
  .bin .gtr (.symi .i64 3) (.symi .i64 2),
  .bin .gtr (.symi .i64 3) (.symi .i64 4),
  .bin .gtr (.symi .i64 3) (.symi .i64 5),
  .bin .gtr (.symi .i64 3) (.symi .i64 6),
  .bin .gtr (.symi .i64 3) (.symi .i64 7),
  .bin .gtr (.symi .i64 3) (.symi .i64 8),
  .bin .gtr (.symi .i64 3) (.symi .i64 9),
  .bin .eql (.symi .i64 34) (.int .i64 6),
  .ite (.symb 60) (.symb 58) (.symb 59),
  .bin .eql (.symi .i64 34) (.int .i64 5),
  .ite (.symb 62) (.symb 57) (.symb 61),
  .bin .eql (.symi .i64 34) (.int .i64 4),
  .ite (.symb 64) (.symb 56) (.symb 63),
  .bin .eql (.symi .i64 34) (.int .i64 3),
  .ite (.symb 66) (.symb 55) (.symb 65),
  .bin .eql (.symi .i64 34) (.int .i64 2),
  .ite (.symb 68) (.symb 54) (.symb 67),
  .bin .eql (.symi .i64 34) (.int .i64 1),
  .ite (.symb 70) (.bool false) (.symb 69),
  .bin .eql (.symi .i64 34) (.int .i64 0),
  .ite (.symb 72) (.symb 53) (.symb 71),
  .ite (.symb 73) (.bool true) (.symb 33),
  .ite (.symb 73) (.int .i64 1) (.symi .i64 34),
  .ite (.symb 52) (.bool true) (.symb 74),
  .ite (.symb 52) (.int .i64 1) (.symi .i64 75),
  .ite (.symb 51) (.symb 76) (.symb 33),
  .ite (.symb 51) (.symi .i64 77) (.symi .i64 34),
  .ite (.symb 50) (.symb 78) (.symb 33),
  .ite (.symb 50) (.symi .i64 79) (.symi .i64 34),
  .bin .shr (.symi .u8 1) (.int .i64 2),
  .bin .and (.symi .u8 82) (.int .u8 1),
  .bin .eql (.symi .u8 83) (.int .u8 1),
  .un .not (.symb 84),
  .bin .shr (.symi .u8 0) (.int .i64 2),
  .bin .and (.symi .u8 86) (.int .u8 1),
  .bin .eql (.symi .u8 87) (.int .u8 1),
  .un .not (.symb 88),
  .bin .shr (.symi .u8 12) (.int .i64 2),
  .bin .and (.symi .u8 90) (.int .u8 1),
  .bin .eql (.symi .u8 91) (.int .u8 1),
  .un .not (.symb 92),
  .un .not (.symb 93),
  .un .not (.symb 94),
  .ite (.symb 89) (.bool false) (.symb 95),
  .ite (.symb 85) (.bool false) (.symb 96),
  .bin .gtr (.symi .i64 4) (.symi .i64 30),
  .un .not (.symb 80),
  .bin .gtr (.symi .i64 4) (.symi .i64 2),
  .bin .gtr (.symi .i64 4) (.symi .i64 3),
  .bin .gtr (.symi .i64 4) (.symi .i64 5),
  .bin .gtr (.symi .i64 4) (.symi .i64 6),
  .bin .gtr (.symi .i64 4) (.symi .i64 7),
  .bin .gtr (.symi .i64 4) (.symi .i64 8),
  .bin .gtr (.symi .i64 4) (.symi .i64 9),
  .bin .eql (.symi .i64 81) (.int .i64 6),
  .ite (.symb 107) (.symb 105) (.symb 106),
  .bin .eql (.symi .i64 81) (.int .i64 5),
  .ite (.symb 109) (.symb 104) (.symb 108),
  .bin .eql (.symi .i64 81) (.int .i64 4),
  .ite (.symb 111) (.symb 103) (.symb 110),
  .bin .eql (.symi .i64 81) (.int .i64 3),
  .ite (.symb 113) (.symb 102) (.symb 112),
  .bin .eql (.symi .i64 81) (.int .i64 2),
  .ite (.symb 115) (.bool false) (.symb 114),
  .bin .eql (.symi .i64 81) (.int .i64 1),
  .ite (.symb 117) (.symb 101) (.symb 116),
  .bin .eql (.symi .i64 81) (.int .i64 0),
  .ite (.symb 119) (.symb 100) (.symb 118),
  .ite (.symb 120) (.bool true) (.symb 80),
  .ite (.symb 120) (.int .i64 2) (.symi .i64 81),
  .ite (.symb 99) (.bool true) (.symb 121),
  .ite (.symb 99) (.int .i64 2) (.symi .i64 122),
  .ite (.symb 98) (.symb 123) (.symb 80),
  .ite (.symb 98) (.symi .i64 124) (.symi .i64 81),
  .ite (.symb 97) (.symb 125) (.symb 80),
  .ite (.symb 97) (.symi .i64 126) (.symi .i64 81),
  .bin .shr (.symi .u8 1) (.int .i64 3),
  .bin .and (.symi .u8 129) (.int .u8 1),
  .bin .eql (.symi .u8 130) (.int .u8 1),
  .un .not (.symb 131),
  .bin .shr (.symi .u8 0) (.int .i64 3),
  .bin .and (.symi .u8 133) (.int .u8 1),
  .bin .eql (.symi .u8 134) (.int .u8 1),
  .un .not (.symb 135),
  .bin .shr (.symi .u8 12) (.int .i64 3),
  .bin .and (.symi .u8 137) (.int .u8 1),
  .bin .eql (.symi .u8 138) (.int .u8 1),
  .un .not (.symb 139),
  .un .not (.symb 140),
  .un .not (.symb 141),
  .ite (.symb 136) (.bool false) (.symb 142),
  .ite (.symb 132) (.bool false) (.symb 143),
  .bin .gtr (.symi .i64 5) (.symi .i64 30),
  .un .not (.symb 127),
  .bin .gtr (.symi .i64 5) (.symi .i64 2),
  .bin .gtr (.symi .i64 5) (.symi .i64 3),
  .bin .gtr (.symi .i64 5) (.symi .i64 4),
  .bin .gtr (.symi .i64 5) (.symi .i64 6),
  .bin .gtr (.symi .i64 5) (.symi .i64 7),
  .bin .gtr (.symi .i64 5) (.symi .i64 8),
  .bin .gtr (.symi .i64 5) (.symi .i64 9),
  .bin .eql (.symi .i64 128) (.int .i64 6),
  .ite (.symb 154) (.symb 152) (.symb 153),
  .bin .eql (.symi .i64 128) (.int .i64 5),
  .ite (.symb 156) (.symb 151) (.symb 155),
  .bin .eql (.symi .i64 128) (.int .i64 4),
  .ite (.symb 158) (.symb 150) (.symb 157),
  .bin .eql (.symi .i64 128) (.int .i64 3),
  .ite (.symb 160) (.bool false) (.symb 159),
  .bin .eql (.symi .i64 128) (.int .i64 2),
  .ite (.symb 162) (.symb 149) (.symb 161),
  .bin .eql (.symi .i64 128) (.int .i64 1),
  .ite (.symb 164) (.symb 148) (.symb 163),
  .bin .eql (.symi .i64 128) (.int .i64 0),
  .ite (.symb 166) (.symb 147) (.symb 165),
  .ite (.symb 167) (.bool true) (.symb 127),
  .ite (.symb 167) (.int .i64 3) (.symi .i64 128),
  .ite (.symb 146) (.bool true) (.symb 168),
  .ite (.symb 146) (.int .i64 3) (.symi .i64 169),
  .ite (.symb 145) (.symb 170) (.symb 127),
  .ite (.symb 145) (.symi .i64 171) (.symi .i64 128),
  .ite (.symb 144) (.symb 172) (.symb 127),
  .ite (.symb 144) (.symi .i64 173) (.symi .i64 128),
  .bin .shr (.symi .u8 1) (.int .i64 4),
  .bin .and (.symi .u8 176) (.int .u8 1),
  .bin .eql (.symi .u8 177) (.int .u8 1),
  .un .not (.symb 178),
  .bin .shr (.symi .u8 0) (.int .i64 4),
  .bin .and (.symi .u8 180) (.int .u8 1),
  .bin .eql (.symi .u8 181) (.int .u8 1),
  .un .not (.symb 182),
  .bin .shr (.symi .u8 12) (.int .i64 4),
  .bin .and (.symi .u8 184) (.int .u8 1),
  .bin .eql (.symi .u8 185) (.int .u8 1),
  .un .not (.symb 186),
  .un .not (.symb 187),
  .un .not (.symb 188),
  .ite (.symb 183) (.bool false) (.symb 189),
  .ite (.symb 179) (.bool false) (.symb 190),
  .bin .gtr (.symi .i64 6) (.symi .i64 30),
  .un .not (.symb 174),
  .bin .gtr (.symi .i64 6) (.symi .i64 2),
  .bin .gtr (.symi .i64 6) (.symi .i64 3),
  .bin .gtr (.symi .i64 6) (.symi .i64 4),
  .bin .gtr (.symi .i64 6) (.symi .i64 5),
  .bin .gtr (.symi .i64 6) (.symi .i64 7),
  .bin .gtr (.symi .i64 6) (.symi .i64 8),
  .bin .gtr (.symi .i64 6) (.symi .i64 9),
  .bin .eql (.symi .i64 175) (.int .i64 6),
  .ite (.symb 201) (.symb 199) (.symb 200),
  .bin .eql (.symi .i64 175) (.int .i64 5),
  .ite (.symb 203) (.symb 198) (.symb 202),
  .bin .eql (.symi .i64 175) (.int .i64 4),
  .ite (.symb 205) (.bool false) (.symb 204),
  .bin .eql (.symi .i64 175) (.int .i64 3),
  .ite (.symb 207) (.symb 197) (.symb 206),
  .bin .eql (.symi .i64 175) (.int .i64 2),
  .ite (.symb 209) (.symb 196) (.symb 208),
  .bin .eql (.symi .i64 175) (.int .i64 1),
  .ite (.symb 211) (.symb 195) (.symb 210),
  .bin .eql (.symi .i64 175) (.int .i64 0),
  .ite (.symb 213) (.symb 194) (.symb 212),
  .ite (.symb 214) (.bool true) (.symb 174),
  .ite (.symb 214) (.int .i64 4) (.symi .i64 175),
  .ite (.symb 193) (.bool true) (.symb 215),
  .ite (.symb 193) (.int .i64 4) (.symi .i64 216),
  .ite (.symb 192) (.symb 217) (.symb 174),
  .ite (.symb 192) (.symi .i64 218) (.symi .i64 175),
  .ite (.symb 191) (.symb 219) (.symb 174),
  .ite (.symb 191) (.symi .i64 220) (.symi .i64 175),
  .bin .shr (.symi .u8 1) (.int .i64 5),
  .bin .and (.symi .u8 223) (.int .u8 1),
  .bin .eql (.symi .u8 224) (.int .u8 1),
  .un .not (.symb 225),
  .bin .shr (.symi .u8 0) (.int .i64 5),
  .bin .and (.symi .u8 227) (.int .u8 1),
  .bin .eql (.symi .u8 228) (.int .u8 1),
  .un .not (.symb 229),
  .bin .shr (.symi .u8 12) (.int .i64 5),
  .bin .and (.symi .u8 231) (.int .u8 1),
  .bin .eql (.symi .u8 232) (.int .u8 1),
  .un .not (.symb 233),
  .un .not (.symb 234),
  .un .not (.symb 235),
  .ite (.symb 230) (.bool false) (.symb 236),
  .ite (.symb 226) (.bool false) (.symb 237),
  .bin .gtr (.symi .i64 7) (.symi .i64 30),
  .un .not (.symb 221),
  .bin .gtr (.symi .i64 7) (.symi .i64 2),
  .bin .gtr (.symi .i64 7) (.symi .i64 3),
  .bin .gtr (.symi .i64 7) (.symi .i64 4),
  .bin .gtr (.symi .i64 7) (.symi .i64 5),
  .bin .gtr (.symi .i64 7) (.symi .i64 6),
  .bin .gtr (.symi .i64 7) (.symi .i64 8),
  .bin .gtr (.symi .i64 7) (.symi .i64 9),
  .bin .eql (.symi .i64 222) (.int .i64 6),
  .ite (.symb 248) (.symb 246) (.symb 247),
  .bin .eql (.symi .i64 222) (.int .i64 5),
  .ite (.symb 250) (.bool false) (.symb 249),
  .bin .eql (.symi .i64 222) (.int .i64 4),
  .ite (.symb 252) (.symb 245) (.symb 251),
  .bin .eql (.symi .i64 222) (.int .i64 3),
  .ite (.symb 254) (.symb 244) (.symb 253),
  .bin .eql (.symi .i64 222) (.int .i64 2),
  .ite (.symb 256) (.symb 243) (.symb 255),
  .bin .eql (.symi .i64 222) (.int .i64 1),
  .ite (.symb 258) (.symb 242) (.symb 257),
  .bin .eql (.symi .i64 222) (.int .i64 0),
  .ite (.symb 260) (.symb 241) (.symb 259),
  .ite (.symb 261) (.bool true) (.symb 221),
  .ite (.symb 261) (.int .i64 5) (.symi .i64 222),
  .ite (.symb 240) (.bool true) (.symb 262),
  .ite (.symb 240) (.int .i64 5) (.symi .i64 263),
  .ite (.symb 239) (.symb 264) (.symb 221),
  .ite (.symb 239) (.symi .i64 265) (.symi .i64 222),
  .ite (.symb 238) (.symb 266) (.symb 221),
  .ite (.symb 238) (.symi .i64 267) (.symi .i64 222),
  .bin .shr (.symi .u8 1) (.int .i64 6),
  .bin .and (.symi .u8 270) (.int .u8 1),
  .bin .eql (.symi .u8 271) (.int .u8 1),
  .un .not (.symb 272),
  .bin .shr (.symi .u8 0) (.int .i64 6),
  .bin .and (.symi .u8 274) (.int .u8 1),
  .bin .eql (.symi .u8 275) (.int .u8 1),
  .un .not (.symb 276),
  .bin .shr (.symi .u8 12) (.int .i64 6),
  .bin .and (.symi .u8 278) (.int .u8 1),
  .bin .eql (.symi .u8 279) (.int .u8 1),
  .un .not (.symb 280),
  .un .not (.symb 281),
  .un .not (.symb 282),
  .ite (.symb 277) (.bool false) (.symb 283),
  .ite (.symb 273) (.bool false) (.symb 284),
  .bin .gtr (.symi .i64 8) (.symi .i64 30),
  .un .not (.symb 268),
  .bin .gtr (.symi .i64 8) (.symi .i64 2),
  .bin .gtr (.symi .i64 8) (.symi .i64 3),
  .bin .gtr (.symi .i64 8) (.symi .i64 4),
  .bin .gtr (.symi .i64 8) (.symi .i64 5),
  .bin .gtr (.symi .i64 8) (.symi .i64 6),
  .bin .gtr (.symi .i64 8) (.symi .i64 7),
  .bin .gtr (.symi .i64 8) (.symi .i64 9),
  .bin .eql (.symi .i64 269) (.int .i64 6),
  .ite (.symb 295) (.bool false) (.symb 294),
  .bin .eql (.symi .i64 269) (.int .i64 5),
  .ite (.symb 297) (.symb 293) (.symb 296),
  .bin .eql (.symi .i64 269) (.int .i64 4),
  .ite (.symb 299) (.symb 292) (.symb 298),
  .bin .eql (.symi .i64 269) (.int .i64 3),
  .ite (.symb 301) (.symb 291) (.symb 300),
  .bin .eql (.symi .i64 269) (.int .i64 2),
  .ite (.symb 303) (.symb 290) (.symb 302),
  .bin .eql (.symi .i64 269) (.int .i64 1),
  .ite (.symb 305) (.symb 289) (.symb 304),
  .bin .eql (.symi .i64 269) (.int .i64 0),
  .ite (.symb 307) (.symb 288) (.symb 306),
  .ite (.symb 308) (.bool true) (.symb 268),
  .ite (.symb 308) (.int .i64 6) (.symi .i64 269),
  .ite (.symb 287) (.bool true) (.symb 309),
  .ite (.symb 287) (.int .i64 6) (.symi .i64 310),
  .ite (.symb 286) (.symb 311) (.symb 268),
  .ite (.symb 286) (.symi .i64 312) (.symi .i64 269),
  .ite (.symb 285) (.symb 313) (.symb 268),
  .ite (.symb 285) (.symi .i64 314) (.symi .i64 269),
  .bin .shr (.symi .u8 1) (.int .i64 7),
  .bin .and (.symi .u8 317) (.int .u8 1),
  .bin .eql (.symi .u8 318) (.int .u8 1),
  .un .not (.symb 319),
  .bin .shr (.symi .u8 0) (.int .i64 7),
  .bin .and (.symi .u8 321) (.int .u8 1),
  .bin .eql (.symi .u8 322) (.int .u8 1),
  .un .not (.symb 323),
  .bin .shr (.symi .u8 12) (.int .i64 7),
  .bin .and (.symi .u8 325) (.int .u8 1),
  .bin .eql (.symi .u8 326) (.int .u8 1),
  .un .not (.symb 327),
  .un .not (.symb 328),
  .un .not (.symb 329),
  .ite (.symb 324) (.bool false) (.symb 330),
  .ite (.symb 320) (.bool false) (.symb 331),
  .bin .gtr (.symi .i64 9) (.symi .i64 30),
  .un .not (.symb 315),
  .bin .gtr (.symi .i64 9) (.symi .i64 2),
  .bin .gtr (.symi .i64 9) (.symi .i64 3),
  .bin .gtr (.symi .i64 9) (.symi .i64 4),
  .bin .gtr (.symi .i64 9) (.symi .i64 5),
  .bin .gtr (.symi .i64 9) (.symi .i64 6),
  .bin .gtr (.symi .i64 9) (.symi .i64 7),
  .bin .gtr (.symi .i64 9) (.symi .i64 8),
  .bin .eql (.symi .i64 316) (.int .i64 6),
  .ite (.symb 342) (.symb 341) (.bool false),
  .bin .eql (.symi .i64 316) (.int .i64 5),
  .ite (.symb 344) (.symb 340) (.symb 343),
  .bin .eql (.symi .i64 316) (.int .i64 4),
  .ite (.symb 346) (.symb 339) (.symb 345),
  .bin .eql (.symi .i64 316) (.int .i64 3),
  .ite (.symb 348) (.symb 338) (.symb 347),
  .bin .eql (.symi .i64 316) (.int .i64 2),
  .ite (.symb 350) (.symb 337) (.symb 349),
  .bin .eql (.symi .i64 316) (.int .i64 1),
  .ite (.symb 352) (.symb 336) (.symb 351),
  .bin .eql (.symi .i64 316) (.int .i64 0),
  .ite (.symb 354) (.symb 335) (.symb 353),
  .ite (.symb 355) (.int .i64 7) (.symi .i64 316),
  .ite (.symb 334) (.int .i64 7) (.symi .i64 356),
  .ite (.symb 333) (.symi .i64 357) (.symi .i64 316),
  .ite (.symb 332) (.symi .i64 358) (.symi .i64 316),
  .bin .geq (.symi .i64 359) (.int .i64 0)]

set_option maxRecDepth 100000 in
def chooseT : LT := .n (.n (.n (.n (.n (.n (.n (.n (.n (.e) 10380 18 (.bin .shr (.symi .u8 0) (.int .i64 0)) (.e)) 60415 39 (.bin .shr (.symi .u8 0) (.int .i64 1)) (.e)) 110450 86 (.bin .shr (.symi .u8 0) (.int .i64 2)) (.n (.n (.e) 160485 133 (.bin .shr (.symi .u8 0) (.int .i64 3)) (.e)) 210520 180 (.bin .shr (.symi .u8 0) (.int .i64 4)) (.e))) 260555 227 (.bin .shr (.symi .u8 0) (.int .i64 5)) (.n (.n (.n (.e) 310590 274 (.bin .shr (.symi .u8 0) (.int .i64 6)) (.e)) 360625 321 (.bin .shr (.symi .u8 0) (.int .i64 7)) (.e)) 7041184 125 (.ite (.symb 98) (.symb 123) (.symb 80)) (.n (.e) 7809143 320 (.un .not (.symb 319)) (.e)))) 9084379 263 (.ite (.symb 261) (.int .i64 5) (.symi .i64 222)) (.n (.n (.n (.n (.e) 12460454 235 (.un .not (.symb 234)) (.e)) 14176374 32 (.ite (.symb 31) (.int .i64 0) (.int .i64 (-1))) (.e)) 16996977 100 (.bin .gtr (.symi .i64 4) (.symi .i64 2)) (.n (.n (.e) 22649308 315 (.ite (.symb 285) (.symb 313) (.symb 268)) (.e)) 27504213 182 (.bin .eql (.symi .u8 181) (.int .u8 1)) (.e))) 30635094 152 (.bin .gtr (.symi .i64 5) (.symi .i64 8)) (.n (.n (.n (.e) 33963518 290 (.bin .gtr (.symi .i64 8) (.symi .i64 4)) (.e)) 37271928 13 (.bin .gtr (.symi .i64 11) (.int .i64 0)) (.e)) 43147254 166 (.bin .eql (.symi .i64 128) (.int .i64 0)) (.n (.e) 43197289 164 (.bin .eql (.symi .i64 128) (.int .i64 1)) (.e))))) 43247324 162 (.bin .eql (.symi .i64 128) (.int .i64 2)) (.n (.n (.n (.n (.n (.e) 43297359 160 (.bin .eql (.symi .i64 128) (.int .i64 3)) (.e)) 43347394 158 (.bin .eql (.symi .i64 128) (.int .i64 4)) (.e)) 43397429 156 (.bin .eql (.symi .i64 128) (.int .i64 5)) (.n (.n (.e) 43447464 154 (.bin .eql (.symi .i64 128) (.int .i64 6)) (.e)) 48106108 44 (.bin .and (.symi .u8 43) (.int .u8 1)) (.e))) 59781144 265 (.ite (.symb 240) (.int .i64 5) (.symi .i64 263)) (.n (.n (.n (.e) 60355478 33 (.ite (.symb 29) (.symb 31) (.bool false)) (.e)) 68221021 145 (.bin .gtr (.symi .i64 5) (.symi .i64 30)) (.e)) 73965498 79 (.ite (.symb 51) (.symi .i64 77) (.symi .i64 34)) (.n (.e) 74583399 23 (.bin .and (.symi .u8 22) (.int .u8 1)) (.e)))) 75549934 225 (.bin .eql (.symi .u8 224) (.int .u8 1)) (.n (.n (.n (.n (.e) 79632280 161 (.ite (.symb 160) (.bool false) (.symb 159)) (.e)) 80820262 140 (.un .not (.symb 139)) (.e)) 87872682 269 (.ite (.symb 238) (.symi .i64 267) (.symi .i64 222)) (.n (.n (.e) 91282728 340 (.bin .gtr (.symi .i64 9) (.symi .i64 7)) (.e)) 95201833 358 (.ite (.symb 333) (.symi .i64 357) (.symi .i64 316)) (.e))) 96151829 87 (.bin .and (.symi .u8 86) (.int .u8 1)) (.n (.n (.n (.e) 98117740 74 (.ite (.symb 73) (.bool true) (.symb 33)) (.e)) 101010683 14 (.bin .shr (.symi .u8 1) (.int .i64 0)) (.e)) 101060718 35 (.bin .shr (.symi .u8 1) (.int .i64 1)) (.n (.e) 101090815 167 (.ite (.symb 166) (.symb 147) (.symb 165)) (.e)))))) 101110753 82 (.bin .shr (.symi .u8 1) (.int .i64 2)) (.n (.n (.n (.n (.n (.n (.e) 101160788 129 (.bin .shr (.symi .u8 1) (.int .i64 3)) (.e)) 101210823 176 (.bin .shr (.symi .u8 1) (.int .i64 4)) (.e)) 101260858 223 (.bin .shr (.symi .u8 1) (.int .i64 5)) (.n (.n (.e) 101310893 270 (.bin .shr (.symi .u8 1) (.int .i64 6)) (.e)) 101360928 317 (.bin .shr (.symi .u8 1) (.int .i64 7)) (.e))) 105197693 359 (.ite (.symb 332) (.symi .i64 358) (.symi .i64 316)) (.n (.n (.n (.e) 111885234 52 (.un .not (.symb 33)) (.e)) 113463787 236 (.un .not (.symb 235)) (.e)) 114376149 208 (.ite (.symb 207) (.symb 197) (.symb 206)) (.n (.e) 117997280 147 (.bin .gtr (.symi .i64 5) (.symi .i64 2)) (.e)))) 122053689 61 (.ite (.symb 60) (.symb 58) (.symb 59)) (.n (.n (.n (.n (.e) 128996273 183 (.un .not (.symb 182)) (.e)) 131635397 199 (.bin .gtr (.symi .i64 6) (.symi .i64 8)) (.e)) 134963821 337 (.bin .gtr (.symi .i64 9) (.symi .i64 4)) (.n (.n (.e) 135248944 259 (.ite (.symb 258) (.symb 242) (.symb 257)) (.e)) 138272189 22 (.bin .shr (.symi .u8 12) (.int .i64 0)) (.e))) 138322224 43 (.bin .shr (.symi .u8 12) (.int .i64 1)) (.n (.n (.n (.e) 138372259 90 (.bin .shr (.symi .u8 12) (.int .i64 2)) (.e)) 138422294 137 (.bin .shr (.symi .u8 12) (.int .i64 3)) (.e)) 138472329 184 (.bin .shr (.symi .u8 12) (.int .i64 4)) (.n (.e) 138522364 231 (.bin .shr (.symi .u8 12) (.int .i64 5)) (.e))))) 138572399 278 (.bin .shr (.symi .u8 12) (.int .i64 6)) (.n (.n (.n (.n (.n (.e) 138622434 325 (.bin .shr (.symi .u8 12) (.int .i64 7)) (.e)) 142926484 112 (.ite (.symb 111) (.symb 103) (.symb 110)) (.e)) 144197550 130 (.bin .and (.symi .u8 129) (.int .u8 1)) (.n (.n (.e) 148534278 300 (.ite (.symb 299) (.symb 292) (.symb 298)) (.e)) 148771165 29 (.ite (.symb 17) (.bool false) (.symb 28)) (.e))) 149000235 76 (.ite (.symb 52) (.bool true) (.symb 74)) (.n (.n (.n (.e) 149106453 45 (.bin .eql (.symi .u8 44) (.int .u8 1)) (.e)) 160857119 279 (.bin .and (.symi .u8 278) (.int .u8 1)) (.e)) 161039551 314 (.ite (.symb 286) (.symi .i64 312) (.symi .i64 269)) (.n (.e) 166046431 127 (.ite (.symb 97) (.symb 125) (.symb 80)) (.e)))) 169221324 192 (.bin .gtr (.symi .i64 6) (.symi .i64 30)) (.n (.n (.n (.n (.e) 169407073 351 (.ite (.symb 350) (.symb 337) (.symb 349)) (.e)) 171988066 59 (.bin .gtr (.symi .i64 3) (.symi .i64 9)) (.e)) 175316490 197 (.bin .gtr (.symi .i64 6) (.symi .i64 5)) (.n (.n (.e) 175583744 24 (.bin .eql (.symi .u8 23) (.int .u8 1)) (.e)) 177084613 204 (.ite (.symb 203) (.symb 198) (.symb 202)) (.e))) 177172284 226 (.un .not (.symb 225)) (.n (.n (.n (.e) 181823595 141 (.un .not (.symb 140)) (.e)) 187277684 215 (.ite (.symb 214) (.bool true) (.symb 174)) (.e)) 197152174 88 (.bin .eql (.symi .u8 87) (.int .u8 1)) (.n (.e) 201534538 49 (.ite (.symb 42) (.bool false) (.symb 48)) (.e))))))) 208902840 322 (.bin .and (.symi .u8 321) (.int .u8 1)) (.n (.n (.n (.n (.n (.n (.n (.e) 209214494 34 (.ite (.symb 29) (.symi .i64 32) (.int .i64 (-1))) (.e)) 212795215 72 (.bin .eql (.symi .i64 34) (.int .i64 0)) (.e)) 212845250 70 (.bin .eql (.symi .i64 34) (.int .i64 1)) (.n (.n (.e) 212895285 68 (.bin .eql (.symi .i64 34) (.int .i64 2)) (.e)) 212945320 66 (.bin .eql (.symi .i64 34) (.int .i64 3)) (.e))) 212995355 64 (.bin .eql (.symi .i64 34) (.int .i64 4)) (.n (.n (.n (.e) 213045390 62 (.bin .eql (.symi .i64 34) (.int .i64 5)) (.e)) 213095425 60 (.bin .eql (.symi .i64 34) (.int .i64 6)) (.e)) 213875078 144 (.ite (.symb 132) (.bool false) (.symb 143)) (.n (.e) 215669159 56 (.bin .gtr (.symi .i64 3) (.symi .i64 6)) (.e)))) 218997583 194 (.bin .gtr (.symi .i64 6) (.symi .i64 2)) (.n (.n (.n (.n (.e) 225348295 287 (.un .not (.symb 268)) (.e)) 232635700 246 (.bin .gtr (.symi .i64 7) (.symi .i64 8)) (.e)) 232961805 81 (.ite (.symb 50) (.symi .i64 79) (.symi .i64 34)) (.n (.n (.e) 238160179 217 (.ite (.symb 193) (.bool true) (.symb 215)) (.e)) 239627360 172 (.ite (.symb 145) (.symb 170) (.symb 127)) (.e))) 245161006 206 (.ite (.symb 205) (.bool false) (.symb 204)) (.n (.n (.n (.e) 245197895 131 (.bin .eql (.symi .u8 130) (.int .u8 1)) (.e)) 248967056 75 (.ite (.symb 73) (.int .i64 1) (.symi .i64 34)) (.e)) 250183403 46 (.un .not (.symb 45)) (.n (.e) 261857464 280 (.bin .eql (.symi .u8 279) (.int .u8 1)) (.e))))) 270221627 239 (.bin .gtr (.symi .i64 7) (.symi .i64 30)) (.n (.n (.n (.n (.n (.e) 272988369 106 (.bin .gtr (.symi .i64 4) (.symi .i64 9)) (.e)) 276316793 244 (.bin .gtr (.symi .i64 7) (.symi .i64 5)) (.e)) 276597064 25 (.un .not (.symb 24)) (.n (.n (.e) 282826928 142 (.un .not (.symb 141)) (.e)) 290694482 190 (.ite (.symb 183) (.bool false) (.symb 189)) (.e))) 298359414 89 (.un .not (.symb 88)) (.n (.n (.n (.e) 299663821 77 (.ite (.symb 52) (.int .i64 1) (.symi .i64 75)) (.e)) 303035022 285 (.ite (.symb 273) (.bool false) (.symb 284)) (.e)) 306128674 126 (.ite (.symb 98) (.symi .i64 124) (.symi .i64 81)) (.n (.e) 309903185 323 (.bin .eql (.symi .u8 322) (.int .u8 1)) (.e)))) 312804196 163 (.ite (.symb 162) (.symb 149) (.symb 161)) (.n (.n (.n (.n (.e) 313845511 36 (.bin .and (.symi .u8 35) (.int .u8 1)) (.e)) 316669462 103 (.bin .gtr (.symi .i64 4) (.symi .i64 6)) (.e)) 319997886 241 (.bin .gtr (.symi .i64 7) (.symi .i64 2)) (.n (.n (.e) 320035858 316 (.ite (.symb 285) (.symi .i64 314) (.symi .i64 269)) (.e)) 325546226 307 (.bin .eql (.symi .i64 269) (.int .i64 0)) (.e))) 325596261 305 (.bin .eql (.symi .i64 269) (.int .i64 1)) (.n (.n (.n (.e) 325646296 303 (.bin .eql (.symi .i64 269) (.int .i64 2)) (.e)) 325696331 301 (.bin .eql (.symi .i64 269) (.int .i64 3)) (.e)) 325710266 357 (.ite (.symb 334) (.int .i64 7) (.symi .i64 356)) (.n (.e) 325746366 299 (.bin .eql (.symi .i64 269) (.int .i64 4)) (.e)))))) 325796401 297 (.bin .eql (.symi .i64 269) (.int .i64 5)) (.n (.n (.n (.n (.n (.n (.e) 325846436 295 (.bin .eql (.symi .i64 269) (.int .i64 6)) (.e)) 330505080 185 (.bin .and (.symi .u8 184) (.int .u8 1)) (.e)) 333676991 214 (.ite (.symb 213) (.symb 194) (.symb 212)) (.n (.n (.e) 337490505 216 (.ite (.symb 214) (.int .i64 4) (.symi .i64 175)) (.e)) 340322802 15 (.bin .and (.symi .u8 14) (.int .u8 1)) (.e))) 341354531 67 (.ite (.symb 66) (.symb 55) (.symb 65)) (.n (.n (.n (.e) 346535425 132 (.un .not (.symb 131)) (.e)) 346962325 255 (.ite (.symb 254) (.symb 244) (.symb 253)) (.e)) 351186736 47 (.un .not (.symb 46)) (.n (.e) 354639865 108 (.ite (.symb 107) (.symb 105) (.symb 106)) (.e)))) 360350555 101 (.bin .gtr (.symi .i64 4) (.symi .i64 3)) (.n (.n (.n (.n (.e) 363646464 281 (.un .not (.symb 280)) (.e)) 367835120 306 (.ite (.symb 305) (.symb 289) (.symb 304)) (.e)) 371221930 286 (.bin .gtr (.symi .i64 8) (.symi .i64 30)) (.n (.n (.e) 373988672 153 (.bin .gtr (.symi .i64 5) (.symi .i64 9)) (.e)) 375512660 159 (.ite (.symb 158) (.symb 150) (.symb 157)) (.e))) 377317096 291 (.bin .gtr (.symi .i64 8) (.symi .i64 5)) (.n (.n (.n (.e) 377600397 26 (.un .not (.symb 25)) (.e)) 378550801 228 (.bin .and (.symi .u8 227) (.int .u8 1)) (.e)) 379854426 331 (.ite (.symb 324) (.bool false) (.symb 330)) (.n (.e) 381120454 347 (.ite (.symb 346) (.symb 339) (.symb 345)) (.e))))) 388187270 218 (.ite (.symb 193) (.int .i64 4) (.symi .i64 216)) (.n (.n (.n (.n (.n (.e) 394711436 193 (.un .not (.symb 174)) (.e)) 398632607 174 (.ite (.symb 144) (.symb 172) (.symb 127)) (.e)) 410689732 251 (.ite (.symb 250) (.bool false) (.symb 249)) (.n (.n (.e) 411822475 324 (.un .not (.symb 323)) (.e)) 414845856 37 (.bin .eql (.symi .u8 36) (.int .u8 1)) (.e))) 417669765 150 (.bin .gtr (.symi .i64 5) (.symi .i64 6)) (.n (.n (.n (.e) 420998189 288 (.bin .gtr (.symi .i64 8) (.symi .i64 2)) (.e)) 426013954 356 (.ite (.symb 355) (.int .i64 7) (.symi .i64 316)) (.e)) 426596522 271 (.bin .and (.symi .u8 270) (.int .u8 1)) (.n (.e) 431505425 186 (.bin .eql (.symi .u8 185) (.int .u8 1)) (.e)))) 434636306 341 (.bin .gtr (.symi .i64 9) (.symi .i64 8)) (.n (.n (.n (.n (.e) 441323147 16 (.bin .eql (.symi .u8 15) (.int .u8 1)) (.e)) 452190069 48 (.un .not (.symb 47)) (.e)) 461350858 148 (.bin .gtr (.symi .i64 5) (.symi .i64 3)) (.n (.e) 464649797 282 (.un .not (.symb 281)) (.e))) 465124981 128 (.ite (.symb 97) (.symi .i64 126) (.symi .i64 81)) (.n (.n (.n (.e) 472213536 219 (.ite (.symb 192) (.symb 217) (.symb 174)) (.e)) 472222233 333 (.bin .gtr (.symi .i64 9) (.symi .i64 30)) (.e)) 474988975 200 (.bin .gtr (.symi .i64 6) (.symi .i64 9)) (.n (.e) 478317399 338 (.bin .gtr (.symi .i64 9) (.symi .i64 5)) (.e)))))))) 478603730 27 (.un .not (.symb 26)) (.n (.n (.n (.n (.n (.n (.n (.n (.e) 479551146 229 (.bin .eql (.symi .u8 228) (.int .u8 1)) (.e)) 495194187 213 (.bin .eql (.symi .i64 175) (.int .i64 0)) (.e)) 495244222 211 (.bin .eql (.symi .i64 175) (.int .i64 1)) (.n (.n (.e) 495294257 209 (.bin .eql (.symi .i64 175) (.int .i64 2)) (.e)) 495344292 207 (.bin .eql (.symi .i64 175) (.int .i64 3)) (.e))) 495394327 205 (.bin .eql (.symi .i64 175) (.int .i64 4)) (.n (.n (.n (.e) 495444362 203 (.bin .eql (.symi .i64 175) (.int .i64 5)) (.e)) 495494397 201 (.bin .eql (.symi .i64 175) (.int .i64 6)) (.e)) 500153041 91 (.bin .and (.symi .u8 90) (.int .u8 1)) (.n (.e) 504219759 30 (.high [.int .i64 0, .symi .i64 10]) (.e)))) 511232243 118 (.ite (.symb 117) (.symb 101) (.symb 116)) (.n (.n (.n (.n (.e) 515471645 168 (.ite (.symb 167) (.bool true) (.symb 127)) (.e)) 515898566 38 (.un .not (.symb 37)) (.e)) 521998492 335 (.bin .gtr (.symi .i64 9) (.symi .i64 2)) (.n (.n (.e) 527596867 272 (.bin .eql (.symi .u8 271) (.int .u8 1)) (.e)) 533009605 187 (.un .not (.symb 186)) (.e))) 538291850 173 (.ite (.symb 145) (.symi .i64 171) (.symi .i64 128)) (.n (.n (.n (.e) 542069039 97 (.ite (.symb 85) (.bool false) (.symb 96)) (.e)) 542312227 17 (.un .not (.symb 16)) (.e)) 545390372 210 (.ite (.symb 209) (.symb 196) (.symb 208)) (.n (.e) 548198762 134 (.bin .and (.symi .u8 133) (.int .u8 1)) (.e))))) 553067912 63 (.ite (.symb 62) (.symb 57) (.symb 61)) (.n (.n (.n (.n (.n (.e) 553784530 28 (.ite (.symb 21) (.bool false) (.symb 27)) (.e)) 559022737 57 (.bin .gtr (.symi .i64 3) (.symi .i64 7)) (.e)) 562351161 195 (.bin .gtr (.symi .i64 6) (.symi .i64 3)) (.n (.n (.e) 564074577 99 (.un .not (.symb 80)) (.e)) 565653130 283 (.un .not (.symb 282)) (.e))) 566263167 261 (.ite (.symb 260) (.symb 241) (.symb 259)) (.n (.n (.n (.e) 566354140 170 (.ite (.symb 146) (.bool true) (.symb 168)) (.e)) 573940707 114 (.ite (.symb 113) (.symb 102) (.symb 112)) (.e)) 575989278 247 (.bin .gtr (.symi .i64 7) (.symi .i64 9)) (.n (.e) 576218458 296 (.ite (.symb 295) (.bool false) (.symb 294)) (.e)))) 579548501 302 (.ite (.symb 301) (.symb 291) (.symb 300)) (.n (.n (.n (.n (.e) 581185616 230 (.un .not (.symb 229)) (.e)) 587226041 155 (.ite (.symb 154) (.symb 152) (.symb 153)) (.e)) 596244483 177 (.bin .and (.symi .u8 176) (.int .u8 1)) (.n (.n (.e) 600421296 353 (.ite (.symb 352) (.symb 336) (.symb 351)) (.e)) 601153386 92 (.bin .eql (.symi .u8 91) (.int .u8 1)) (.e))) 602703830 54 (.bin .gtr (.symi .i64 3) (.symi .i64 4)) (.n (.n (.n (.e) 604631589 309 (.ite (.symb 308) (.bool true) (.symb 268)) (.e)) 612904052 326 (.bin .and (.symi .u8 325) (.int .u8 1)) (.e)) 618888443 143 (.ite (.symb 136) (.bool false) (.symb 142)) (.n (.e) 619670371 245 (.bin .gtr (.symi .i64 7) (.symi .i64 6)) (.e)))))) 629361627 273 (.un .not (.symb 272)) (.n (.n (.n (.n (.n (.n (.e) 631218783 221 (.ite (.symb 191) (.symb 219) (.symb 174)) (.e)) 631228983 238 (.ite (.symb 226) (.bool false) (.symb 237)) (.e)) 634012938 188 (.un .not (.symb 187)) (.n (.n (.e) 639743838 343 (.ite (.symb 342) (.symb 341) (.bool false)) (.e)) 649199107 135 (.bin .eql (.symi .u8 134) (.int .u8 1)) (.e))) 655514084 311 (.ite (.symb 287) (.bool true) (.symb 309)) (.n (.n (.n (.e) 660023040 104 (.bin .gtr (.symi .i64 4) (.symi .i64 7)) (.e)) 663351464 242 (.bin .gtr (.symi .i64 7) (.symi .i64 3)) (.e)) 664842148 119 (.bin .eql (.symi .i64 81) (.int .i64 0)) (.n (.e) 664892183 117 (.bin .eql (.symi .i64 81) (.int .i64 1)) (.e)))) 664942218 115 (.bin .eql (.symi .i64 81) (.int .i64 2)) (.n (.n (.n (.n (.e) 664992253 113 (.bin .eql (.symi .i64 81) (.int .i64 3)) (.e)) 665042288 111 (.bin .eql (.symi .i64 81) (.int .i64 4)) (.e)) 665092323 109 (.bin .eql (.symi .i64 81) (.int .i64 5)) (.n (.n (.e) 665142358 107 (.bin .eql (.symi .i64 81) (.int .i64 6)) (.e)) 665896631 169 (.ite (.symb 167) (.int .i64 3) (.symi .i64 128)) (.e))) 676989581 294 (.bin .gtr (.symi .i64 8) (.symi .i64 9)) (.n (.n (.n (.e) 677537638 334 (.un .not (.symb 315)) (.e)) 697244828 178 (.bin .eql (.symi .u8 177) (.int .u8 1)) (.e)) 697288157 175 (.ite (.symb 144) (.symi .i64 173) (.symi .i64 128)) (.n (.e) 702372746 93 (.un .not (.symb 92)) (.e))))) 704799712 266 (.ite (.symb 239) (.symb 264) (.symb 221)) (.n (.n (.n (.n (.n (.e) 708048387 284 (.ite (.symb 277) (.bool false) (.symb 283)) (.e)) 709660290 73 (.ite (.symb 72) (.symb 53) (.symb 71)) (.e)) 713904397 327 (.bin .eql (.symi .u8 326) (.int .u8 1)) (.n (.n (.e) 716593396 171 (.ite (.symb 146) (.int .i64 3) (.symi .i64 169)) (.e)) 717846723 40 (.bin .and (.symi .u8 39) (.int .u8 1)) (.e))) 720670674 292 (.bin .gtr (.symi .i64 8) (.symi .i64 6)) (.n (.n (.n (.e) 735016271 189 (.un .not (.symb 188)) (.e)) 743818419 165 (.ite (.symb 164) (.symb 148) (.symb 163)) (.e)) 744324014 19 (.bin .and (.symi .u8 18) (.int .u8 1)) (.n (.e) 750548757 136 (.un .not (.symb 135)) (.e)))) 754420080 310 (.ite (.symb 308) (.int .i64 6) (.symi .i64 269)) (.n (.n (.n (.n (.e) 761023343 151 (.bin .gtr (.symi .i64 5) (.symi .i64 7)) (.e)) 764351767 289 (.bin .gtr (.symi .i64 8) (.symi .i64 3)) (.e)) 765892444 83 (.bin .and (.symi .u8 82) (.int .u8 1)) (.n (.e) 770455026 220 (.ite (.symb 192) (.symi .i64 218) (.symi .i64 175)) (.e))) 772368754 69 (.ite (.symb 68) (.symb 54) (.symb 67)) (.n (.n (.n (.e) 777593159 354 (.bin .eql (.symi .i64 316) (.int .i64 0)) (.e)) 777643194 352 (.bin .eql (.symi .i64 316) (.int .i64 1)) (.e)) 777693229 350 (.bin .eql (.symi .i64 316) (.int .i64 2)) (.n (.e) 777743264 348 (.bin .eql (.symi .i64 316) (.int .i64 3)) (.e))))))) 777793299 346 (.bin .eql (.symi .i64 316) (.int .i64 4)) (.n (.n (.n (.n (.n (.n (.n (.e) 777843334 344 (.bin .eql (.symi .i64 316) (.int .i64 5)) (.e)) 777893369 342 (.bin .eql (.symi .i64 316) (.int .i64 6)) (.e)) 777976548 257 (.ite (.symb 256) (.symb 243) (.symb 255)) (.n (.n (.e) 782552013 232 (.bin .and (.symi .u8 231) (.int .u8 1)) (.e)) 785654088 110 (.ite (.symb 109) (.symb 104) (.symb 108)) (.e))) 791261882 298 (.ite (.symb 297) (.symb 293) (.symb 296)) (.n (.n (.n (.e) 798724768 179 (.un .not (.symb 178)) (.e)) 798849343 308 (.ite (.symb 307) (.symb 288) (.symb 306)) (.e)) 803376079 94 (.un .not (.symb 93)) (.n (.e) 804704436 149 (.bin .gtr (.symi .i64 5) (.symi .i64 4)) (.e)))) 805116845 312 (.ite (.symb 287) (.int .i64 6) (.symi .i64 310)) (.n (.n (.n (.n (.e) 812134677 349 (.ite (.symb 348) (.symb 338) (.symb 347)) (.e)) 815835807 328 (.un .not (.symb 327)) (.e)) 818847068 41 (.bin .eql (.symi .u8 40) (.int .u8 1)) (.n (.n (.e) 819812217 202 (.ite (.symb 201) (.symb 199) (.symb 200)) (.e)) 821670977 339 (.bin .gtr (.symi .i64 9) (.symi .i64 6)) (.e))) 822316655 71 (.ite (.symb 70) (.bool false) (.symb 69)) (.n (.n (.n (.e) 825638915 360 (.bin .geq (.symi .i64 359) (.int .i64 0)) (.e)) 830597734 275 (.bin .and (.symi .u8 274) (.int .u8 1)) (.e)) 838961939 31 (.bin .gtr (.symi .i64 2) (.symi .i64 30)) (.n (.e) 843665606 121 (.ite (.symb 120) (.bool true) (.symb 80)) (.e))))) 845324359 20 (.bin .eql (.symi .u8 19) (.int .u8 1)) (.n (.n (.n (.n (.n (.e) 846900779 240 (.un .not (.symb 221)) (.e)) 848196835 78 (.ite (.symb 51) (.symb 76) (.symb 33)) (.e)) 862023646 198 (.bin .gtr (.symi .i64 6) (.symi .i64 7)) (.n (.n (.e) 863804959 268 (.ite (.symb 238) (.symb 266) (.symb 221)) (.e)) 865352070 336 (.bin .gtr (.symi .i64 9) (.symi .i64 3)) (.e))) 866892789 84 (.bin .eql (.symi .u8 83) (.int .u8 1)) (.n (.n (.n (.e) 870263000 50 (.ite (.symb 38) (.bool false) (.symb 49)) (.e)) 878643455 318 (.bin .and (.symi .u8 317) (.int .u8 1)) (.e)) 883552358 233 (.bin .eql (.symi .u8 232) (.int .u8 1)) (.n (.e) 894548101 123 (.ite (.symb 99) (.bool true) (.symb 121)) (.e)))) 902376315 58 (.bin .gtr (.symi .i64 3) (.symi .i64 8)) (.n (.n (.n (.n (.e) 904379412 95 (.un .not (.symb 94)) (.e)) 905704739 196 (.bin .gtr (.symi .i64 6) (.symi .i64 4)) (.e)) 916839140 329 (.un .not (.symb 328)) (.n (.n (.e) 919911898 42 (.un .not (.symb 41)) (.e)) 929451333 222 (.ite (.symb 191) (.symi .i64 220) (.symi .i64 175)) (.e))) 931598079 276 (.bin .eql (.symi .u8 275) (.int .u8 1)) (.n (.n (.n (.e) 932825550 262 (.ite (.symb 261) (.bool true) (.symb 221)) (.e)) 937385888 313 (.ite (.symb 286) (.symb 311) (.symb 268)) (.e)) 939962242 51 (.bin .gtr (.symi .i64 3) (.symi .i64 30)) (.n (.e) 942246466 120 (.ite (.symb 119) (.symb 100) (.symb 118)) (.e)))))) 946057408 55 (.bin .gtr (.symi .i64 3) (.symi .i64 5)) (.n (.n (.n (.n (.n (.n (.e) 946325559 21 (.un .not (.symb 20)) (.e)) 947082404 96 (.ite (.symb 89) (.bool false) (.symb 95)) (.e)) 947241120 260 (.bin .eql (.symi .i64 222) (.int .i64 0)) (.n (.n (.e) 947291155 258 (.bin .eql (.symi .i64 222) (.int .i64 1)) (.e)) 947341190 256 (.bin .eql (.symi .i64 222) (.int .i64 2)) (.e))) 947391225 254 (.bin .eql (.symi .i64 222) (.int .i64 3)) (.n (.n (.n (.e) 947441260 252 (.bin .eql (.symi .i64 222) (.int .i64 4)) (.e)) 947491295 250 (.bin .eql (.symi .i64 222) (.int .i64 5)) (.e)) 947541330 248 (.bin .eql (.symi .i64 222) (.int .i64 6)) (.n (.e) 952199974 138 (.bin .and (.symi .u8 137) (.int .u8 1)) (.e)))) 959422944 191 (.ite (.symb 179) (.bool false) (.symb 190)) (.n (.n (.n (.n (.e) 968087909 85 (.un .not (.symb 84)) (.e)) 976404595 212 (.ite (.symb 211) (.symb 195) (.symb 210)) (.e)) 979643800 319 (.bin .eql (.symi .u8 318) (.int .u8 1)) (.n (.n (.e) 983708045 264 (.ite (.symb 240) (.bool true) (.symb 262)) (.e)) 984082135 65 (.ite (.symb 64) (.symb 56) (.symb 63)) (.e))) 985198948 234 (.un .not (.symb 233)) (.n (.n (.n (.e) 987845381 116 (.ite (.symb 115) (.bool false) (.symb 114)) (.e)) 989689929 253 (.ite (.symb 252) (.symb 245) (.symb 251)) (.e)) 989738501 53 (.bin .gtr (.symi .i64 3) (.symi .i64 2)) (.n (.e) 994302757 122 (.ite (.symb 120) (.int .i64 2) (.symi .i64 81)) (.e))))) 1000245695 181 (.bin .and (.symi .u8 180) (.int .u8 1)) (.n (.n (.n (.n (.n (.e) 1002618202 267 (.ite (.symb 239) (.symi .i64 265) (.symi .i64 222)) (.e)) 1003376618 105 (.bin .gtr (.symi .i64 4) (.symi .i64 8)) (.e)) 1006705042 243 (.bin .gtr (.symi .i64 7) (.symi .i64 4)) (.n (.n (.e) 1007202082 80 (.ite (.symb 50) (.symb 78) (.symb 33)) (.e)) 1010562724 304 (.ite (.symb 303) (.symb 290) (.symb 302)) (.e))) 1016263920 146 (.un .not (.symb 127)) (.n (.n (.n (.e) 1017842473 330 (.un .not (.symb 329)) (.e)) 1018240264 157 (.ite (.symb 156) (.symb 151) (.symb 155)) (.e)) 1023848058 345 (.ite (.symb 344) (.symb 340) (.symb 343)) (.n (.e) 1031435519 355 (.ite (.symb 354) (.symb 335) (.symb 353)) (.e)))) 1033374959 277 (.un .not (.symb 276)) (.n (.n (.n (.n (.e) 1036242348 237 (.ite (.symb 230) (.bool false) (.symb 236)) (.e)) 1040962545 98 (.bin .gtr (.symi .i64 4) (.symi .i64 30)) (.e)) 1044999522 124 (.ite (.symb 99) (.int .i64 2) (.symi .i64 122)) (.n (.e) 1047057711 102 (.bin .gtr (.symi .i64 4) (.symi .i64 5)) (.e))) 1048291416 224 (.bin .and (.symi .u8 223) (.int .u8 1)) (.n (.n (.n (.e) 1048582888 332 (.ite (.symb 320) (.bool false) (.symb 331)) (.e)) 1052398393 249 (.ite (.symb 248) (.symb 246) (.symb 247)) (.e)) 1053200319 139 (.bin .eql (.symi .u8 138) (.int .u8 1)) (.n (.e) 1064024252 293 (.bin .gtr (.symi .i64 8) (.symi .i64 7)) (.e))))))))

set_option maxRecDepth 100000 in
def chooseW : Wr' := .run (.node 13 (.leaf (.tuple [.int .i64 (-1), .bool false])) (.req (.node 50 (.node 51 (.node 52 (.ok) (.pick 34 0 (.ok) (.pick 34 1 (.ok) (.pick 34 2 (.ok) (.pick 34 3 (.ok) (.pick 34 4 (.ok) (.pick 34 5 (.ok) (.pick 34 6 (.ok) (.pick 34 7 (.ok) (.no)))))))))) (.ok)) (.ok)) (.req (.node 97 (.node 98 (.node 99 (.ok) (.pick 81 0 (.ok) (.pick 81 1 (.ok) (.pick 81 2 (.ok) (.pick 81 3 (.ok) (.pick 81 4 (.ok) (.pick 81 5 (.ok) (.pick 81 6 (.ok) (.pick 81 7 (.ok) (.no)))))))))) (.ok)) (.ok)) (.req (.node 144 (.node 145 (.node 146 (.ok) (.pick 128 0 (.ok) (.pick 128 1 (.ok) (.pick 128 2 (.ok) (.pick 128 3 (.ok) (.pick 128 4 (.ok) (.pick 128 5 (.ok) (.pick 128 6 (.ok) (.pick 128 7 (.ok) (.no)))))))))) (.ok)) (.ok)) (.req (.node 191 (.node 192 (.node 193 (.ok) (.pick 175 0 (.ok) (.pick 175 1 (.ok) (.pick 175 2 (.ok) (.pick 175 3 (.ok) (.pick 175 4 (.ok) (.pick 175 5 (.ok) (.pick 175 6 (.ok) (.pick 175 7 (.ok) (.no)))))))))) (.ok)) (.ok)) (.req (.node 238 (.node 239 (.node 240 (.ok) (.pick 222 0 (.ok) (.pick 222 1 (.ok) (.pick 222 2 (.ok) (.pick 222 3 (.ok) (.pick 222 4 (.ok) (.pick 222 5 (.ok) (.pick 222 6 (.ok) (.pick 222 7 (.ok) (.no)))))))))) (.ok)) (.ok)) (.req (.node 285 (.node 286 (.node 287 (.ok) (.pick 269 0 (.ok) (.pick 269 1 (.ok) (.pick 269 2 (.ok) (.pick 269 3 (.ok) (.pick 269 4 (.ok) (.pick 269 5 (.ok) (.pick 269 6 (.ok) (.pick 269 7 (.ok) (.no)))))))))) (.ok)) (.ok)) (.req (.node 332 (.node 333 (.node 334 (.ok) (.pick 316 0 (.ok) (.pick 316 1 (.ok) (.pick 316 2 (.ok) (.pick 316 3 (.ok) (.pick 316 4 (.ok) (.pick 316 5 (.ok) (.pick 316 6 (.ok) (.pick 316 7 (.ok) (.no)))))))))) (.ok)) (.ok)) (.leaf (.tuple [.symi .i64 359, .symb 360]))))))))))

def chooseX : Ing := { m := 13, ins := (cellsOf ckIns).map kindC, G := chooseG, T := chooseT }
theorem choose_ok : okG chooseG 13 = true := by kernel_rfl
theorem choose_lt : okLT 13 chooseG chooseT = true := by kernel_rfl
theorem choose_run : okW (fun F => (evD Try.prog (cxOf chooseX) true 1000 40).1 F 16 (symSh ckIns 0) ⟨[], []⟩) chooseW [] = true := by kernel_rfl


set_option maxRecDepth 100000 in
set_option maxRecDepth 100000 in
set_option maxRecDepth 100000 in
theorem and1 (y : Int) : IntKind.u8.wrap (BitVec.ofInt IntKind.u8.bits y &&& BitVec.ofInt IntKind.u8.bits 1).toNat = y % 2 := by
  have h : (BitVec.ofInt 8 y &&& BitVec.ofInt 8 1).toNat = (y % 2).toNat := by
    rw [BitVec.toNat_and, BitVec.toNat_ofInt, show (BitVec.ofInt 8 1).toNat = 1 from rfl, Nat.and_one_is_mod]
    omega
  show IntKind.u8.wrap (((BitVec.ofInt 8 y &&& BitVec.ofInt 8 1).toNat : Nat) : Int) = y % 2
  rw [h]
  simp [IntKind.wrap, IntKind.bits, IntKind.signed]
  omega

theorem shr_of {x n : Int} {v : Nat} (hv : min n.toNat IntKind.u8.bits = v) (h0 : 0 ≤ x) : x.fdiv (2 ^ (min n.toNat IntKind.u8.bits)) = x / 2 ^ v := by
  rw [hv, Int.fdiv_eq_ediv_of_nonneg]
  exact Int.pow_nonneg (by omega)

theorem bitA {x n : Int} {v : Nat} (hv : min n.toNat IntKind.u8.bits = v) (h0 : 0 ≤ x) : (IntKind.u8.wrap (BitVec.ofInt IntKind.u8.bits (x.fdiv (2 ^ (min n.toNat IntKind.u8.bits))) &&& BitVec.ofInt IntKind.u8.bits 1).toNat == 1) = bitI x v := by
  rw [and1, shr_of hv h0]; rfl

theorem bitB {x n : Int} {v : Nat} (hv : min n.toNat IntKind.u8.bits = v) (h0 : 0 ≤ x) : ((x.fdiv (2 ^ (min n.toNat IntKind.u8.bits))).tmod 2 == 1) = bitI x v := by
  rw [shr_of hv h0, Int.tmod_eq_emod_of_nonneg (Int.ediv_nonneg h0 (Int.pow_nonneg (by omega)))]; rfl

theorem bif_nn (z : Bool) {a b : Int} (ha : 0 ≤ a) (hb : 0 ≤ b) : 0 ≤ bif z then a else b := by cases z <;> simpa

theorem maxI (p l : Int) : decide (p > if l > 0 then l else 0) = (decide (p > 0) && decide (p > l)) := by
  split <;> (rw [Bool.eq_iff_iff]; simp; omega)

set_option maxHeartbeats 1000000 in
theorem choose_0 (σ : Sig) (e : Eqs σ 13 chooseG) (h0 : 0 ≤ σ.ival 0) (h1 : 0 ≤ σ.ival 1) (h12 : 0 ≤ σ.ival 12) :
    σ.ival 34 = nextI (mayI (σ.ival 0) (σ.ival 1) (σ.ival 12) (σ.ival 10) (σ.ival 2) 0) (σ.ival 2) (prAt (σ.ival 2) (σ.ival 3) (σ.ival 4) (σ.ival 5) (σ.ival 6) (σ.ival 7) (σ.ival 8) (σ.ival 9) (-1)) (-1) 0 ∧ σ.bval 33 = decide (0 ≤ σ.ival 34) := by
  have e14 : σ.ival 14 = ((σ.ival 1 : Int).fdiv (2 ^ (min (0 : Int).toNat IntKind.u8.bits))) := eqI (e.at 1 _ rfl rfl) rfl
  have e15 : σ.ival 15 = IntKind.u8.wrap (BitVec.ofInt IntKind.u8.bits (σ.ival 14) &&& BitVec.ofInt IntKind.u8.bits (1)).toNat := eqI (e.at 2 _ rfl rfl) rfl
  have e16 : σ.bval 16 = (σ.ival 15 == 1) := eqB (e.at 3 _ rfl rfl) rfl
  have e17 : σ.bval 17 = (!σ.bval 16) := eqB (e.at 4 _ rfl rfl) rfl
  have e18 : σ.ival 18 = ((σ.ival 0 : Int).fdiv (2 ^ (min (0 : Int).toNat IntKind.u8.bits))) := eqI (e.at 5 _ rfl rfl) rfl
  have e19 : σ.ival 19 = IntKind.u8.wrap (BitVec.ofInt IntKind.u8.bits (σ.ival 18) &&& BitVec.ofInt IntKind.u8.bits (1)).toNat := eqI (e.at 6 _ rfl rfl) rfl
  have e20 : σ.bval 20 = (σ.ival 19 == 1) := eqB (e.at 7 _ rfl rfl) rfl
  have e21 : σ.bval 21 = (!σ.bval 20) := eqB (e.at 8 _ rfl rfl) rfl
  have e22 : σ.ival 22 = ((σ.ival 12 : Int).fdiv (2 ^ (min (0 : Int).toNat IntKind.u8.bits))) := eqI (e.at 9 _ rfl rfl) rfl
  have e23 : σ.ival 23 = IntKind.u8.wrap (BitVec.ofInt IntKind.u8.bits (σ.ival 22) &&& BitVec.ofInt IntKind.u8.bits (1)).toNat := eqI (e.at 10 _ rfl rfl) rfl
  have e24 : σ.bval 24 = (σ.ival 23 == 1) := eqB (e.at 11 _ rfl rfl) rfl
  have e25 : σ.bval 25 = (!σ.bval 24) := eqB (e.at 12 _ rfl rfl) rfl
  have e26 : σ.bval 26 = (!σ.bval 25) := eqB (e.at 13 _ rfl rfl) rfl
  have e27 : σ.bval 27 = (!σ.bval 26) := eqB (e.at 14 _ rfl rfl) rfl
  have e28 : σ.bval 28 = (bif σ.bval 21 then false else σ.bval 27) := eqIteB (e.at 15 _ rfl rfl) rfl rfl rfl
  have e29 : σ.bval 29 = (bif σ.bval 17 then false else σ.bval 28) := eqIteB (e.at 16 _ rfl rfl) rfl rfl rfl
  have e30 : σ.ival 30 = (if σ.ival 10 > 0 then σ.ival 10 else 0) := eqI (e.at 17 _ rfl rfl) rfl
  have e31 : σ.bval 31 = decide (σ.ival 2 > σ.ival 30) := eqB (e.at 18 _ rfl rfl) rfl
  have e32 : σ.ival 32 = (bif σ.bval 31 then 0 else (-1)) := eqIteI (e.at 19 _ rfl rfl) rfl rfl rfl
  have e33 : σ.bval 33 = (bif σ.bval 29 then σ.bval 31 else false) := eqIteB (e.at 20 _ rfl rfl) rfl rfl rfl
  have e34 : σ.ival 34 = (bif σ.bval 29 then σ.ival 32 else (-1)) := eqIteI (e.at 21 _ rfl rfl) rfl rfl rfl
  have hfree : σ.bval 29 = (bitI (σ.ival 1) 0 && bitI (σ.ival 0) 0 && !bitI (σ.ival 12) 0) := by
    rw [e29, e28, e17, e16, e15, e14, e21, e20, e19, e18, e27, e26, e25, e24, e23, e22]
    rw [bitA (v := 0) (by decide) h1, bitA (v := 0) (by decide) h0, bitA (v := 0) (by decide) h12]
    cases bitI (σ.ival 1) 0 <;> cases bitI (σ.ival 0) 0 <;> cases bitI (σ.ival 12) 0 <;> rfl
  have hgt : σ.bval 31 = (decide ((σ.ival 2) > 0) && decide ((σ.ival 2) > σ.ival 10)) := by rw [e31, e30]; exact maxI _ _
  have hmay : mayI (σ.ival 0) (σ.ival 1) (σ.ival 12) (σ.ival 10) (σ.ival 2) 0 = (σ.bval 29 && σ.bval 31) := by rw [hfree, hgt]; simp only [mayI, Bool.and_assoc]
  rw [hmay]
  rw [e34, e33, e32]
  simp only [nextI]
  cases σ.bval 29 <;> cases σ.bval 31 <;> simp

set_option maxHeartbeats 1000000 in
theorem choose_1 (σ : Sig) (e : Eqs σ 13 chooseG) (h0 : 0 ≤ σ.ival 0) (h1 : 0 ≤ σ.ival 1) (h12 : 0 ≤ σ.ival 12) (hb : -1 ≤ σ.ival 34 ∧ σ.ival 34 ≤ 0) (hf : σ.bval 33 = decide (0 ≤ σ.ival 34)) :
    σ.ival 81 = nextI (mayI (σ.ival 0) (σ.ival 1) (σ.ival 12) (σ.ival 10) (σ.ival 3) 1) (σ.ival 3) (prAt (σ.ival 2) (σ.ival 3) (σ.ival 4) (σ.ival 5) (σ.ival 6) (σ.ival 7) (σ.ival 8) (σ.ival 9) (σ.ival 34)) (σ.ival 34) 1 ∧ σ.bval 80 = decide (0 ≤ σ.ival 81) := by
  have e30 : σ.ival 30 = (if σ.ival 10 > 0 then σ.ival 10 else 0) := eqI (e.at 17 _ rfl rfl) rfl
  have e35 : σ.ival 35 = ((σ.ival 1 : Int).fdiv (2 ^ (min (1 : Int).toNat IntKind.u8.bits))) := eqI (e.at 22 _ rfl rfl) rfl
  have e36 : σ.ival 36 = IntKind.u8.wrap (BitVec.ofInt IntKind.u8.bits (σ.ival 35) &&& BitVec.ofInt IntKind.u8.bits (1)).toNat := eqI (e.at 23 _ rfl rfl) rfl
  have e37 : σ.bval 37 = (σ.ival 36 == 1) := eqB (e.at 24 _ rfl rfl) rfl
  have e38 : σ.bval 38 = (!σ.bval 37) := eqB (e.at 25 _ rfl rfl) rfl
  have e39 : σ.ival 39 = ((σ.ival 0 : Int).fdiv (2 ^ (min (1 : Int).toNat IntKind.u8.bits))) := eqI (e.at 26 _ rfl rfl) rfl
  have e40 : σ.ival 40 = IntKind.u8.wrap (BitVec.ofInt IntKind.u8.bits (σ.ival 39) &&& BitVec.ofInt IntKind.u8.bits (1)).toNat := eqI (e.at 27 _ rfl rfl) rfl
  have e41 : σ.bval 41 = (σ.ival 40 == 1) := eqB (e.at 28 _ rfl rfl) rfl
  have e42 : σ.bval 42 = (!σ.bval 41) := eqB (e.at 29 _ rfl rfl) rfl
  have e43 : σ.ival 43 = ((σ.ival 12 : Int).fdiv (2 ^ (min (1 : Int).toNat IntKind.u8.bits))) := eqI (e.at 30 _ rfl rfl) rfl
  have e44 : σ.ival 44 = IntKind.u8.wrap (BitVec.ofInt IntKind.u8.bits (σ.ival 43) &&& BitVec.ofInt IntKind.u8.bits (1)).toNat := eqI (e.at 31 _ rfl rfl) rfl
  have e45 : σ.bval 45 = (σ.ival 44 == 1) := eqB (e.at 32 _ rfl rfl) rfl
  have e46 : σ.bval 46 = (!σ.bval 45) := eqB (e.at 33 _ rfl rfl) rfl
  have e47 : σ.bval 47 = (!σ.bval 46) := eqB (e.at 34 _ rfl rfl) rfl
  have e48 : σ.bval 48 = (!σ.bval 47) := eqB (e.at 35 _ rfl rfl) rfl
  have e49 : σ.bval 49 = (bif σ.bval 42 then false else σ.bval 48) := eqIteB (e.at 36 _ rfl rfl) rfl rfl rfl
  have e50 : σ.bval 50 = (bif σ.bval 38 then false else σ.bval 49) := eqIteB (e.at 37 _ rfl rfl) rfl rfl rfl
  have e51 : σ.bval 51 = decide (σ.ival 3 > σ.ival 30) := eqB (e.at 38 _ rfl rfl) rfl
  have e52 : σ.bval 52 = (!σ.bval 33) := eqB (e.at 39 _ rfl rfl) rfl
  have e53 : σ.bval 53 = decide (σ.ival 3 > σ.ival 2) := eqB (e.at 40 _ rfl rfl) rfl
  have e54 : σ.bval 54 = decide (σ.ival 3 > σ.ival 4) := eqB (e.at 41 _ rfl rfl) rfl
  have e55 : σ.bval 55 = decide (σ.ival 3 > σ.ival 5) := eqB (e.at 42 _ rfl rfl) rfl
  have e56 : σ.bval 56 = decide (σ.ival 3 > σ.ival 6) := eqB (e.at 43 _ rfl rfl) rfl
  have e57 : σ.bval 57 = decide (σ.ival 3 > σ.ival 7) := eqB (e.at 44 _ rfl rfl) rfl
  have e58 : σ.bval 58 = decide (σ.ival 3 > σ.ival 8) := eqB (e.at 45 _ rfl rfl) rfl
  have e59 : σ.bval 59 = decide (σ.ival 3 > σ.ival 9) := eqB (e.at 46 _ rfl rfl) rfl
  have e60 : σ.bval 60 = (σ.ival 34 == 6) := eqB (e.at 47 _ rfl rfl) rfl
  have e61 : σ.bval 61 = (bif σ.bval 60 then σ.bval 58 else σ.bval 59) := eqIteB (e.at 48 _ rfl rfl) rfl rfl rfl
  have e62 : σ.bval 62 = (σ.ival 34 == 5) := eqB (e.at 49 _ rfl rfl) rfl
  have e63 : σ.bval 63 = (bif σ.bval 62 then σ.bval 57 else σ.bval 61) := eqIteB (e.at 50 _ rfl rfl) rfl rfl rfl
  have e64 : σ.bval 64 = (σ.ival 34 == 4) := eqB (e.at 51 _ rfl rfl) rfl
  have e65 : σ.bval 65 = (bif σ.bval 64 then σ.bval 56 else σ.bval 63) := eqIteB (e.at 52 _ rfl rfl) rfl rfl rfl
  have e66 : σ.bval 66 = (σ.ival 34 == 3) := eqB (e.at 53 _ rfl rfl) rfl
  have e67 : σ.bval 67 = (bif σ.bval 66 then σ.bval 55 else σ.bval 65) := eqIteB (e.at 54 _ rfl rfl) rfl rfl rfl
  have e68 : σ.bval 68 = (σ.ival 34 == 2) := eqB (e.at 55 _ rfl rfl) rfl
  have e69 : σ.bval 69 = (bif σ.bval 68 then σ.bval 54 else σ.bval 67) := eqIteB (e.at 56 _ rfl rfl) rfl rfl rfl
  have e70 : σ.bval 70 = (σ.ival 34 == 1) := eqB (e.at 57 _ rfl rfl) rfl
  have e71 : σ.bval 71 = (bif σ.bval 70 then false else σ.bval 69) := eqIteB (e.at 58 _ rfl rfl) rfl rfl rfl
  have e72 : σ.bval 72 = (σ.ival 34 == 0) := eqB (e.at 59 _ rfl rfl) rfl
  have e73 : σ.bval 73 = (bif σ.bval 72 then σ.bval 53 else σ.bval 71) := eqIteB (e.at 60 _ rfl rfl) rfl rfl rfl
  have e74 : σ.bval 74 = (bif σ.bval 73 then true else σ.bval 33) := eqIteB (e.at 61 _ rfl rfl) rfl rfl rfl
  have e75 : σ.ival 75 = (bif σ.bval 73 then 1 else σ.ival 34) := eqIteI (e.at 62 _ rfl rfl) rfl rfl rfl
  have e76 : σ.bval 76 = (bif σ.bval 52 then true else σ.bval 74) := eqIteB (e.at 63 _ rfl rfl) rfl rfl rfl
  have e77 : σ.ival 77 = (bif σ.bval 52 then 1 else σ.ival 75) := eqIteI (e.at 64 _ rfl rfl) rfl rfl rfl
  have e78 : σ.bval 78 = (bif σ.bval 51 then σ.bval 76 else σ.bval 33) := eqIteB (e.at 65 _ rfl rfl) rfl rfl rfl
  have e79 : σ.ival 79 = (bif σ.bval 51 then σ.ival 77 else σ.ival 34) := eqIteI (e.at 66 _ rfl rfl) rfl rfl rfl
  have e80 : σ.bval 80 = (bif σ.bval 50 then σ.bval 78 else σ.bval 33) := eqIteB (e.at 67 _ rfl rfl) rfl rfl rfl
  have e81 : σ.ival 81 = (bif σ.bval 50 then σ.ival 79 else σ.ival 34) := eqIteI (e.at 68 _ rfl rfl) rfl rfl rfl
  have hfree : σ.bval 50 = (bitI (σ.ival 1) 1 && bitI (σ.ival 0) 1 && !bitI (σ.ival 12) 1) := by
    rw [e50, e49, e38, e37, e36, e35, e42, e41, e40, e39, e48, e47, e46, e45, e44, e43]
    rw [bitA (v := 1) (by decide) h1, bitA (v := 1) (by decide) h0, bitA (v := 1) (by decide) h12]
    cases bitI (σ.ival 1) 1 <;> cases bitI (σ.ival 0) 1 <;> cases bitI (σ.ival 12) 1 <;> rfl
  have hgt : σ.bval 51 = (decide ((σ.ival 3) > 0) && decide ((σ.ival 3) > σ.ival 10)) := by rw [e51, e30]; exact maxI _ _
  have hmay : mayI (σ.ival 0) (σ.ival 1) (σ.ival 12) (σ.ival 10) (σ.ival 3) 1 = (σ.bval 50 && σ.bval 51) := by rw [hfree, hgt]; simp only [mayI, Bool.and_assoc]
  rw [hmay]
  clear hfree hgt hmay e30 e35 e36 e37 e38 e39 e40 e41 e42 e43 e44 e45 e46 e47 e48 e49 e50 e51
  generalize σ.bval 50 = x at *
  generalize σ.bval 51 = y at *
  have hc : σ.bval 73 = decide ((σ.ival 3) > prAt (σ.ival 2) (σ.ival 3) (σ.ival 4) (σ.ival 5) (σ.ival 6) (σ.ival 7) (σ.ival 8) (σ.ival 9) (σ.ival 34)) ∨ σ.ival 34 = -1 := by
    rcases (by omega : σ.ival 34 = -1 ∨ σ.ival 34 = 0) with hk | hk
    · exact .inr hk
    · left; simp [prAt, hk, e53, e54, e55, e56, e57, e58, e59, e60, e61, e62, e63, e64, e65, e66, e67, e68, e69, e70, e71, e72, e73]
  rw [e81, e80, e79, e78, e77, e76, e75, e74]
  simp only [e52, hf, nextI]
  rcases hc with hc | hc
  · rw [hc]
    rcases (by omega : σ.ival 34 < 0 ∨ 0 ≤ σ.ival 34) with hn | hn
    · have hn2 : ¬ 0 ≤ σ.ival 34 := by omega
      cases x <;> cases y <;> simp [hn, hn2]
    · have hn2 : ¬ σ.ival 34 < 0 := by omega
      cases x <;> cases y <;> simp [hn, hn2]
      all_goals exact bif_nn _ (by omega) hn
  · cases x <;> cases y <;> simp [hc]

set_option maxHeartbeats 1000000 in
theorem choose_2 (σ : Sig) (e : Eqs σ 13 chooseG) (h0 : 0 ≤ σ.ival 0) (h1 : 0 ≤ σ.ival 1) (h12 : 0 ≤ σ.ival 12) (hb : -1 ≤ σ.ival 81 ∧ σ.ival 81 ≤ 1) (hf : σ.bval 80 = decide (0 ≤ σ.ival 81)) :
    σ.ival 128 = nextI (mayI (σ.ival 0) (σ.ival 1) (σ.ival 12) (σ.ival 10) (σ.ival 4) 2) (σ.ival 4) (prAt (σ.ival 2) (σ.ival 3) (σ.ival 4) (σ.ival 5) (σ.ival 6) (σ.ival 7) (σ.ival 8) (σ.ival 9) (σ.ival 81)) (σ.ival 81) 2 ∧ σ.bval 127 = decide (0 ≤ σ.ival 128) := by
  have e30 : σ.ival 30 = (if σ.ival 10 > 0 then σ.ival 10 else 0) := eqI (e.at 17 _ rfl rfl) rfl
  have e82 : σ.ival 82 = ((σ.ival 1 : Int).fdiv (2 ^ (min (2 : Int).toNat IntKind.u8.bits))) := eqI (e.at 69 _ rfl rfl) rfl
  have e83 : σ.ival 83 = IntKind.u8.wrap (BitVec.ofInt IntKind.u8.bits (σ.ival 82) &&& BitVec.ofInt IntKind.u8.bits (1)).toNat := eqI (e.at 70 _ rfl rfl) rfl
  have e84 : σ.bval 84 = (σ.ival 83 == 1) := eqB (e.at 71 _ rfl rfl) rfl
  have e85 : σ.bval 85 = (!σ.bval 84) := eqB (e.at 72 _ rfl rfl) rfl
  have e86 : σ.ival 86 = ((σ.ival 0 : Int).fdiv (2 ^ (min (2 : Int).toNat IntKind.u8.bits))) := eqI (e.at 73 _ rfl rfl) rfl
  have e87 : σ.ival 87 = IntKind.u8.wrap (BitVec.ofInt IntKind.u8.bits (σ.ival 86) &&& BitVec.ofInt IntKind.u8.bits (1)).toNat := eqI (e.at 74 _ rfl rfl) rfl
  have e88 : σ.bval 88 = (σ.ival 87 == 1) := eqB (e.at 75 _ rfl rfl) rfl
  have e89 : σ.bval 89 = (!σ.bval 88) := eqB (e.at 76 _ rfl rfl) rfl
  have e90 : σ.ival 90 = ((σ.ival 12 : Int).fdiv (2 ^ (min (2 : Int).toNat IntKind.u8.bits))) := eqI (e.at 77 _ rfl rfl) rfl
  have e91 : σ.ival 91 = IntKind.u8.wrap (BitVec.ofInt IntKind.u8.bits (σ.ival 90) &&& BitVec.ofInt IntKind.u8.bits (1)).toNat := eqI (e.at 78 _ rfl rfl) rfl
  have e92 : σ.bval 92 = (σ.ival 91 == 1) := eqB (e.at 79 _ rfl rfl) rfl
  have e93 : σ.bval 93 = (!σ.bval 92) := eqB (e.at 80 _ rfl rfl) rfl
  have e94 : σ.bval 94 = (!σ.bval 93) := eqB (e.at 81 _ rfl rfl) rfl
  have e95 : σ.bval 95 = (!σ.bval 94) := eqB (e.at 82 _ rfl rfl) rfl
  have e96 : σ.bval 96 = (bif σ.bval 89 then false else σ.bval 95) := eqIteB (e.at 83 _ rfl rfl) rfl rfl rfl
  have e97 : σ.bval 97 = (bif σ.bval 85 then false else σ.bval 96) := eqIteB (e.at 84 _ rfl rfl) rfl rfl rfl
  have e98 : σ.bval 98 = decide (σ.ival 4 > σ.ival 30) := eqB (e.at 85 _ rfl rfl) rfl
  have e99 : σ.bval 99 = (!σ.bval 80) := eqB (e.at 86 _ rfl rfl) rfl
  have e100 : σ.bval 100 = decide (σ.ival 4 > σ.ival 2) := eqB (e.at 87 _ rfl rfl) rfl
  have e101 : σ.bval 101 = decide (σ.ival 4 > σ.ival 3) := eqB (e.at 88 _ rfl rfl) rfl
  have e102 : σ.bval 102 = decide (σ.ival 4 > σ.ival 5) := eqB (e.at 89 _ rfl rfl) rfl
  have e103 : σ.bval 103 = decide (σ.ival 4 > σ.ival 6) := eqB (e.at 90 _ rfl rfl) rfl
  have e104 : σ.bval 104 = decide (σ.ival 4 > σ.ival 7) := eqB (e.at 91 _ rfl rfl) rfl
  have e105 : σ.bval 105 = decide (σ.ival 4 > σ.ival 8) := eqB (e.at 92 _ rfl rfl) rfl
  have e106 : σ.bval 106 = decide (σ.ival 4 > σ.ival 9) := eqB (e.at 93 _ rfl rfl) rfl
  have e107 : σ.bval 107 = (σ.ival 81 == 6) := eqB (e.at 94 _ rfl rfl) rfl
  have e108 : σ.bval 108 = (bif σ.bval 107 then σ.bval 105 else σ.bval 106) := eqIteB (e.at 95 _ rfl rfl) rfl rfl rfl
  have e109 : σ.bval 109 = (σ.ival 81 == 5) := eqB (e.at 96 _ rfl rfl) rfl
  have e110 : σ.bval 110 = (bif σ.bval 109 then σ.bval 104 else σ.bval 108) := eqIteB (e.at 97 _ rfl rfl) rfl rfl rfl
  have e111 : σ.bval 111 = (σ.ival 81 == 4) := eqB (e.at 98 _ rfl rfl) rfl
  have e112 : σ.bval 112 = (bif σ.bval 111 then σ.bval 103 else σ.bval 110) := eqIteB (e.at 99 _ rfl rfl) rfl rfl rfl
  have e113 : σ.bval 113 = (σ.ival 81 == 3) := eqB (e.at 100 _ rfl rfl) rfl
  have e114 : σ.bval 114 = (bif σ.bval 113 then σ.bval 102 else σ.bval 112) := eqIteB (e.at 101 _ rfl rfl) rfl rfl rfl
  have e115 : σ.bval 115 = (σ.ival 81 == 2) := eqB (e.at 102 _ rfl rfl) rfl
  have e116 : σ.bval 116 = (bif σ.bval 115 then false else σ.bval 114) := eqIteB (e.at 103 _ rfl rfl) rfl rfl rfl
  have e117 : σ.bval 117 = (σ.ival 81 == 1) := eqB (e.at 104 _ rfl rfl) rfl
  have e118 : σ.bval 118 = (bif σ.bval 117 then σ.bval 101 else σ.bval 116) := eqIteB (e.at 105 _ rfl rfl) rfl rfl rfl
  have e119 : σ.bval 119 = (σ.ival 81 == 0) := eqB (e.at 106 _ rfl rfl) rfl
  have e120 : σ.bval 120 = (bif σ.bval 119 then σ.bval 100 else σ.bval 118) := eqIteB (e.at 107 _ rfl rfl) rfl rfl rfl
  have e121 : σ.bval 121 = (bif σ.bval 120 then true else σ.bval 80) := eqIteB (e.at 108 _ rfl rfl) rfl rfl rfl
  have e122 : σ.ival 122 = (bif σ.bval 120 then 2 else σ.ival 81) := eqIteI (e.at 109 _ rfl rfl) rfl rfl rfl
  have e123 : σ.bval 123 = (bif σ.bval 99 then true else σ.bval 121) := eqIteB (e.at 110 _ rfl rfl) rfl rfl rfl
  have e124 : σ.ival 124 = (bif σ.bval 99 then 2 else σ.ival 122) := eqIteI (e.at 111 _ rfl rfl) rfl rfl rfl
  have e125 : σ.bval 125 = (bif σ.bval 98 then σ.bval 123 else σ.bval 80) := eqIteB (e.at 112 _ rfl rfl) rfl rfl rfl
  have e126 : σ.ival 126 = (bif σ.bval 98 then σ.ival 124 else σ.ival 81) := eqIteI (e.at 113 _ rfl rfl) rfl rfl rfl
  have e127 : σ.bval 127 = (bif σ.bval 97 then σ.bval 125 else σ.bval 80) := eqIteB (e.at 114 _ rfl rfl) rfl rfl rfl
  have e128 : σ.ival 128 = (bif σ.bval 97 then σ.ival 126 else σ.ival 81) := eqIteI (e.at 115 _ rfl rfl) rfl rfl rfl
  have hfree : σ.bval 97 = (bitI (σ.ival 1) 2 && bitI (σ.ival 0) 2 && !bitI (σ.ival 12) 2) := by
    rw [e97, e96, e85, e84, e83, e82, e89, e88, e87, e86, e95, e94, e93, e92, e91, e90]
    rw [bitA (v := 2) (by decide) h1, bitA (v := 2) (by decide) h0, bitA (v := 2) (by decide) h12]
    cases bitI (σ.ival 1) 2 <;> cases bitI (σ.ival 0) 2 <;> cases bitI (σ.ival 12) 2 <;> rfl
  have hgt : σ.bval 98 = (decide ((σ.ival 4) > 0) && decide ((σ.ival 4) > σ.ival 10)) := by rw [e98, e30]; exact maxI _ _
  have hmay : mayI (σ.ival 0) (σ.ival 1) (σ.ival 12) (σ.ival 10) (σ.ival 4) 2 = (σ.bval 97 && σ.bval 98) := by rw [hfree, hgt]; simp only [mayI, Bool.and_assoc]
  rw [hmay]
  clear hfree hgt hmay e30 e82 e83 e84 e85 e86 e87 e88 e89 e90 e91 e92 e93 e94 e95 e96 e97 e98
  generalize σ.bval 97 = x at *
  generalize σ.bval 98 = y at *
  have hc : σ.bval 120 = decide ((σ.ival 4) > prAt (σ.ival 2) (σ.ival 3) (σ.ival 4) (σ.ival 5) (σ.ival 6) (σ.ival 7) (σ.ival 8) (σ.ival 9) (σ.ival 81)) ∨ σ.ival 81 = -1 := by
    rcases (by omega : σ.ival 81 = -1 ∨ σ.ival 81 = 0 ∨ σ.ival 81 = 1) with hk | hk | hk
    · exact .inr hk
    · left; simp [prAt, hk, e100, e101, e102, e103, e104, e105, e106, e107, e108, e109, e110, e111, e112, e113, e114, e115, e116, e117, e118, e119, e120]
    · left; simp [prAt, hk, e100, e101, e102, e103, e104, e105, e106, e107, e108, e109, e110, e111, e112, e113, e114, e115, e116, e117, e118, e119, e120]
  rw [e128, e127, e126, e125, e124, e123, e122, e121]
  simp only [e99, hf, nextI]
  rcases hc with hc | hc
  · rw [hc]
    rcases (by omega : σ.ival 81 < 0 ∨ 0 ≤ σ.ival 81) with hn | hn
    · have hn2 : ¬ 0 ≤ σ.ival 81 := by omega
      cases x <;> cases y <;> simp [hn, hn2]
    · have hn2 : ¬ σ.ival 81 < 0 := by omega
      cases x <;> cases y <;> simp [hn, hn2]
      all_goals exact bif_nn _ (by omega) hn
  · cases x <;> cases y <;> simp [hc]

set_option maxHeartbeats 1000000 in
theorem choose_3 (σ : Sig) (e : Eqs σ 13 chooseG) (h0 : 0 ≤ σ.ival 0) (h1 : 0 ≤ σ.ival 1) (h12 : 0 ≤ σ.ival 12) (hb : -1 ≤ σ.ival 128 ∧ σ.ival 128 ≤ 2) (hf : σ.bval 127 = decide (0 ≤ σ.ival 128)) :
    σ.ival 175 = nextI (mayI (σ.ival 0) (σ.ival 1) (σ.ival 12) (σ.ival 10) (σ.ival 5) 3) (σ.ival 5) (prAt (σ.ival 2) (σ.ival 3) (σ.ival 4) (σ.ival 5) (σ.ival 6) (σ.ival 7) (σ.ival 8) (σ.ival 9) (σ.ival 128)) (σ.ival 128) 3 ∧ σ.bval 174 = decide (0 ≤ σ.ival 175) := by
  have e30 : σ.ival 30 = (if σ.ival 10 > 0 then σ.ival 10 else 0) := eqI (e.at 17 _ rfl rfl) rfl
  have e129 : σ.ival 129 = ((σ.ival 1 : Int).fdiv (2 ^ (min (3 : Int).toNat IntKind.u8.bits))) := eqI (e.at 116 _ rfl rfl) rfl
  have e130 : σ.ival 130 = IntKind.u8.wrap (BitVec.ofInt IntKind.u8.bits (σ.ival 129) &&& BitVec.ofInt IntKind.u8.bits (1)).toNat := eqI (e.at 117 _ rfl rfl) rfl
  have e131 : σ.bval 131 = (σ.ival 130 == 1) := eqB (e.at 118 _ rfl rfl) rfl
  have e132 : σ.bval 132 = (!σ.bval 131) := eqB (e.at 119 _ rfl rfl) rfl
  have e133 : σ.ival 133 = ((σ.ival 0 : Int).fdiv (2 ^ (min (3 : Int).toNat IntKind.u8.bits))) := eqI (e.at 120 _ rfl rfl) rfl
  have e134 : σ.ival 134 = IntKind.u8.wrap (BitVec.ofInt IntKind.u8.bits (σ.ival 133) &&& BitVec.ofInt IntKind.u8.bits (1)).toNat := eqI (e.at 121 _ rfl rfl) rfl
  have e135 : σ.bval 135 = (σ.ival 134 == 1) := eqB (e.at 122 _ rfl rfl) rfl
  have e136 : σ.bval 136 = (!σ.bval 135) := eqB (e.at 123 _ rfl rfl) rfl
  have e137 : σ.ival 137 = ((σ.ival 12 : Int).fdiv (2 ^ (min (3 : Int).toNat IntKind.u8.bits))) := eqI (e.at 124 _ rfl rfl) rfl
  have e138 : σ.ival 138 = IntKind.u8.wrap (BitVec.ofInt IntKind.u8.bits (σ.ival 137) &&& BitVec.ofInt IntKind.u8.bits (1)).toNat := eqI (e.at 125 _ rfl rfl) rfl
  have e139 : σ.bval 139 = (σ.ival 138 == 1) := eqB (e.at 126 _ rfl rfl) rfl
  have e140 : σ.bval 140 = (!σ.bval 139) := eqB (e.at 127 _ rfl rfl) rfl
  have e141 : σ.bval 141 = (!σ.bval 140) := eqB (e.at 128 _ rfl rfl) rfl
  have e142 : σ.bval 142 = (!σ.bval 141) := eqB (e.at 129 _ rfl rfl) rfl
  have e143 : σ.bval 143 = (bif σ.bval 136 then false else σ.bval 142) := eqIteB (e.at 130 _ rfl rfl) rfl rfl rfl
  have e144 : σ.bval 144 = (bif σ.bval 132 then false else σ.bval 143) := eqIteB (e.at 131 _ rfl rfl) rfl rfl rfl
  have e145 : σ.bval 145 = decide (σ.ival 5 > σ.ival 30) := eqB (e.at 132 _ rfl rfl) rfl
  have e146 : σ.bval 146 = (!σ.bval 127) := eqB (e.at 133 _ rfl rfl) rfl
  have e147 : σ.bval 147 = decide (σ.ival 5 > σ.ival 2) := eqB (e.at 134 _ rfl rfl) rfl
  have e148 : σ.bval 148 = decide (σ.ival 5 > σ.ival 3) := eqB (e.at 135 _ rfl rfl) rfl
  have e149 : σ.bval 149 = decide (σ.ival 5 > σ.ival 4) := eqB (e.at 136 _ rfl rfl) rfl
  have e150 : σ.bval 150 = decide (σ.ival 5 > σ.ival 6) := eqB (e.at 137 _ rfl rfl) rfl
  have e151 : σ.bval 151 = decide (σ.ival 5 > σ.ival 7) := eqB (e.at 138 _ rfl rfl) rfl
  have e152 : σ.bval 152 = decide (σ.ival 5 > σ.ival 8) := eqB (e.at 139 _ rfl rfl) rfl
  have e153 : σ.bval 153 = decide (σ.ival 5 > σ.ival 9) := eqB (e.at 140 _ rfl rfl) rfl
  have e154 : σ.bval 154 = (σ.ival 128 == 6) := eqB (e.at 141 _ rfl rfl) rfl
  have e155 : σ.bval 155 = (bif σ.bval 154 then σ.bval 152 else σ.bval 153) := eqIteB (e.at 142 _ rfl rfl) rfl rfl rfl
  have e156 : σ.bval 156 = (σ.ival 128 == 5) := eqB (e.at 143 _ rfl rfl) rfl
  have e157 : σ.bval 157 = (bif σ.bval 156 then σ.bval 151 else σ.bval 155) := eqIteB (e.at 144 _ rfl rfl) rfl rfl rfl
  have e158 : σ.bval 158 = (σ.ival 128 == 4) := eqB (e.at 145 _ rfl rfl) rfl
  have e159 : σ.bval 159 = (bif σ.bval 158 then σ.bval 150 else σ.bval 157) := eqIteB (e.at 146 _ rfl rfl) rfl rfl rfl
  have e160 : σ.bval 160 = (σ.ival 128 == 3) := eqB (e.at 147 _ rfl rfl) rfl
  have e161 : σ.bval 161 = (bif σ.bval 160 then false else σ.bval 159) := eqIteB (e.at 148 _ rfl rfl) rfl rfl rfl
  have e162 : σ.bval 162 = (σ.ival 128 == 2) := eqB (e.at 149 _ rfl rfl) rfl
  have e163 : σ.bval 163 = (bif σ.bval 162 then σ.bval 149 else σ.bval 161) := eqIteB (e.at 150 _ rfl rfl) rfl rfl rfl
  have e164 : σ.bval 164 = (σ.ival 128 == 1) := eqB (e.at 151 _ rfl rfl) rfl
  have e165 : σ.bval 165 = (bif σ.bval 164 then σ.bval 148 else σ.bval 163) := eqIteB (e.at 152 _ rfl rfl) rfl rfl rfl
  have e166 : σ.bval 166 = (σ.ival 128 == 0) := eqB (e.at 153 _ rfl rfl) rfl
  have e167 : σ.bval 167 = (bif σ.bval 166 then σ.bval 147 else σ.bval 165) := eqIteB (e.at 154 _ rfl rfl) rfl rfl rfl
  have e168 : σ.bval 168 = (bif σ.bval 167 then true else σ.bval 127) := eqIteB (e.at 155 _ rfl rfl) rfl rfl rfl
  have e169 : σ.ival 169 = (bif σ.bval 167 then 3 else σ.ival 128) := eqIteI (e.at 156 _ rfl rfl) rfl rfl rfl
  have e170 : σ.bval 170 = (bif σ.bval 146 then true else σ.bval 168) := eqIteB (e.at 157 _ rfl rfl) rfl rfl rfl
  have e171 : σ.ival 171 = (bif σ.bval 146 then 3 else σ.ival 169) := eqIteI (e.at 158 _ rfl rfl) rfl rfl rfl
  have e172 : σ.bval 172 = (bif σ.bval 145 then σ.bval 170 else σ.bval 127) := eqIteB (e.at 159 _ rfl rfl) rfl rfl rfl
  have e173 : σ.ival 173 = (bif σ.bval 145 then σ.ival 171 else σ.ival 128) := eqIteI (e.at 160 _ rfl rfl) rfl rfl rfl
  have e174 : σ.bval 174 = (bif σ.bval 144 then σ.bval 172 else σ.bval 127) := eqIteB (e.at 161 _ rfl rfl) rfl rfl rfl
  have e175 : σ.ival 175 = (bif σ.bval 144 then σ.ival 173 else σ.ival 128) := eqIteI (e.at 162 _ rfl rfl) rfl rfl rfl
  have hfree : σ.bval 144 = (bitI (σ.ival 1) 3 && bitI (σ.ival 0) 3 && !bitI (σ.ival 12) 3) := by
    rw [e144, e143, e132, e131, e130, e129, e136, e135, e134, e133, e142, e141, e140, e139, e138, e137]
    rw [bitA (v := 3) (by decide) h1, bitA (v := 3) (by decide) h0, bitA (v := 3) (by decide) h12]
    cases bitI (σ.ival 1) 3 <;> cases bitI (σ.ival 0) 3 <;> cases bitI (σ.ival 12) 3 <;> rfl
  have hgt : σ.bval 145 = (decide ((σ.ival 5) > 0) && decide ((σ.ival 5) > σ.ival 10)) := by rw [e145, e30]; exact maxI _ _
  have hmay : mayI (σ.ival 0) (σ.ival 1) (σ.ival 12) (σ.ival 10) (σ.ival 5) 3 = (σ.bval 144 && σ.bval 145) := by rw [hfree, hgt]; simp only [mayI, Bool.and_assoc]
  rw [hmay]
  clear hfree hgt hmay e30 e129 e130 e131 e132 e133 e134 e135 e136 e137 e138 e139 e140 e141 e142 e143 e144 e145
  generalize σ.bval 144 = x at *
  generalize σ.bval 145 = y at *
  have hc : σ.bval 167 = decide ((σ.ival 5) > prAt (σ.ival 2) (σ.ival 3) (σ.ival 4) (σ.ival 5) (σ.ival 6) (σ.ival 7) (σ.ival 8) (σ.ival 9) (σ.ival 128)) ∨ σ.ival 128 = -1 := by
    rcases (by omega : σ.ival 128 = -1 ∨ σ.ival 128 = 0 ∨ σ.ival 128 = 1 ∨ σ.ival 128 = 2) with hk | hk | hk | hk
    · exact .inr hk
    · left; simp [prAt, hk, e147, e148, e149, e150, e151, e152, e153, e154, e155, e156, e157, e158, e159, e160, e161, e162, e163, e164, e165, e166, e167]
    · left; simp [prAt, hk, e147, e148, e149, e150, e151, e152, e153, e154, e155, e156, e157, e158, e159, e160, e161, e162, e163, e164, e165, e166, e167]
    · left; simp [prAt, hk, e147, e148, e149, e150, e151, e152, e153, e154, e155, e156, e157, e158, e159, e160, e161, e162, e163, e164, e165, e166, e167]
  rw [e175, e174, e173, e172, e171, e170, e169, e168]
  simp only [e146, hf, nextI]
  rcases hc with hc | hc
  · rw [hc]
    rcases (by omega : σ.ival 128 < 0 ∨ 0 ≤ σ.ival 128) with hn | hn
    · have hn2 : ¬ 0 ≤ σ.ival 128 := by omega
      cases x <;> cases y <;> simp [hn, hn2]
    · have hn2 : ¬ σ.ival 128 < 0 := by omega
      cases x <;> cases y <;> simp [hn, hn2]
      all_goals exact bif_nn _ (by omega) hn
  · cases x <;> cases y <;> simp [hc]

set_option maxHeartbeats 1000000 in
theorem choose_4 (σ : Sig) (e : Eqs σ 13 chooseG) (h0 : 0 ≤ σ.ival 0) (h1 : 0 ≤ σ.ival 1) (h12 : 0 ≤ σ.ival 12) (hb : -1 ≤ σ.ival 175 ∧ σ.ival 175 ≤ 3) (hf : σ.bval 174 = decide (0 ≤ σ.ival 175)) :
    σ.ival 222 = nextI (mayI (σ.ival 0) (σ.ival 1) (σ.ival 12) (σ.ival 10) (σ.ival 6) 4) (σ.ival 6) (prAt (σ.ival 2) (σ.ival 3) (σ.ival 4) (σ.ival 5) (σ.ival 6) (σ.ival 7) (σ.ival 8) (σ.ival 9) (σ.ival 175)) (σ.ival 175) 4 ∧ σ.bval 221 = decide (0 ≤ σ.ival 222) := by
  have e30 : σ.ival 30 = (if σ.ival 10 > 0 then σ.ival 10 else 0) := eqI (e.at 17 _ rfl rfl) rfl
  have e176 : σ.ival 176 = ((σ.ival 1 : Int).fdiv (2 ^ (min (4 : Int).toNat IntKind.u8.bits))) := eqI (e.at 163 _ rfl rfl) rfl
  have e177 : σ.ival 177 = IntKind.u8.wrap (BitVec.ofInt IntKind.u8.bits (σ.ival 176) &&& BitVec.ofInt IntKind.u8.bits (1)).toNat := eqI (e.at 164 _ rfl rfl) rfl
  have e178 : σ.bval 178 = (σ.ival 177 == 1) := eqB (e.at 165 _ rfl rfl) rfl
  have e179 : σ.bval 179 = (!σ.bval 178) := eqB (e.at 166 _ rfl rfl) rfl
  have e180 : σ.ival 180 = ((σ.ival 0 : Int).fdiv (2 ^ (min (4 : Int).toNat IntKind.u8.bits))) := eqI (e.at 167 _ rfl rfl) rfl
  have e181 : σ.ival 181 = IntKind.u8.wrap (BitVec.ofInt IntKind.u8.bits (σ.ival 180) &&& BitVec.ofInt IntKind.u8.bits (1)).toNat := eqI (e.at 168 _ rfl rfl) rfl
  have e182 : σ.bval 182 = (σ.ival 181 == 1) := eqB (e.at 169 _ rfl rfl) rfl
  have e183 : σ.bval 183 = (!σ.bval 182) := eqB (e.at 170 _ rfl rfl) rfl
  have e184 : σ.ival 184 = ((σ.ival 12 : Int).fdiv (2 ^ (min (4 : Int).toNat IntKind.u8.bits))) := eqI (e.at 171 _ rfl rfl) rfl
  have e185 : σ.ival 185 = IntKind.u8.wrap (BitVec.ofInt IntKind.u8.bits (σ.ival 184) &&& BitVec.ofInt IntKind.u8.bits (1)).toNat := eqI (e.at 172 _ rfl rfl) rfl
  have e186 : σ.bval 186 = (σ.ival 185 == 1) := eqB (e.at 173 _ rfl rfl) rfl
  have e187 : σ.bval 187 = (!σ.bval 186) := eqB (e.at 174 _ rfl rfl) rfl
  have e188 : σ.bval 188 = (!σ.bval 187) := eqB (e.at 175 _ rfl rfl) rfl
  have e189 : σ.bval 189 = (!σ.bval 188) := eqB (e.at 176 _ rfl rfl) rfl
  have e190 : σ.bval 190 = (bif σ.bval 183 then false else σ.bval 189) := eqIteB (e.at 177 _ rfl rfl) rfl rfl rfl
  have e191 : σ.bval 191 = (bif σ.bval 179 then false else σ.bval 190) := eqIteB (e.at 178 _ rfl rfl) rfl rfl rfl
  have e192 : σ.bval 192 = decide (σ.ival 6 > σ.ival 30) := eqB (e.at 179 _ rfl rfl) rfl
  have e193 : σ.bval 193 = (!σ.bval 174) := eqB (e.at 180 _ rfl rfl) rfl
  have e194 : σ.bval 194 = decide (σ.ival 6 > σ.ival 2) := eqB (e.at 181 _ rfl rfl) rfl
  have e195 : σ.bval 195 = decide (σ.ival 6 > σ.ival 3) := eqB (e.at 182 _ rfl rfl) rfl
  have e196 : σ.bval 196 = decide (σ.ival 6 > σ.ival 4) := eqB (e.at 183 _ rfl rfl) rfl
  have e197 : σ.bval 197 = decide (σ.ival 6 > σ.ival 5) := eqB (e.at 184 _ rfl rfl) rfl
  have e198 : σ.bval 198 = decide (σ.ival 6 > σ.ival 7) := eqB (e.at 185 _ rfl rfl) rfl
  have e199 : σ.bval 199 = decide (σ.ival 6 > σ.ival 8) := eqB (e.at 186 _ rfl rfl) rfl
  have e200 : σ.bval 200 = decide (σ.ival 6 > σ.ival 9) := eqB (e.at 187 _ rfl rfl) rfl
  have e201 : σ.bval 201 = (σ.ival 175 == 6) := eqB (e.at 188 _ rfl rfl) rfl
  have e202 : σ.bval 202 = (bif σ.bval 201 then σ.bval 199 else σ.bval 200) := eqIteB (e.at 189 _ rfl rfl) rfl rfl rfl
  have e203 : σ.bval 203 = (σ.ival 175 == 5) := eqB (e.at 190 _ rfl rfl) rfl
  have e204 : σ.bval 204 = (bif σ.bval 203 then σ.bval 198 else σ.bval 202) := eqIteB (e.at 191 _ rfl rfl) rfl rfl rfl
  have e205 : σ.bval 205 = (σ.ival 175 == 4) := eqB (e.at 192 _ rfl rfl) rfl
  have e206 : σ.bval 206 = (bif σ.bval 205 then false else σ.bval 204) := eqIteB (e.at 193 _ rfl rfl) rfl rfl rfl
  have e207 : σ.bval 207 = (σ.ival 175 == 3) := eqB (e.at 194 _ rfl rfl) rfl
  have e208 : σ.bval 208 = (bif σ.bval 207 then σ.bval 197 else σ.bval 206) := eqIteB (e.at 195 _ rfl rfl) rfl rfl rfl
  have e209 : σ.bval 209 = (σ.ival 175 == 2) := eqB (e.at 196 _ rfl rfl) rfl
  have e210 : σ.bval 210 = (bif σ.bval 209 then σ.bval 196 else σ.bval 208) := eqIteB (e.at 197 _ rfl rfl) rfl rfl rfl
  have e211 : σ.bval 211 = (σ.ival 175 == 1) := eqB (e.at 198 _ rfl rfl) rfl
  have e212 : σ.bval 212 = (bif σ.bval 211 then σ.bval 195 else σ.bval 210) := eqIteB (e.at 199 _ rfl rfl) rfl rfl rfl
  have e213 : σ.bval 213 = (σ.ival 175 == 0) := eqB (e.at 200 _ rfl rfl) rfl
  have e214 : σ.bval 214 = (bif σ.bval 213 then σ.bval 194 else σ.bval 212) := eqIteB (e.at 201 _ rfl rfl) rfl rfl rfl
  have e215 : σ.bval 215 = (bif σ.bval 214 then true else σ.bval 174) := eqIteB (e.at 202 _ rfl rfl) rfl rfl rfl
  have e216 : σ.ival 216 = (bif σ.bval 214 then 4 else σ.ival 175) := eqIteI (e.at 203 _ rfl rfl) rfl rfl rfl
  have e217 : σ.bval 217 = (bif σ.bval 193 then true else σ.bval 215) := eqIteB (e.at 204 _ rfl rfl) rfl rfl rfl
  have e218 : σ.ival 218 = (bif σ.bval 193 then 4 else σ.ival 216) := eqIteI (e.at 205 _ rfl rfl) rfl rfl rfl
  have e219 : σ.bval 219 = (bif σ.bval 192 then σ.bval 217 else σ.bval 174) := eqIteB (e.at 206 _ rfl rfl) rfl rfl rfl
  have e220 : σ.ival 220 = (bif σ.bval 192 then σ.ival 218 else σ.ival 175) := eqIteI (e.at 207 _ rfl rfl) rfl rfl rfl
  have e221 : σ.bval 221 = (bif σ.bval 191 then σ.bval 219 else σ.bval 174) := eqIteB (e.at 208 _ rfl rfl) rfl rfl rfl
  have e222 : σ.ival 222 = (bif σ.bval 191 then σ.ival 220 else σ.ival 175) := eqIteI (e.at 209 _ rfl rfl) rfl rfl rfl
  have hfree : σ.bval 191 = (bitI (σ.ival 1) 4 && bitI (σ.ival 0) 4 && !bitI (σ.ival 12) 4) := by
    rw [e191, e190, e179, e178, e177, e176, e183, e182, e181, e180, e189, e188, e187, e186, e185, e184]
    rw [bitA (v := 4) (by decide) h1, bitA (v := 4) (by decide) h0, bitA (v := 4) (by decide) h12]
    cases bitI (σ.ival 1) 4 <;> cases bitI (σ.ival 0) 4 <;> cases bitI (σ.ival 12) 4 <;> rfl
  have hgt : σ.bval 192 = (decide ((σ.ival 6) > 0) && decide ((σ.ival 6) > σ.ival 10)) := by rw [e192, e30]; exact maxI _ _
  have hmay : mayI (σ.ival 0) (σ.ival 1) (σ.ival 12) (σ.ival 10) (σ.ival 6) 4 = (σ.bval 191 && σ.bval 192) := by rw [hfree, hgt]; simp only [mayI, Bool.and_assoc]
  rw [hmay]
  clear hfree hgt hmay e30 e176 e177 e178 e179 e180 e181 e182 e183 e184 e185 e186 e187 e188 e189 e190 e191 e192
  generalize σ.bval 191 = x at *
  generalize σ.bval 192 = y at *
  have hc : σ.bval 214 = decide ((σ.ival 6) > prAt (σ.ival 2) (σ.ival 3) (σ.ival 4) (σ.ival 5) (σ.ival 6) (σ.ival 7) (σ.ival 8) (σ.ival 9) (σ.ival 175)) ∨ σ.ival 175 = -1 := by
    rcases (by omega : σ.ival 175 = -1 ∨ σ.ival 175 = 0 ∨ σ.ival 175 = 1 ∨ σ.ival 175 = 2 ∨ σ.ival 175 = 3) with hk | hk | hk | hk | hk
    · exact .inr hk
    · left; simp [prAt, hk, e194, e195, e196, e197, e198, e199, e200, e201, e202, e203, e204, e205, e206, e207, e208, e209, e210, e211, e212, e213, e214]
    · left; simp [prAt, hk, e194, e195, e196, e197, e198, e199, e200, e201, e202, e203, e204, e205, e206, e207, e208, e209, e210, e211, e212, e213, e214]
    · left; simp [prAt, hk, e194, e195, e196, e197, e198, e199, e200, e201, e202, e203, e204, e205, e206, e207, e208, e209, e210, e211, e212, e213, e214]
    · left; simp [prAt, hk, e194, e195, e196, e197, e198, e199, e200, e201, e202, e203, e204, e205, e206, e207, e208, e209, e210, e211, e212, e213, e214]
  rw [e222, e221, e220, e219, e218, e217, e216, e215]
  simp only [e193, hf, nextI]
  rcases hc with hc | hc
  · rw [hc]
    rcases (by omega : σ.ival 175 < 0 ∨ 0 ≤ σ.ival 175) with hn | hn
    · have hn2 : ¬ 0 ≤ σ.ival 175 := by omega
      cases x <;> cases y <;> simp [hn, hn2]
    · have hn2 : ¬ σ.ival 175 < 0 := by omega
      cases x <;> cases y <;> simp [hn, hn2]
      all_goals exact bif_nn _ (by omega) hn
  · cases x <;> cases y <;> simp [hc]

set_option maxHeartbeats 1000000 in
theorem choose_5 (σ : Sig) (e : Eqs σ 13 chooseG) (h0 : 0 ≤ σ.ival 0) (h1 : 0 ≤ σ.ival 1) (h12 : 0 ≤ σ.ival 12) (hb : -1 ≤ σ.ival 222 ∧ σ.ival 222 ≤ 4) (hf : σ.bval 221 = decide (0 ≤ σ.ival 222)) :
    σ.ival 269 = nextI (mayI (σ.ival 0) (σ.ival 1) (σ.ival 12) (σ.ival 10) (σ.ival 7) 5) (σ.ival 7) (prAt (σ.ival 2) (σ.ival 3) (σ.ival 4) (σ.ival 5) (σ.ival 6) (σ.ival 7) (σ.ival 8) (σ.ival 9) (σ.ival 222)) (σ.ival 222) 5 ∧ σ.bval 268 = decide (0 ≤ σ.ival 269) := by
  have e30 : σ.ival 30 = (if σ.ival 10 > 0 then σ.ival 10 else 0) := eqI (e.at 17 _ rfl rfl) rfl
  have e223 : σ.ival 223 = ((σ.ival 1 : Int).fdiv (2 ^ (min (5 : Int).toNat IntKind.u8.bits))) := eqI (e.at 210 _ rfl rfl) rfl
  have e224 : σ.ival 224 = IntKind.u8.wrap (BitVec.ofInt IntKind.u8.bits (σ.ival 223) &&& BitVec.ofInt IntKind.u8.bits (1)).toNat := eqI (e.at 211 _ rfl rfl) rfl
  have e225 : σ.bval 225 = (σ.ival 224 == 1) := eqB (e.at 212 _ rfl rfl) rfl
  have e226 : σ.bval 226 = (!σ.bval 225) := eqB (e.at 213 _ rfl rfl) rfl
  have e227 : σ.ival 227 = ((σ.ival 0 : Int).fdiv (2 ^ (min (5 : Int).toNat IntKind.u8.bits))) := eqI (e.at 214 _ rfl rfl) rfl
  have e228 : σ.ival 228 = IntKind.u8.wrap (BitVec.ofInt IntKind.u8.bits (σ.ival 227) &&& BitVec.ofInt IntKind.u8.bits (1)).toNat := eqI (e.at 215 _ rfl rfl) rfl
  have e229 : σ.bval 229 = (σ.ival 228 == 1) := eqB (e.at 216 _ rfl rfl) rfl
  have e230 : σ.bval 230 = (!σ.bval 229) := eqB (e.at 217 _ rfl rfl) rfl
  have e231 : σ.ival 231 = ((σ.ival 12 : Int).fdiv (2 ^ (min (5 : Int).toNat IntKind.u8.bits))) := eqI (e.at 218 _ rfl rfl) rfl
  have e232 : σ.ival 232 = IntKind.u8.wrap (BitVec.ofInt IntKind.u8.bits (σ.ival 231) &&& BitVec.ofInt IntKind.u8.bits (1)).toNat := eqI (e.at 219 _ rfl rfl) rfl
  have e233 : σ.bval 233 = (σ.ival 232 == 1) := eqB (e.at 220 _ rfl rfl) rfl
  have e234 : σ.bval 234 = (!σ.bval 233) := eqB (e.at 221 _ rfl rfl) rfl
  have e235 : σ.bval 235 = (!σ.bval 234) := eqB (e.at 222 _ rfl rfl) rfl
  have e236 : σ.bval 236 = (!σ.bval 235) := eqB (e.at 223 _ rfl rfl) rfl
  have e237 : σ.bval 237 = (bif σ.bval 230 then false else σ.bval 236) := eqIteB (e.at 224 _ rfl rfl) rfl rfl rfl
  have e238 : σ.bval 238 = (bif σ.bval 226 then false else σ.bval 237) := eqIteB (e.at 225 _ rfl rfl) rfl rfl rfl
  have e239 : σ.bval 239 = decide (σ.ival 7 > σ.ival 30) := eqB (e.at 226 _ rfl rfl) rfl
  have e240 : σ.bval 240 = (!σ.bval 221) := eqB (e.at 227 _ rfl rfl) rfl
  have e241 : σ.bval 241 = decide (σ.ival 7 > σ.ival 2) := eqB (e.at 228 _ rfl rfl) rfl
  have e242 : σ.bval 242 = decide (σ.ival 7 > σ.ival 3) := eqB (e.at 229 _ rfl rfl) rfl
  have e243 : σ.bval 243 = decide (σ.ival 7 > σ.ival 4) := eqB (e.at 230 _ rfl rfl) rfl
  have e244 : σ.bval 244 = decide (σ.ival 7 > σ.ival 5) := eqB (e.at 231 _ rfl rfl) rfl
  have e245 : σ.bval 245 = decide (σ.ival 7 > σ.ival 6) := eqB (e.at 232 _ rfl rfl) rfl
  have e246 : σ.bval 246 = decide (σ.ival 7 > σ.ival 8) := eqB (e.at 233 _ rfl rfl) rfl
  have e247 : σ.bval 247 = decide (σ.ival 7 > σ.ival 9) := eqB (e.at 234 _ rfl rfl) rfl
  have e248 : σ.bval 248 = (σ.ival 222 == 6) := eqB (e.at 235 _ rfl rfl) rfl
  have e249 : σ.bval 249 = (bif σ.bval 248 then σ.bval 246 else σ.bval 247) := eqIteB (e.at 236 _ rfl rfl) rfl rfl rfl
  have e250 : σ.bval 250 = (σ.ival 222 == 5) := eqB (e.at 237 _ rfl rfl) rfl
  have e251 : σ.bval 251 = (bif σ.bval 250 then false else σ.bval 249) := eqIteB (e.at 238 _ rfl rfl) rfl rfl rfl
  have e252 : σ.bval 252 = (σ.ival 222 == 4) := eqB (e.at 239 _ rfl rfl) rfl
  have e253 : σ.bval 253 = (bif σ.bval 252 then σ.bval 245 else σ.bval 251) := eqIteB (e.at 240 _ rfl rfl) rfl rfl rfl
  have e254 : σ.bval 254 = (σ.ival 222 == 3) := eqB (e.at 241 _ rfl rfl) rfl
  have e255 : σ.bval 255 = (bif σ.bval 254 then σ.bval 244 else σ.bval 253) := eqIteB (e.at 242 _ rfl rfl) rfl rfl rfl
  have e256 : σ.bval 256 = (σ.ival 222 == 2) := eqB (e.at 243 _ rfl rfl) rfl
  have e257 : σ.bval 257 = (bif σ.bval 256 then σ.bval 243 else σ.bval 255) := eqIteB (e.at 244 _ rfl rfl) rfl rfl rfl
  have e258 : σ.bval 258 = (σ.ival 222 == 1) := eqB (e.at 245 _ rfl rfl) rfl
  have e259 : σ.bval 259 = (bif σ.bval 258 then σ.bval 242 else σ.bval 257) := eqIteB (e.at 246 _ rfl rfl) rfl rfl rfl
  have e260 : σ.bval 260 = (σ.ival 222 == 0) := eqB (e.at 247 _ rfl rfl) rfl
  have e261 : σ.bval 261 = (bif σ.bval 260 then σ.bval 241 else σ.bval 259) := eqIteB (e.at 248 _ rfl rfl) rfl rfl rfl
  have e262 : σ.bval 262 = (bif σ.bval 261 then true else σ.bval 221) := eqIteB (e.at 249 _ rfl rfl) rfl rfl rfl
  have e263 : σ.ival 263 = (bif σ.bval 261 then 5 else σ.ival 222) := eqIteI (e.at 250 _ rfl rfl) rfl rfl rfl
  have e264 : σ.bval 264 = (bif σ.bval 240 then true else σ.bval 262) := eqIteB (e.at 251 _ rfl rfl) rfl rfl rfl
  have e265 : σ.ival 265 = (bif σ.bval 240 then 5 else σ.ival 263) := eqIteI (e.at 252 _ rfl rfl) rfl rfl rfl
  have e266 : σ.bval 266 = (bif σ.bval 239 then σ.bval 264 else σ.bval 221) := eqIteB (e.at 253 _ rfl rfl) rfl rfl rfl
  have e267 : σ.ival 267 = (bif σ.bval 239 then σ.ival 265 else σ.ival 222) := eqIteI (e.at 254 _ rfl rfl) rfl rfl rfl
  have e268 : σ.bval 268 = (bif σ.bval 238 then σ.bval 266 else σ.bval 221) := eqIteB (e.at 255 _ rfl rfl) rfl rfl rfl
  have e269 : σ.ival 269 = (bif σ.bval 238 then σ.ival 267 else σ.ival 222) := eqIteI (e.at 256 _ rfl rfl) rfl rfl rfl
  have hfree : σ.bval 238 = (bitI (σ.ival 1) 5 && bitI (σ.ival 0) 5 && !bitI (σ.ival 12) 5) := by
    rw [e238, e237, e226, e225, e224, e223, e230, e229, e228, e227, e236, e235, e234, e233, e232, e231]
    rw [bitA (v := 5) (by decide) h1, bitA (v := 5) (by decide) h0, bitA (v := 5) (by decide) h12]
    cases bitI (σ.ival 1) 5 <;> cases bitI (σ.ival 0) 5 <;> cases bitI (σ.ival 12) 5 <;> rfl
  have hgt : σ.bval 239 = (decide ((σ.ival 7) > 0) && decide ((σ.ival 7) > σ.ival 10)) := by rw [e239, e30]; exact maxI _ _
  have hmay : mayI (σ.ival 0) (σ.ival 1) (σ.ival 12) (σ.ival 10) (σ.ival 7) 5 = (σ.bval 238 && σ.bval 239) := by rw [hfree, hgt]; simp only [mayI, Bool.and_assoc]
  rw [hmay]
  clear hfree hgt hmay e30 e223 e224 e225 e226 e227 e228 e229 e230 e231 e232 e233 e234 e235 e236 e237 e238 e239
  generalize σ.bval 238 = x at *
  generalize σ.bval 239 = y at *
  have hc : σ.bval 261 = decide ((σ.ival 7) > prAt (σ.ival 2) (σ.ival 3) (σ.ival 4) (σ.ival 5) (σ.ival 6) (σ.ival 7) (σ.ival 8) (σ.ival 9) (σ.ival 222)) ∨ σ.ival 222 = -1 := by
    rcases (by omega : σ.ival 222 = -1 ∨ σ.ival 222 = 0 ∨ σ.ival 222 = 1 ∨ σ.ival 222 = 2 ∨ σ.ival 222 = 3 ∨ σ.ival 222 = 4) with hk | hk | hk | hk | hk | hk
    · exact .inr hk
    · left; simp [prAt, hk, e241, e242, e243, e244, e245, e246, e247, e248, e249, e250, e251, e252, e253, e254, e255, e256, e257, e258, e259, e260, e261]
    · left; simp [prAt, hk, e241, e242, e243, e244, e245, e246, e247, e248, e249, e250, e251, e252, e253, e254, e255, e256, e257, e258, e259, e260, e261]
    · left; simp [prAt, hk, e241, e242, e243, e244, e245, e246, e247, e248, e249, e250, e251, e252, e253, e254, e255, e256, e257, e258, e259, e260, e261]
    · left; simp [prAt, hk, e241, e242, e243, e244, e245, e246, e247, e248, e249, e250, e251, e252, e253, e254, e255, e256, e257, e258, e259, e260, e261]
    · left; simp [prAt, hk, e241, e242, e243, e244, e245, e246, e247, e248, e249, e250, e251, e252, e253, e254, e255, e256, e257, e258, e259, e260, e261]
  rw [e269, e268, e267, e266, e265, e264, e263, e262]
  simp only [e240, hf, nextI]
  rcases hc with hc | hc
  · rw [hc]
    rcases (by omega : σ.ival 222 < 0 ∨ 0 ≤ σ.ival 222) with hn | hn
    · have hn2 : ¬ 0 ≤ σ.ival 222 := by omega
      cases x <;> cases y <;> simp [hn, hn2]
    · have hn2 : ¬ σ.ival 222 < 0 := by omega
      cases x <;> cases y <;> simp [hn, hn2]
      all_goals exact bif_nn _ (by omega) hn
  · cases x <;> cases y <;> simp [hc]

set_option maxHeartbeats 1000000 in
theorem choose_6 (σ : Sig) (e : Eqs σ 13 chooseG) (h0 : 0 ≤ σ.ival 0) (h1 : 0 ≤ σ.ival 1) (h12 : 0 ≤ σ.ival 12) (hb : -1 ≤ σ.ival 269 ∧ σ.ival 269 ≤ 5) (hf : σ.bval 268 = decide (0 ≤ σ.ival 269)) :
    σ.ival 316 = nextI (mayI (σ.ival 0) (σ.ival 1) (σ.ival 12) (σ.ival 10) (σ.ival 8) 6) (σ.ival 8) (prAt (σ.ival 2) (σ.ival 3) (σ.ival 4) (σ.ival 5) (σ.ival 6) (σ.ival 7) (σ.ival 8) (σ.ival 9) (σ.ival 269)) (σ.ival 269) 6 ∧ σ.bval 315 = decide (0 ≤ σ.ival 316) := by
  have e30 : σ.ival 30 = (if σ.ival 10 > 0 then σ.ival 10 else 0) := eqI (e.at 17 _ rfl rfl) rfl
  have e270 : σ.ival 270 = ((σ.ival 1 : Int).fdiv (2 ^ (min (6 : Int).toNat IntKind.u8.bits))) := eqI (e.at 257 _ rfl rfl) rfl
  have e271 : σ.ival 271 = IntKind.u8.wrap (BitVec.ofInt IntKind.u8.bits (σ.ival 270) &&& BitVec.ofInt IntKind.u8.bits (1)).toNat := eqI (e.at 258 _ rfl rfl) rfl
  have e272 : σ.bval 272 = (σ.ival 271 == 1) := eqB (e.at 259 _ rfl rfl) rfl
  have e273 : σ.bval 273 = (!σ.bval 272) := eqB (e.at 260 _ rfl rfl) rfl
  have e274 : σ.ival 274 = ((σ.ival 0 : Int).fdiv (2 ^ (min (6 : Int).toNat IntKind.u8.bits))) := eqI (e.at 261 _ rfl rfl) rfl
  have e275 : σ.ival 275 = IntKind.u8.wrap (BitVec.ofInt IntKind.u8.bits (σ.ival 274) &&& BitVec.ofInt IntKind.u8.bits (1)).toNat := eqI (e.at 262 _ rfl rfl) rfl
  have e276 : σ.bval 276 = (σ.ival 275 == 1) := eqB (e.at 263 _ rfl rfl) rfl
  have e277 : σ.bval 277 = (!σ.bval 276) := eqB (e.at 264 _ rfl rfl) rfl
  have e278 : σ.ival 278 = ((σ.ival 12 : Int).fdiv (2 ^ (min (6 : Int).toNat IntKind.u8.bits))) := eqI (e.at 265 _ rfl rfl) rfl
  have e279 : σ.ival 279 = IntKind.u8.wrap (BitVec.ofInt IntKind.u8.bits (σ.ival 278) &&& BitVec.ofInt IntKind.u8.bits (1)).toNat := eqI (e.at 266 _ rfl rfl) rfl
  have e280 : σ.bval 280 = (σ.ival 279 == 1) := eqB (e.at 267 _ rfl rfl) rfl
  have e281 : σ.bval 281 = (!σ.bval 280) := eqB (e.at 268 _ rfl rfl) rfl
  have e282 : σ.bval 282 = (!σ.bval 281) := eqB (e.at 269 _ rfl rfl) rfl
  have e283 : σ.bval 283 = (!σ.bval 282) := eqB (e.at 270 _ rfl rfl) rfl
  have e284 : σ.bval 284 = (bif σ.bval 277 then false else σ.bval 283) := eqIteB (e.at 271 _ rfl rfl) rfl rfl rfl
  have e285 : σ.bval 285 = (bif σ.bval 273 then false else σ.bval 284) := eqIteB (e.at 272 _ rfl rfl) rfl rfl rfl
  have e286 : σ.bval 286 = decide (σ.ival 8 > σ.ival 30) := eqB (e.at 273 _ rfl rfl) rfl
  have e287 : σ.bval 287 = (!σ.bval 268) := eqB (e.at 274 _ rfl rfl) rfl
  have e288 : σ.bval 288 = decide (σ.ival 8 > σ.ival 2) := eqB (e.at 275 _ rfl rfl) rfl
  have e289 : σ.bval 289 = decide (σ.ival 8 > σ.ival 3) := eqB (e.at 276 _ rfl rfl) rfl
  have e290 : σ.bval 290 = decide (σ.ival 8 > σ.ival 4) := eqB (e.at 277 _ rfl rfl) rfl
  have e291 : σ.bval 291 = decide (σ.ival 8 > σ.ival 5) := eqB (e.at 278 _ rfl rfl) rfl
  have e292 : σ.bval 292 = decide (σ.ival 8 > σ.ival 6) := eqB (e.at 279 _ rfl rfl) rfl
  have e293 : σ.bval 293 = decide (σ.ival 8 > σ.ival 7) := eqB (e.at 280 _ rfl rfl) rfl
  have e294 : σ.bval 294 = decide (σ.ival 8 > σ.ival 9) := eqB (e.at 281 _ rfl rfl) rfl
  have e295 : σ.bval 295 = (σ.ival 269 == 6) := eqB (e.at 282 _ rfl rfl) rfl
  have e296 : σ.bval 296 = (bif σ.bval 295 then false else σ.bval 294) := eqIteB (e.at 283 _ rfl rfl) rfl rfl rfl
  have e297 : σ.bval 297 = (σ.ival 269 == 5) := eqB (e.at 284 _ rfl rfl) rfl
  have e298 : σ.bval 298 = (bif σ.bval 297 then σ.bval 293 else σ.bval 296) := eqIteB (e.at 285 _ rfl rfl) rfl rfl rfl
  have e299 : σ.bval 299 = (σ.ival 269 == 4) := eqB (e.at 286 _ rfl rfl) rfl
  have e300 : σ.bval 300 = (bif σ.bval 299 then σ.bval 292 else σ.bval 298) := eqIteB (e.at 287 _ rfl rfl) rfl rfl rfl
  have e301 : σ.bval 301 = (σ.ival 269 == 3) := eqB (e.at 288 _ rfl rfl) rfl
  have e302 : σ.bval 302 = (bif σ.bval 301 then σ.bval 291 else σ.bval 300) := eqIteB (e.at 289 _ rfl rfl) rfl rfl rfl
  have e303 : σ.bval 303 = (σ.ival 269 == 2) := eqB (e.at 290 _ rfl rfl) rfl
  have e304 : σ.bval 304 = (bif σ.bval 303 then σ.bval 290 else σ.bval 302) := eqIteB (e.at 291 _ rfl rfl) rfl rfl rfl
  have e305 : σ.bval 305 = (σ.ival 269 == 1) := eqB (e.at 292 _ rfl rfl) rfl
  have e306 : σ.bval 306 = (bif σ.bval 305 then σ.bval 289 else σ.bval 304) := eqIteB (e.at 293 _ rfl rfl) rfl rfl rfl
  have e307 : σ.bval 307 = (σ.ival 269 == 0) := eqB (e.at 294 _ rfl rfl) rfl
  have e308 : σ.bval 308 = (bif σ.bval 307 then σ.bval 288 else σ.bval 306) := eqIteB (e.at 295 _ rfl rfl) rfl rfl rfl
  have e309 : σ.bval 309 = (bif σ.bval 308 then true else σ.bval 268) := eqIteB (e.at 296 _ rfl rfl) rfl rfl rfl
  have e310 : σ.ival 310 = (bif σ.bval 308 then 6 else σ.ival 269) := eqIteI (e.at 297 _ rfl rfl) rfl rfl rfl
  have e311 : σ.bval 311 = (bif σ.bval 287 then true else σ.bval 309) := eqIteB (e.at 298 _ rfl rfl) rfl rfl rfl
  have e312 : σ.ival 312 = (bif σ.bval 287 then 6 else σ.ival 310) := eqIteI (e.at 299 _ rfl rfl) rfl rfl rfl
  have e313 : σ.bval 313 = (bif σ.bval 286 then σ.bval 311 else σ.bval 268) := eqIteB (e.at 300 _ rfl rfl) rfl rfl rfl
  have e314 : σ.ival 314 = (bif σ.bval 286 then σ.ival 312 else σ.ival 269) := eqIteI (e.at 301 _ rfl rfl) rfl rfl rfl
  have e315 : σ.bval 315 = (bif σ.bval 285 then σ.bval 313 else σ.bval 268) := eqIteB (e.at 302 _ rfl rfl) rfl rfl rfl
  have e316 : σ.ival 316 = (bif σ.bval 285 then σ.ival 314 else σ.ival 269) := eqIteI (e.at 303 _ rfl rfl) rfl rfl rfl
  have hfree : σ.bval 285 = (bitI (σ.ival 1) 6 && bitI (σ.ival 0) 6 && !bitI (σ.ival 12) 6) := by
    rw [e285, e284, e273, e272, e271, e270, e277, e276, e275, e274, e283, e282, e281, e280, e279, e278]
    rw [bitA (v := 6) (by decide) h1, bitA (v := 6) (by decide) h0, bitA (v := 6) (by decide) h12]
    cases bitI (σ.ival 1) 6 <;> cases bitI (σ.ival 0) 6 <;> cases bitI (σ.ival 12) 6 <;> rfl
  have hgt : σ.bval 286 = (decide ((σ.ival 8) > 0) && decide ((σ.ival 8) > σ.ival 10)) := by rw [e286, e30]; exact maxI _ _
  have hmay : mayI (σ.ival 0) (σ.ival 1) (σ.ival 12) (σ.ival 10) (σ.ival 8) 6 = (σ.bval 285 && σ.bval 286) := by rw [hfree, hgt]; simp only [mayI, Bool.and_assoc]
  rw [hmay]
  clear hfree hgt hmay e30 e270 e271 e272 e273 e274 e275 e276 e277 e278 e279 e280 e281 e282 e283 e284 e285 e286
  generalize σ.bval 285 = x at *
  generalize σ.bval 286 = y at *
  have hc : σ.bval 308 = decide ((σ.ival 8) > prAt (σ.ival 2) (σ.ival 3) (σ.ival 4) (σ.ival 5) (σ.ival 6) (σ.ival 7) (σ.ival 8) (σ.ival 9) (σ.ival 269)) ∨ σ.ival 269 = -1 := by
    rcases (by omega : σ.ival 269 = -1 ∨ σ.ival 269 = 0 ∨ σ.ival 269 = 1 ∨ σ.ival 269 = 2 ∨ σ.ival 269 = 3 ∨ σ.ival 269 = 4 ∨ σ.ival 269 = 5) with hk | hk | hk | hk | hk | hk | hk
    · exact .inr hk
    · left; simp [prAt, hk, e288, e289, e290, e291, e292, e293, e294, e295, e296, e297, e298, e299, e300, e301, e302, e303, e304, e305, e306, e307, e308]
    · left; simp [prAt, hk, e288, e289, e290, e291, e292, e293, e294, e295, e296, e297, e298, e299, e300, e301, e302, e303, e304, e305, e306, e307, e308]
    · left; simp [prAt, hk, e288, e289, e290, e291, e292, e293, e294, e295, e296, e297, e298, e299, e300, e301, e302, e303, e304, e305, e306, e307, e308]
    · left; simp [prAt, hk, e288, e289, e290, e291, e292, e293, e294, e295, e296, e297, e298, e299, e300, e301, e302, e303, e304, e305, e306, e307, e308]
    · left; simp [prAt, hk, e288, e289, e290, e291, e292, e293, e294, e295, e296, e297, e298, e299, e300, e301, e302, e303, e304, e305, e306, e307, e308]
    · left; simp [prAt, hk, e288, e289, e290, e291, e292, e293, e294, e295, e296, e297, e298, e299, e300, e301, e302, e303, e304, e305, e306, e307, e308]
  rw [e316, e315, e314, e313, e312, e311, e310, e309]
  simp only [e287, hf, nextI]
  rcases hc with hc | hc
  · rw [hc]
    rcases (by omega : σ.ival 269 < 0 ∨ 0 ≤ σ.ival 269) with hn | hn
    · have hn2 : ¬ 0 ≤ σ.ival 269 := by omega
      cases x <;> cases y <;> simp [hn, hn2]
    · have hn2 : ¬ σ.ival 269 < 0 := by omega
      cases x <;> cases y <;> simp [hn, hn2]
      all_goals exact bif_nn _ (by omega) hn
  · cases x <;> cases y <;> simp [hc]

set_option maxHeartbeats 1000000 in
theorem choose_7 (σ : Sig) (e : Eqs σ 13 chooseG) (h0 : 0 ≤ σ.ival 0) (h1 : 0 ≤ σ.ival 1) (h12 : 0 ≤ σ.ival 12) (hb : -1 ≤ σ.ival 316 ∧ σ.ival 316 ≤ 6) (hf : σ.bval 315 = decide (0 ≤ σ.ival 316)) :
    σ.ival 359 = nextI (mayI (σ.ival 0) (σ.ival 1) (σ.ival 12) (σ.ival 10) (σ.ival 9) 7) (σ.ival 9) (prAt (σ.ival 2) (σ.ival 3) (σ.ival 4) (σ.ival 5) (σ.ival 6) (σ.ival 7) (σ.ival 8) (σ.ival 9) (σ.ival 316)) (σ.ival 316) 7 := by
  have e30 : σ.ival 30 = (if σ.ival 10 > 0 then σ.ival 10 else 0) := eqI (e.at 17 _ rfl rfl) rfl
  have e317 : σ.ival 317 = ((σ.ival 1 : Int).fdiv (2 ^ (min (7 : Int).toNat IntKind.u8.bits))) := eqI (e.at 304 _ rfl rfl) rfl
  have e318 : σ.ival 318 = IntKind.u8.wrap (BitVec.ofInt IntKind.u8.bits (σ.ival 317) &&& BitVec.ofInt IntKind.u8.bits (1)).toNat := eqI (e.at 305 _ rfl rfl) rfl
  have e319 : σ.bval 319 = (σ.ival 318 == 1) := eqB (e.at 306 _ rfl rfl) rfl
  have e320 : σ.bval 320 = (!σ.bval 319) := eqB (e.at 307 _ rfl rfl) rfl
  have e321 : σ.ival 321 = ((σ.ival 0 : Int).fdiv (2 ^ (min (7 : Int).toNat IntKind.u8.bits))) := eqI (e.at 308 _ rfl rfl) rfl
  have e322 : σ.ival 322 = IntKind.u8.wrap (BitVec.ofInt IntKind.u8.bits (σ.ival 321) &&& BitVec.ofInt IntKind.u8.bits (1)).toNat := eqI (e.at 309 _ rfl rfl) rfl
  have e323 : σ.bval 323 = (σ.ival 322 == 1) := eqB (e.at 310 _ rfl rfl) rfl
  have e324 : σ.bval 324 = (!σ.bval 323) := eqB (e.at 311 _ rfl rfl) rfl
  have e325 : σ.ival 325 = ((σ.ival 12 : Int).fdiv (2 ^ (min (7 : Int).toNat IntKind.u8.bits))) := eqI (e.at 312 _ rfl rfl) rfl
  have e326 : σ.ival 326 = IntKind.u8.wrap (BitVec.ofInt IntKind.u8.bits (σ.ival 325) &&& BitVec.ofInt IntKind.u8.bits (1)).toNat := eqI (e.at 313 _ rfl rfl) rfl
  have e327 : σ.bval 327 = (σ.ival 326 == 1) := eqB (e.at 314 _ rfl rfl) rfl
  have e328 : σ.bval 328 = (!σ.bval 327) := eqB (e.at 315 _ rfl rfl) rfl
  have e329 : σ.bval 329 = (!σ.bval 328) := eqB (e.at 316 _ rfl rfl) rfl
  have e330 : σ.bval 330 = (!σ.bval 329) := eqB (e.at 317 _ rfl rfl) rfl
  have e331 : σ.bval 331 = (bif σ.bval 324 then false else σ.bval 330) := eqIteB (e.at 318 _ rfl rfl) rfl rfl rfl
  have e332 : σ.bval 332 = (bif σ.bval 320 then false else σ.bval 331) := eqIteB (e.at 319 _ rfl rfl) rfl rfl rfl
  have e333 : σ.bval 333 = decide (σ.ival 9 > σ.ival 30) := eqB (e.at 320 _ rfl rfl) rfl
  have e334 : σ.bval 334 = (!σ.bval 315) := eqB (e.at 321 _ rfl rfl) rfl
  have e335 : σ.bval 335 = decide (σ.ival 9 > σ.ival 2) := eqB (e.at 322 _ rfl rfl) rfl
  have e336 : σ.bval 336 = decide (σ.ival 9 > σ.ival 3) := eqB (e.at 323 _ rfl rfl) rfl
  have e337 : σ.bval 337 = decide (σ.ival 9 > σ.ival 4) := eqB (e.at 324 _ rfl rfl) rfl
  have e338 : σ.bval 338 = decide (σ.ival 9 > σ.ival 5) := eqB (e.at 325 _ rfl rfl) rfl
  have e339 : σ.bval 339 = decide (σ.ival 9 > σ.ival 6) := eqB (e.at 326 _ rfl rfl) rfl
  have e340 : σ.bval 340 = decide (σ.ival 9 > σ.ival 7) := eqB (e.at 327 _ rfl rfl) rfl
  have e341 : σ.bval 341 = decide (σ.ival 9 > σ.ival 8) := eqB (e.at 328 _ rfl rfl) rfl
  have e342 : σ.bval 342 = (σ.ival 316 == 6) := eqB (e.at 329 _ rfl rfl) rfl
  have e343 : σ.bval 343 = (bif σ.bval 342 then σ.bval 341 else false) := eqIteB (e.at 330 _ rfl rfl) rfl rfl rfl
  have e344 : σ.bval 344 = (σ.ival 316 == 5) := eqB (e.at 331 _ rfl rfl) rfl
  have e345 : σ.bval 345 = (bif σ.bval 344 then σ.bval 340 else σ.bval 343) := eqIteB (e.at 332 _ rfl rfl) rfl rfl rfl
  have e346 : σ.bval 346 = (σ.ival 316 == 4) := eqB (e.at 333 _ rfl rfl) rfl
  have e347 : σ.bval 347 = (bif σ.bval 346 then σ.bval 339 else σ.bval 345) := eqIteB (e.at 334 _ rfl rfl) rfl rfl rfl
  have e348 : σ.bval 348 = (σ.ival 316 == 3) := eqB (e.at 335 _ rfl rfl) rfl
  have e349 : σ.bval 349 = (bif σ.bval 348 then σ.bval 338 else σ.bval 347) := eqIteB (e.at 336 _ rfl rfl) rfl rfl rfl
  have e350 : σ.bval 350 = (σ.ival 316 == 2) := eqB (e.at 337 _ rfl rfl) rfl
  have e351 : σ.bval 351 = (bif σ.bval 350 then σ.bval 337 else σ.bval 349) := eqIteB (e.at 338 _ rfl rfl) rfl rfl rfl
  have e352 : σ.bval 352 = (σ.ival 316 == 1) := eqB (e.at 339 _ rfl rfl) rfl
  have e353 : σ.bval 353 = (bif σ.bval 352 then σ.bval 336 else σ.bval 351) := eqIteB (e.at 340 _ rfl rfl) rfl rfl rfl
  have e354 : σ.bval 354 = (σ.ival 316 == 0) := eqB (e.at 341 _ rfl rfl) rfl
  have e355 : σ.bval 355 = (bif σ.bval 354 then σ.bval 335 else σ.bval 353) := eqIteB (e.at 342 _ rfl rfl) rfl rfl rfl
  have e356 : σ.ival 356 = (bif σ.bval 355 then 7 else σ.ival 316) := eqIteI (e.at 343 _ rfl rfl) rfl rfl rfl
  have e357 : σ.ival 357 = (bif σ.bval 334 then 7 else σ.ival 356) := eqIteI (e.at 344 _ rfl rfl) rfl rfl rfl
  have e358 : σ.ival 358 = (bif σ.bval 333 then σ.ival 357 else σ.ival 316) := eqIteI (e.at 345 _ rfl rfl) rfl rfl rfl
  have e359 : σ.ival 359 = (bif σ.bval 332 then σ.ival 358 else σ.ival 316) := eqIteI (e.at 346 _ rfl rfl) rfl rfl rfl
  have hfree : σ.bval 332 = (bitI (σ.ival 1) 7 && bitI (σ.ival 0) 7 && !bitI (σ.ival 12) 7) := by
    rw [e332, e331, e320, e319, e318, e317, e324, e323, e322, e321, e330, e329, e328, e327, e326, e325]
    rw [bitA (v := 7) (by decide) h1, bitA (v := 7) (by decide) h0, bitA (v := 7) (by decide) h12]
    cases bitI (σ.ival 1) 7 <;> cases bitI (σ.ival 0) 7 <;> cases bitI (σ.ival 12) 7 <;> rfl
  have hgt : σ.bval 333 = (decide ((σ.ival 9) > 0) && decide ((σ.ival 9) > σ.ival 10)) := by rw [e333, e30]; exact maxI _ _
  have hmay : mayI (σ.ival 0) (σ.ival 1) (σ.ival 12) (σ.ival 10) (σ.ival 9) 7 = (σ.bval 332 && σ.bval 333) := by rw [hfree, hgt]; simp only [mayI, Bool.and_assoc]
  rw [hmay]
  clear hfree hgt hmay e30 e317 e318 e319 e320 e321 e322 e323 e324 e325 e326 e327 e328 e329 e330 e331 e332 e333
  generalize σ.bval 332 = x at *
  generalize σ.bval 333 = y at *
  have hc : σ.bval 355 = decide ((σ.ival 9) > prAt (σ.ival 2) (σ.ival 3) (σ.ival 4) (σ.ival 5) (σ.ival 6) (σ.ival 7) (σ.ival 8) (σ.ival 9) (σ.ival 316)) ∨ σ.ival 316 = -1 := by
    rcases (by omega : σ.ival 316 = -1 ∨ σ.ival 316 = 0 ∨ σ.ival 316 = 1 ∨ σ.ival 316 = 2 ∨ σ.ival 316 = 3 ∨ σ.ival 316 = 4 ∨ σ.ival 316 = 5 ∨ σ.ival 316 = 6) with hk | hk | hk | hk | hk | hk | hk | hk
    · exact .inr hk
    · left; simp [prAt, hk, e335, e336, e337, e338, e339, e340, e341, e342, e343, e344, e345, e346, e347, e348, e349, e350, e351, e352, e353, e354, e355]
    · left; simp [prAt, hk, e335, e336, e337, e338, e339, e340, e341, e342, e343, e344, e345, e346, e347, e348, e349, e350, e351, e352, e353, e354, e355]
    · left; simp [prAt, hk, e335, e336, e337, e338, e339, e340, e341, e342, e343, e344, e345, e346, e347, e348, e349, e350, e351, e352, e353, e354, e355]
    · left; simp [prAt, hk, e335, e336, e337, e338, e339, e340, e341, e342, e343, e344, e345, e346, e347, e348, e349, e350, e351, e352, e353, e354, e355]
    · left; simp [prAt, hk, e335, e336, e337, e338, e339, e340, e341, e342, e343, e344, e345, e346, e347, e348, e349, e350, e351, e352, e353, e354, e355]
    · left; simp [prAt, hk, e335, e336, e337, e338, e339, e340, e341, e342, e343, e344, e345, e346, e347, e348, e349, e350, e351, e352, e353, e354, e355]
    · left; simp [prAt, hk, e335, e336, e337, e338, e339, e340, e341, e342, e343, e344, e345, e346, e347, e348, e349, e350, e351, e352, e353, e354, e355]
  rw [e359, e358, e357, e356]
  simp only [e334, hf, nextI]
  rcases hc with hc | hc
  · rw [hc]
    rcases (by omega : σ.ival 316 < 0 ∨ 0 ≤ σ.ival 316) with hn | hn
    · have hn2 : ¬ 0 ≤ σ.ival 316 := by omega
      cases x <;> cases y <;> simp [hn, hn2]
    · have hn2 : ¬ σ.ival 316 < 0 := by omega
      cases x <;> cases y <;> simp [hn, hn2]
      skip
  · cases x <;> cases y <;> simp [hc]

set_option maxHeartbeats 1000000 in
set_option maxHeartbeats 1000000 in
set_option maxHeartbeats 1000000 in
set_option maxHeartbeats 1000000 in
set_option maxHeartbeats 1000000 in
set_option maxHeartbeats 1000000 in
set_option maxHeartbeats 1000000 in
set_option maxHeartbeats 1000000 in
theorem u8_range {n : Int} (h : IntKind.u8.wrap n = n) : 0 ≤ n ∧ n ≤ 255 := by
  simp [IntKind.wrap, IntKind.bits, IntKind.signed] at h; omega

theorem next_range {m : Bool} {p q b v : Int} (hb : -1 ≤ b ∧ b ≤ v - 1) (hv : 0 ≤ v) : -1 ≤ nextI m p q b v ∧ nextI m p q b v ≤ v := by
  unfold nextI
  generalize (m && (decide (b < 0) || decide (p > q))) = z
  cases z <;> simp <;> omega

theorem ob8 {σ : Sig} {i : Nat} (h0 : 0 ≤ σ.ival i) (h7 : σ.ival i ≤ 7) : (Ob.pick i 0 .ok (.pick i 1 .ok (.pick i 2 .ok (.pick i 3 .ok (.pick i 4 .ok (.pick i 5 .ok (.pick i 6 .ok (.pick i 7 .ok .no)))))))).Sat σ := by
  simp only [Ob.Sat, implies_true, true_and]
  intros; omega

def best8 (mask pend p0 p1 p2 p3 p4 p5 p6 p7 lev masked : Int) : Nat → Int
  | 0 => -1
  | v + 1 =>
    let b := best8 mask pend p0 p1 p2 p3 p4 p5 p6 p7 lev masked v
    let p := prAt p0 p1 p2 p3 p4 p5 p6 p7 v
    nextI (mayI mask pend masked lev p v) p (prAt p0 p1 p2 p3 p4 p5 p6 p7 b) b v

/-- The vector that is chosen, and whether one is. -/
def chooseF : List Int → List Int
  | [mask, pend, p0, p1, p2, p3, p4, p5, p6, p7, lev, crit, masked] =>
    if crit > 0 then [-1, 0] else [best8 mask pend p0 p1 p2 p3 p4 p5 p6 p7 lev masked 8, if 0 ≤ best8 mask pend p0 p1 p2 p3 p4 p5 p6 p7 lev masked 8 then 1 else 0]
  | _ => []

set_option maxHeartbeats 2000000 in
set_option maxRecDepth 20000 in
theorem choose_plain (l : List Int) (σ : Sig) (hl : InR (cellsOf ckIns) l) (e : Eqs σ 13 chooseG) (hi : ∀ i, i < 13 → σ.ival i = l.getD i 0) : valsW σ (fun v => OutOk σ ckOuts v (chooseF l)) chooseW [] := by
  have hlen : l.length = 13 := inR_length hl
  rcases l with _ | ⟨a0, l⟩
  · simp at hlen
  rcases l with _ | ⟨a1, l⟩
  · simp at hlen
  rcases l with _ | ⟨a2, l⟩
  · simp at hlen
  rcases l with _ | ⟨a3, l⟩
  · simp at hlen
  rcases l with _ | ⟨a4, l⟩
  · simp at hlen
  rcases l with _ | ⟨a5, l⟩
  · simp at hlen
  rcases l with _ | ⟨a6, l⟩
  · simp at hlen
  rcases l with _ | ⟨a7, l⟩
  · simp at hlen
  rcases l with _ | ⟨a8, l⟩
  · simp at hlen
  rcases l with _ | ⟨a9, l⟩
  · simp at hlen
  rcases l with _ | ⟨a10, l⟩
  · simp at hlen
  rcases l with _ | ⟨a11, l⟩
  · simp at hlen
  rcases l with _ | ⟨a12, l⟩
  · simp at hlen
  rcases l with _ | ⟨a13, l⟩
  rotate_left
  · simp at hlen
  have v0 : σ.ival 0 = a0 := hi 0 (by decide)
  have v1 : σ.ival 1 = a1 := hi 1 (by decide)
  have v2 : σ.ival 2 = a2 := hi 2 (by decide)
  have v3 : σ.ival 3 = a3 := hi 3 (by decide)
  have v4 : σ.ival 4 = a4 := hi 4 (by decide)
  have v5 : σ.ival 5 = a5 := hi 5 (by decide)
  have v6 : σ.ival 6 = a6 := hi 6 (by decide)
  have v7 : σ.ival 7 = a7 := hi 7 (by decide)
  have v8 : σ.ival 8 = a8 := hi 8 (by decide)
  have v9 : σ.ival 9 = a9 := hi 9 (by decide)
  have v10 : σ.ival 10 = a10 := hi 10 (by decide)
  have v11 : σ.ival 11 = a11 := hi 11 (by decide)
  have v12 : σ.ival 12 = a12 := hi 12 (by decide)
  have r0 := u8_range hl.1
  have r1 := u8_range hl.2.1
  have r12 := u8_range hl.2.2.2.2.2.2.2.2.2.2.2.2.1
  clear hi hl hlen
  subst v0 v1 v2 v3 v4 v5 v6 v7 v8 v9 v10 v11 v12
  obtain ⟨s0, f0⟩ := choose_0 σ e r0.1 r1.1 r12.1
  have n0 : -1 ≤ σ.ival 34 ∧ σ.ival 34 ≤ 0 := by rw [s0]; exact next_range (by first | exact ⟨by omega, by omega⟩ | exact ⟨n0.1, by omega⟩) (by omega)
  have b0 : σ.ival 34 = best8 (σ.ival 0) (σ.ival 1) (σ.ival 2) (σ.ival 3) (σ.ival 4) (σ.ival 5) (σ.ival 6) (σ.ival 7) (σ.ival 8) (σ.ival 9) (σ.ival 10) (σ.ival 12) 1 := by rw [s0]; rfl
  obtain ⟨s1, f1⟩ := choose_1 σ e r0.1 r1.1 r12.1 n0 f0
  have n1 : -1 ≤ σ.ival 81 ∧ σ.ival 81 ≤ 1 := by rw [s1]; exact next_range (by first | exact ⟨by omega, by omega⟩ | exact ⟨n0.1, by omega⟩) (by omega)
  have b1 : σ.ival 81 = best8 (σ.ival 0) (σ.ival 1) (σ.ival 2) (σ.ival 3) (σ.ival 4) (σ.ival 5) (σ.ival 6) (σ.ival 7) (σ.ival 8) (σ.ival 9) (σ.ival 10) (σ.ival 12) 2 := by rw [s1, b0]; rfl
  obtain ⟨s2, f2⟩ := choose_2 σ e r0.1 r1.1 r12.1 n1 f1
  have n2 : -1 ≤ σ.ival 128 ∧ σ.ival 128 ≤ 2 := by rw [s2]; exact next_range (by first | exact ⟨by omega, by omega⟩ | exact ⟨n1.1, by omega⟩) (by omega)
  have b2 : σ.ival 128 = best8 (σ.ival 0) (σ.ival 1) (σ.ival 2) (σ.ival 3) (σ.ival 4) (σ.ival 5) (σ.ival 6) (σ.ival 7) (σ.ival 8) (σ.ival 9) (σ.ival 10) (σ.ival 12) 3 := by rw [s2, b1]; rfl
  obtain ⟨s3, f3⟩ := choose_3 σ e r0.1 r1.1 r12.1 n2 f2
  have n3 : -1 ≤ σ.ival 175 ∧ σ.ival 175 ≤ 3 := by rw [s3]; exact next_range (by first | exact ⟨by omega, by omega⟩ | exact ⟨n2.1, by omega⟩) (by omega)
  have b3 : σ.ival 175 = best8 (σ.ival 0) (σ.ival 1) (σ.ival 2) (σ.ival 3) (σ.ival 4) (σ.ival 5) (σ.ival 6) (σ.ival 7) (σ.ival 8) (σ.ival 9) (σ.ival 10) (σ.ival 12) 4 := by rw [s3, b2]; rfl
  obtain ⟨s4, f4⟩ := choose_4 σ e r0.1 r1.1 r12.1 n3 f3
  have n4 : -1 ≤ σ.ival 222 ∧ σ.ival 222 ≤ 4 := by rw [s4]; exact next_range (by first | exact ⟨by omega, by omega⟩ | exact ⟨n3.1, by omega⟩) (by omega)
  have b4 : σ.ival 222 = best8 (σ.ival 0) (σ.ival 1) (σ.ival 2) (σ.ival 3) (σ.ival 4) (σ.ival 5) (σ.ival 6) (σ.ival 7) (σ.ival 8) (σ.ival 9) (σ.ival 10) (σ.ival 12) 5 := by rw [s4, b3]; rfl
  obtain ⟨s5, f5⟩ := choose_5 σ e r0.1 r1.1 r12.1 n4 f4
  have n5 : -1 ≤ σ.ival 269 ∧ σ.ival 269 ≤ 5 := by rw [s5]; exact next_range (by first | exact ⟨by omega, by omega⟩ | exact ⟨n4.1, by omega⟩) (by omega)
  have b5 : σ.ival 269 = best8 (σ.ival 0) (σ.ival 1) (σ.ival 2) (σ.ival 3) (σ.ival 4) (σ.ival 5) (σ.ival 6) (σ.ival 7) (σ.ival 8) (σ.ival 9) (σ.ival 10) (σ.ival 12) 6 := by rw [s5, b4]; rfl
  obtain ⟨s6, f6⟩ := choose_6 σ e r0.1 r1.1 r12.1 n5 f5
  have n6 : -1 ≤ σ.ival 316 ∧ σ.ival 316 ≤ 6 := by rw [s6]; exact next_range (by first | exact ⟨by omega, by omega⟩ | exact ⟨n5.1, by omega⟩) (by omega)
  have b6 : σ.ival 316 = best8 (σ.ival 0) (σ.ival 1) (σ.ival 2) (σ.ival 3) (σ.ival 4) (σ.ival 5) (σ.ival 6) (σ.ival 7) (σ.ival 8) (σ.ival 9) (σ.ival 10) (σ.ival 12) 7 := by rw [s6, b5]; rfl
  have s7 := choose_7 σ e r0.1 r1.1 r12.1 n6 f6
  have n7 : -1 ≤ σ.ival 359 ∧ σ.ival 359 ≤ 7 := by rw [s7]; exact next_range (by first | exact ⟨by omega, by omega⟩ | exact ⟨n6.1, by omega⟩) (by omega)
  have b7 : σ.ival 359 = best8 (σ.ival 0) (σ.ival 1) (σ.ival 2) (σ.ival 3) (σ.ival 4) (σ.ival 5) (σ.ival 6) (σ.ival 7) (σ.ival 8) (σ.ival 9) (σ.ival 10) (σ.ival 12) 8 := by rw [s7, b6]; rfl
  have e13 : σ.bval 13 = decide (σ.ival 11 > 0) := eqB (e.at 0 _ rfl rfl) rfl
  have e360 : σ.bval 360 = decide (σ.ival 359 ≥ 0) := eqB (e.at 347 _ rfl rfl) rfl
  have e52 : σ.bval 52 = (!σ.bval 33) := eqB (e.at 39 _ rfl rfl) rfl
  have e99 : σ.bval 99 = (!σ.bval 80) := eqB (e.at 86 _ rfl rfl) rfl
  have e146 : σ.bval 146 = (!σ.bval 127) := eqB (e.at 133 _ rfl rfl) rfl
  have e193 : σ.bval 193 = (!σ.bval 174) := eqB (e.at 180 _ rfl rfl) rfl
  have e240 : σ.bval 240 = (!σ.bval 221) := eqB (e.at 227 _ rfl rfl) rfl
  have e287 : σ.bval 287 = (!σ.bval 268) := eqB (e.at 274 _ rfl rfl) rfl
  have e334 : σ.bval 334 = (!σ.bval 315) := eqB (e.at 321 _ rfl rfl) rfl
  simp only [valsW, vals, chooseW, Holds, Fact.holds, and_true, true_and]
  refine ⟨?_, ?_, ?_, ?_, ?_, ?_, ?_, ?_, ?_⟩
  · intro h; rw [e13, decide_eq_true_eq] at h
    simp only [OutOk, OutSh, ckOuts, den, denC, chooseF]
    rw [if_pos (by omega)]
    exact ⟨rfl, rfl, trivial⟩
  · intro _; exact ⟨fun _ => ⟨fun _ => ⟨fun _ => trivial, fun h => ob8 (by rw [e52, f0] at h; simpa using h) (by omega)⟩, fun _ => trivial⟩, fun _ => trivial⟩
  · intro _; exact ⟨fun _ => ⟨fun _ => ⟨fun _ => trivial, fun h => ob8 (by rw [e99, f1] at h; simpa using h) (by omega)⟩, fun _ => trivial⟩, fun _ => trivial⟩
  · intro _; exact ⟨fun _ => ⟨fun _ => ⟨fun _ => trivial, fun h => ob8 (by rw [e146, f2] at h; simpa using h) (by omega)⟩, fun _ => trivial⟩, fun _ => trivial⟩
  · intro _; exact ⟨fun _ => ⟨fun _ => ⟨fun _ => trivial, fun h => ob8 (by rw [e193, f3] at h; simpa using h) (by omega)⟩, fun _ => trivial⟩, fun _ => trivial⟩
  · intro _; exact ⟨fun _ => ⟨fun _ => ⟨fun _ => trivial, fun h => ob8 (by rw [e240, f4] at h; simpa using h) (by omega)⟩, fun _ => trivial⟩, fun _ => trivial⟩
  · intro _; exact ⟨fun _ => ⟨fun _ => ⟨fun _ => trivial, fun h => ob8 (by rw [e287, f5] at h; simpa using h) (by omega)⟩, fun _ => trivial⟩, fun _ => trivial⟩
  · intro _; exact ⟨fun _ => ⟨fun _ => ⟨fun _ => trivial, fun h => ob8 (by rw [e334, f6] at h; simpa using h) (by omega)⟩, fun _ => trivial⟩, fun _ => trivial⟩
  · intro h; rw [e13] at h; simp only [decide_eq_false_iff_not, decide_eq_true_eq] at h
    simp only [OutOk, OutSh, ckOuts, den, denC, chooseF]
    rw [if_neg (by omega), b7]
    refine ⟨by simp only [List.headD_cons]; rw [← b7]; congr 1; rw [eq_comm]; simp [IntKind.wrap, IntKind.bits, IntKind.signed]; omega, ?_, trivial⟩
    rw [e360, b7]
    simp only [List.tail_cons, List.headD_cons, AVal.bool.injEq]
    split <;> simp_all

set_option maxHeartbeats 2000000 in
set_option maxRecDepth 20000 in
theorem choose_contract : FnOk Try.prog 16 ckIns ckOuts chooseF :=
  fn_of_run (X := chooseX) (W := chooseW) mixed ⟨rfl, rfl, rfl, rfl, rfl⟩ choose_ok choose_lt (fun F => no_hooks rfl F) choose_run (fun l σ hl e _ hi _ => choose_plain l σ hl e hi)
end Go.Proofs.Ytgifnmiggloclab.ck

namespace Go.Proofs.Ytgifnmiggloclab.cb
open Go.RowKit Go.Ev Go.Proofs.Ytgifnmiggloclab.ck
set_option linter.unusedVariables false
set_option linter.unusedSimpArgs false

def IsBest (may : Nat → Bool) (p : Int → Int) (n : Nat) (b : Int) : Prop :=
  (b = -1 ∧ ∀ v, v < n → may v = false) ∨ ∃ k : Nat, k < n ∧ b = k ∧ may k = true ∧ ∀ v : Nat, v < n → may v = true → p v < p k ∨ (p v = p k ∧ k ≤ v)

def bestG (may : Nat → Bool) (p : Int → Int) : Nat → Int
  | 0 => -1
  | v + 1 => nextI (may v) (p v) (p (bestG may p v)) (bestG may p v) v

theorem bestG_is (may : Nat → Bool) (p : Int → Int) : ∀ n, IsBest may p n (bestG may p n)
  | 0 => .inl ⟨rfl, fun v h => absurd h (by omega)⟩
  | n + 1 => by
    have ih := bestG_is may p n
    simp only [bestG, nextI]
    rcases ih with ⟨e, h⟩ | ⟨k, hk, e, hm, h⟩
    · rw [e]
      cases hn : may n with
      | false =>
        simp only [Bool.false_and, cond_false]
        refine .inl ⟨rfl, fun v hv => ?_⟩
        by_cases hvn : v = n
        · subst hvn; exact hn
        · exact h v (by omega)
      | true =>
        simp only [Bool.true_and, show decide ((-1 : Int) < 0) = true from rfl, Bool.true_or, cond_true]
        refine .inr ⟨n, by omega, rfl, hn, fun v hv hmv => ?_⟩
        by_cases hvn : v = n
        · subst hvn; exact .inr ⟨rfl, Nat.le_refl _⟩
        · rw [h v (by omega)] at hmv; cases hmv
    · rw [e]
      cases hn : may n with
      | false =>
        simp only [Bool.false_and, cond_false]
        refine .inr ⟨k, by omega, rfl, hm, fun v hv hmv => ?_⟩
        by_cases hvn : v = n
        · subst hvn; rw [hn] at hmv; cases hmv
        · exact h v (by omega) hmv
      | true =>
        have h0 : decide ((k : Int) < 0) = false := by rw [decide_eq_false_iff_not]; omega
        simp only [Bool.true_and, h0, Bool.false_or]
        by_cases hp : p n > p k
        · rw [decide_eq_true hp, cond_true]
          refine .inr ⟨n, by omega, rfl, hn, fun v hv hmv => ?_⟩
          by_cases hvn : v = n
          · subst hvn; exact .inr ⟨rfl, Nat.le_refl _⟩
          · rcases h v (by omega) hmv with h1 | h1
            · left; omega
            · left; omega
        · rw [decide_eq_false hp, cond_false]
          refine .inr ⟨k, by omega, rfl, hm, fun v hv hmv => ?_⟩
          by_cases hvn : v = n
          · subst hvn
            by_cases he : p v = p k
            · exact .inr ⟨he, by omega⟩
            · left; omega
          · exact h v (by omega) hmv

theorem IsBest.unique {may : Nat → Bool} {p : Int → Int} {n : Nat} {a b : Int} (ha : IsBest may p n a) (hb : IsBest may p n b) : a = b := by
  rcases ha with ⟨e, h⟩ | ⟨k, hk, e, hm, h⟩
  · rcases hb with ⟨e', _⟩ | ⟨k', hk', e', hm', _⟩
    · rw [e, e']
    · rw [h k' hk'] at hm'; cases hm'
  · rcases hb with ⟨e', h'⟩ | ⟨k', hk', e', hm', h'⟩
    · rw [h' k hk] at hm; cases hm
    · rw [e, e']
      have h1 := h k' hk' hm'
      have h2 := h' k hk hm
      omega

theorem IsBest.congr {may may' : Nat → Bool} {p : Int → Int} {n : Nat} {b : Int} (h : IsBest may p n b) (e : ∀ v, v < n → may' v = may v) : IsBest may' p n b := by
  rcases h with ⟨e1, h⟩ | ⟨k, hk, e1, hm, h⟩
  · exact .inl ⟨e1, fun v hv => by rw [e v hv]; exact h v hv⟩
  · exact .inr ⟨k, hk, e1, by rw [e k hk]; exact hm, fun v hv hmv => h v hv (by rw [← e v hv]; exact hmv)⟩

theorem best8_is (mask pend p0 p1 p2 p3 p4 p5 p6 p7 lev masked : Int) (n : Nat) :
    best8 mask pend p0 p1 p2 p3 p4 p5 p6 p7 lev masked n = bestG (fun v => mayI mask pend masked lev (prAt p0 p1 p2 p3 p4 p5 p6 p7 v) v) (prAt p0 p1 p2 p3 p4 p5 p6 p7) n := by
  induction n with
  | zero => rfl
  | succ n ih => simp only [best8, bestG]; rw [ih]

theorem best_iff {mask pend p0 p1 p2 p3 p4 p5 p6 p7 lev masked b : Int} (h : IsBest (fun v => mayI mask pend masked lev (prAt p0 p1 p2 p3 p4 p5 p6 p7 v) v) (prAt p0 p1 p2 p3 p4 p5 p6 p7) 8 b) :
    best8 mask pend p0 p1 p2 p3 p4 p5 p6 p7 lev masked 8 = b := by
  rw [best8_is]; exact (bestG_is _ _ 8).unique h

theorem best_range (mask pend p0 p1 p2 p3 p4 p5 p6 p7 lev masked : Int) : -1 ≤ best8 mask pend p0 p1 p2 p3 p4 p5 p6 p7 lev masked 8 ∧ best8 mask pend p0 p1 p2 p3 p4 p5 p6 p7 lev masked 8 ≤ 7 := by
  rw [best8_is]
  rcases bestG_is (fun v => mayI mask pend masked lev (prAt p0 p1 p2 p3 p4 p5 p6 p7 v) v) (prAt p0 p1 p2 p3 p4 p5 p6 p7) 8 with ⟨e, _⟩ | ⟨k, hk, e, _⟩ <;> omega

/-- at each level: the best one of all, if it is above the level -/
theorem best_level {mask pend p0 p1 p2 p3 p4 p5 p6 p7 lev masked : Int} (h0 : 0 ≤ lev) :
    best8 mask pend p0 p1 p2 p3 p4 p5 p6 p7 lev masked 8 =
      if 0 ≤ best8 mask pend p0 p1 p2 p3 p4 p5 p6 p7 0 masked 8 ∧ lev < prAt p0 p1 p2 p3 p4 p5 p6 p7 (best8 mask pend p0 p1 p2 p3 p4 p5 p6 p7 0 masked 8) then best8 mask pend p0 p1 p2 p3 p4 p5 p6 p7 0 masked 8 else -1 := by
  refine best_iff ?_
  have hb := bestG_is (fun v => mayI mask pend masked 0 (prAt p0 p1 p2 p3 p4 p5 p6 p7 v) v) (prAt p0 p1 p2 p3 p4 p5 p6 p7) 8
  rw [← best8_is] at hb
  generalize best8 mask pend p0 p1 p2 p3 p4 p5 p6 p7 0 masked 8 = b at hb ⊢
  have hsub : ∀ v : Nat, mayI mask pend masked lev (prAt p0 p1 p2 p3 p4 p5 p6 p7 v) v = (mayI mask pend masked 0 (prAt p0 p1 p2 p3 p4 p5 p6 p7 v) v && decide (prAt p0 p1 p2 p3 p4 p5 p6 p7 v > lev)) := by
    intro v
    unfold mayI
    by_cases h : prAt p0 p1 p2 p3 p4 p5 p6 p7 v > lev
    · rw [decide_eq_true h, decide_eq_true (show prAt p0 p1 p2 p3 p4 p5 p6 p7 v > 0 by omega)]; simp
    · rw [decide_eq_false h]; simp
  rcases hb with ⟨e, h⟩ | ⟨k, hk, e, hm, h⟩
  · rw [if_neg (by omega)]
    refine .inl ⟨rfl, fun v hv => ?_⟩
    show mayI mask pend masked lev _ v = false
    rw [hsub, show mayI mask pend masked 0 (prAt p0 p1 p2 p3 p4 p5 p6 p7 v) v = false from h v hv]; rfl
  · subst e
    by_cases hl : lev < prAt p0 p1 p2 p3 p4 p5 p6 p7 k
    · rw [if_pos ⟨by omega, hl⟩]
      refine .inr ⟨k, hk, rfl, ?_, fun v hv hmv => ?_⟩
      · show mayI mask pend masked lev _ k = true
        rw [hsub, show mayI mask pend masked 0 (prAt p0 p1 p2 p3 p4 p5 p6 p7 k) k = true from hm, decide_eq_true (show prAt p0 p1 p2 p3 p4 p5 p6 p7 k > lev from hl)]; rfl
      · replace hmv : mayI mask pend masked lev (prAt p0 p1 p2 p3 p4 p5 p6 p7 v) v = true := hmv
        rw [hsub, Bool.and_eq_true] at hmv
        exact h v hv hmv.1
    · rw [if_neg (fun h => hl h.2)]
      refine .inl ⟨rfl, fun v hv => ?_⟩
      show mayI mask pend masked lev _ v = false
      rw [hsub]
      cases hmv : mayI mask pend masked 0 (prAt p0 p1 p2 p3 p4 p5 p6 p7 v) v with
      | false => rfl
      | true =>
        have := h v hv hmv
        rw [Bool.true_and, decide_eq_false_iff_not]; omega

/-- with a handler of another, less priority below the best one, that one is still the best -/
theorem best_other {mask pend p0 p1 p2 p3 p4 p5 p6 p7 q0 q1 q2 q3 q4 q5 q6 q7 masked : Int} {v b : Nat} (hb : best8 mask pend p0 p1 p2 p3 p4 p5 p6 p7 0 masked 8 = b) (hvb : v ≠ b)
    (hq : ∀ u : Nat, u < 8 → u ≠ v → prAt q0 q1 q2 q3 q4 q5 q6 q7 u = prAt p0 p1 p2 p3 p4 p5 p6 p7 u) (hv : prAt q0 q1 q2 q3 q4 q5 q6 q7 v = prAt p0 p1 p2 p3 p4 p5 p6 p7 b - 1) :
    best8 mask pend q0 q1 q2 q3 q4 q5 q6 q7 0 masked 8 = b := by
  have h := bestG_is (fun v => mayI mask pend masked 0 (prAt p0 p1 p2 p3 p4 p5 p6 p7 v) v) (prAt p0 p1 p2 p3 p4 p5 p6 p7) 8
  rw [← best8_is, hb] at h
  refine best_iff ?_
  rcases h with ⟨e, h⟩ | ⟨k, hk, e, hm, h⟩
  · omega
  · obtain rfl : b = k := by omega
    refine .inr ⟨b, hk, rfl, ?_, fun u hu hmu => ?_⟩
    · show mayI mask pend masked 0 (prAt q0 q1 q2 q3 q4 q5 q6 q7 b) b = true
      rw [hq b hk (fun e => hvb e.symm)]; exact hm
    · rw [hq b hk (fun e => hvb e.symm)]
      by_cases huv : u = v
      · subst huv; left; rw [hv]; omega
      · have hmu : mayI mask pend masked 0 (prAt q0 q1 q2 q3 q4 q5 q6 q7 u) u = true := hmu
        rw [hq u hu huv] at hmu ⊢
        exact h u hu hmu

/-! ### Bits -/

theorem bitI_bv {x : BitVec 8} (v : Nat) : bitI (IntKind.u8.wrap (x.toNat : Int)) v = x.getLsbD v := by
  have hw : IntKind.u8.wrap (x.toNat : Int) = x.toNat := by
    have := x.isLt
    simp only [IntKind.wrap, IntKind.bits, IntKind.signed]
    simp; omega
  rw [hw, bitI, BitVec.getLsbD, Nat.testBit_eq_decide_div_mod_eq]
  have : ((x.toNat : Int) / 2 ^ v % 2 = 1) ↔ (x.toNat / 2 ^ v % 2 = 1) := by
    rw [show (2 : Int) ^ v = ((2 ^ v : Nat) : Int) by simp]
    omega
  simp only [this]

theorem bitI_in {n : Int} (h0 : 0 ≤ n) (h1 : n ≤ 255) (v : Nat) : bitI n v = (BitVec.ofInt 8 n).getLsbD v := by
  rw [← bitI_bv]
  have : IntKind.u8.wrap ((BitVec.ofInt 8 n).toNat : Int) = n := by
    rw [BitVec.toNat_ofInt]
    simp only [IntKind.wrap, IntKind.bits, IntKind.signed]
    simp; omega
  rw [this]

/-- masked is as not allowed -/
theorem best_masked {mask pend p0 p1 p2 p3 p4 p5 p6 p7 lev masked : Int} (hm : 0 ≤ mask ∧ mask ≤ 255) (hk : 0 ≤ masked ∧ masked ≤ 255) :
    best8 (IntKind.u8.wrap ((BitVec.ofInt 8 mask &&& ~~~ BitVec.ofInt 8 masked : BitVec 8).toNat : Int)) pend p0 p1 p2 p3 p4 p5 p6 p7 lev 0 8 = best8 mask pend p0 p1 p2 p3 p4 p5 p6 p7 lev masked 8 := by
  refine best_iff ?_
  have h := bestG_is (fun v => mayI mask pend masked lev (prAt p0 p1 p2 p3 p4 p5 p6 p7 v) v) (prAt p0 p1 p2 p3 p4 p5 p6 p7) 8
  rw [← best8_is] at h
  refine h.congr fun v hv => ?_
  show mayI _ _ _ _ _ _ = mayI _ _ _ _ _ _
  unfold mayI
  rw [bitI_bv, bitI_in hm.1 hm.2, bitI_in hk.1 hk.2, bitI_in (by decide : (0 : Int) ≤ 0) (by decide), BitVec.getLsbD_and, BitVec.getLsbD_not]
  simp [hv, Bool.and_assoc]

/-- masked is as not requested -/
theorem best_pend {mask pend p0 p1 p2 p3 p4 p5 p6 p7 lev masked : Int} (hm : 0 ≤ mask ∧ mask ≤ 255) (hp : 0 ≤ pend ∧ pend ≤ 255) (hk : 0 ≤ masked ∧ masked ≤ 255) :
    best8 255 (IntKind.u8.wrap ((BitVec.ofInt 8 (IntKind.u8.wrap ((BitVec.ofInt 8 pend &&& BitVec.ofInt 8 mask : BitVec 8).toNat : Int)) &&& ~~~ BitVec.ofInt 8 masked : BitVec 8).toNat : Int)) p0 p1 p2 p3 p4 p5 p6 p7 lev 0 8 = best8 mask pend p0 p1 p2 p3 p4 p5 p6 p7 lev masked 8 := by
  refine best_iff ?_
  have h := bestG_is (fun v => mayI mask pend masked lev (prAt p0 p1 p2 p3 p4 p5 p6 p7 v) v) (prAt p0 p1 p2 p3 p4 p5 p6 p7) 8
  rw [← best8_is] at h
  refine h.congr fun v hv => ?_
  show mayI _ _ _ _ _ _ = mayI _ _ _ _ _ _
  unfold mayI
  have e1 : ∀ n : Int, (BitVec.ofInt 8 n).getLsbD v = bitI (IntKind.u8.wrap ((BitVec.ofInt 8 n).toNat : Int)) v := fun n => (bitI_bv v).symm
  have e2 : BitVec.ofInt 8 (IntKind.u8.wrap ((BitVec.ofInt 8 pend &&& BitVec.ofInt 8 mask : BitVec 8).toNat : Int)) = BitVec.ofInt 8 pend &&& BitVec.ofInt 8 mask := by
    have hw : ∀ x : BitVec 8, IntKind.u8.wrap (x.toNat : Int) = x.toNat := fun x => by
      have := x.isLt
      simp only [IntKind.wrap, IntKind.bits, IntKind.signed]
      simp; omega
    generalize (BitVec.ofInt 8 pend &&& BitVec.ofInt 8 mask) = x
    rw [hw]; simp
  have e3 : ∀ w, w < 8 → bitI 255 w = true := by decide
  rw [e2, bitI_bv, bitI_in hm.1 hm.2, bitI_in hp.1 hp.2, bitI_in hk.1 hk.2, bitI_in (by decide : (0 : Int) ≤ 0) (by decide), BitVec.getLsbD_and, BitVec.getLsbD_and, BitVec.getLsbD_not, e3 v hv]
  simp [hv, Bool.and_assoc]

theorem choose0 (mask pend p0 p1 p2 p3 p4 p5 p6 p7 lev masked : Int) : chooseF [mask, pend, p0, p1, p2, p3, p4, p5, p6, p7, lev, 0, masked] =
    [best8 mask pend p0 p1 p2 p3 p4 p5 p6 p7 lev masked 8, if 0 ≤ best8 mask pend p0 p1 p2 p3 p4 p5 p6 p7 lev masked 8 then 1 else 0] := by
  simp only [chooseF]
  rw [if_neg (by decide)]

theorem wrap_best (mask pend p0 p1 p2 p3 p4 p5 p6 p7 lev masked : Int) : IntKind.i64.wrap (best8 mask pend p0 p1 p2 p3 p4 p5 p6 p7 lev masked 8) = best8 mask pend p0 p1 p2 p3 p4 p5 p6 p7 lev masked 8 := by
  obtain ⟨h1, h2⟩ := best_range mask pend p0 p1 p2 p3 p4 p5 p6 p7 lev masked
  simp [IntKind.wrap, IntKind.bits, IntKind.signed]; omega
theorem is_best (b : Int) : (!((if 0 ≤ b then (1 : Int) else 0) == 0)) = decide (0 ≤ b) := by
  by_cases h : 0 ≤ b
  · rw [if_pos h, decide_eq_true h]; rfl
  · rw [if_neg h, decide_eq_false h]; rfl
end Go.Proofs.Ytgifnmiggloclab.cb
