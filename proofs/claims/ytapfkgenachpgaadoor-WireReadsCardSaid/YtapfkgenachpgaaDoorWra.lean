/-
  WireReads: the round of its loop, reckoned.
  No conditions.
-/
import Derived.Test.YtapfkgenachpgaaDoorChecked
import Derived.WalkKit
import Derived.Below
import Derived.ChangeSame
import Derived.Test.YtapfkgenachpgaaDoorFa
import Derived.Test.YtapfkgenachpgaaDoorWn
namespace Go.Proofs.YtapfkgenachpgaaDoor.wr
open Go.RowKit
open Go.Ev Go.Proofs.YtapfkgenachpgaaDoor.fa Go.Proofs.YtapfkgenachpgaaDoor.wn
set_option linter.unusedVariables false
set_option linter.unusedSimpArgs false

def wrE (b : Bool) : AVal := bif b then .iface 74 (.ptr 2 0) else .niliface
def wrF (b : Bool) (i : Nat) : AVal := bif b then .symi .i64 i else .int .i64 0
def wrBlk (b : Bool) : List Blk := bif b then [.cells [.symi .i64 4, .symi .i64 5] 42] else []
def wrS (b : Bool) : Shape := ⟨[(0, .syms 3), (1, .row 0), (5, .ptr 0 0), (6, .ptr 1 0), (7, .symi .i64 0)], .cells [.syms 3, .symi .i64 2, wrE b] 73 :: .cells [.syms 3, .symi .i64 2, wrF b 4, wrF b 5] 44 :: wrBlk b⟩
def wrS0 : Shape := ⟨argT 0 [.syms 0, .row 0], []⟩
def wrSe : Shape := ⟨[], []⟩
def wrSE : Shape := ⟨[(4, .symb 0)], []⟩
def wrK : List (Option IntKind) := [some .i64, some .i64, some .i64, none, some .i64, some .i64]

def wrKe : List (Option IntKind) := [some .i64, some .i64, some .i64, none, some .i64, some .i64, some .u8, some .i16]
def wrC2 : List Cl := [.i .u8, .i .i16]
def wrR : List RowS := [⟨.symi .i64 1, [(.symi .i64 0, elCells 6 wrC2)]⟩]
set_option maxRecDepth 100000 in
def wrB0G : List SDef := [.sop .len [.syms 3],
  .bin .leq (.int .i64 0) (.symi .i64 2),
  .bin .leq (.symi .i64 2) (.symi .i64 8),
  .bin .leq (.symi .i64 8) (.int .i64 1000000),
  .bin .lss (.symi .i64 0) (.symi .i64 1),
  .bin .lss (.symi .i64 0) (.int .i64 50),
  .bin .leq (.int .i64 0) (.symi .i64 0),
  .bin .rem (.symi .u8 6) (.int .u8 16),
  .bin .eql (.symi .u8 15) (.int .u8 1),
  .bin .eql (.symi .u8 15) (.int .u8 2),
  .bin .eql (.symi .u8 15) (.int .u8 3),
  .bin .eql (.symi .u8 15) (.int .u8 4),
  .bin .eql (.symi .u8 15) (.int .u8 5),
  .bin .eql (.symi .u8 15) (.int .u8 6),
  .bin .eql (.symi .u8 15) (.int .u8 7),
  .bin .eql (.symi .u8 15) (.int .u8 8),
  .fn 130 .i64 [.syms 3, .symi .i64 2],
  .bin .lss (.symi .i64 2) (.symi .i64 8),
  .fn 128 .u64 [.syms 3, .symi .i64 2],
  .fn 129 .i64 [.syms 3, .symi .i64 2],
  .conv .i64 (.symi .u64 26),
  .bin .add (.symi .i64 2) (.symi .i64 27),
  .bin .add (.symi .i64 29) (.symi .i64 28),
  .bin .leq (.int .i64 0) (.symi .i64 29),
  .bin .leq (.symi .i64 29) (.symi .i64 30),
  .bin .leq (.symi .i64 30) (.symi .i64 8),
  .bin .sub (.symi .i64 30) (.symi .i64 28),
  .bin .leq (.int .i64 0) (.symi .i64 34),
  .bin .leq (.symi .i64 34) (.symi .i64 30),
  .bin .sub (.symi .i64 8) (.symi .i64 2),
  .bin .sub (.symi .i64 37) (.symi .i64 27),
  .bin .lss (.symi .i64 38) (.symi .i64 28),
  .bin .sub (.symi .i64 8) (.symi .i64 29),
  .bin .lss (.symi .i64 40) (.symi .i64 28),
  .sop .at [.syms 3, .symi .i64 2],
  .bin .gtr (.symi .u8 42) (.int .u8 1),
  .bin .add (.symi .i64 2) (.int .i64 1),
  .bin .sub (.symi .i64 44) (.int .i64 1),
  .sop .at [.syms 3, .symi .i64 45],
  .bin .gtr (.symi .u8 46) (.int .u8 1),
  .conv .i64 (.symi .i16 7),
  .bin .lss (.symi .i64 48) (.int .i64 0),
  .conv .u64 (.symi .i64 48),
  .bin .gtr (.symi .u64 26) (.symi .u64 50),
  .bin .shr (.symi .u64 26) (.int .u64 1),
  .conv .i64 (.symi .u64 52),
  .bin .and (.symi .u64 26) (.int .u64 1),
  .conv .i64 (.symi .u64 54),
  .un .neg (.symi .i64 55),
  .bin .xor (.symi .i64 53) (.symi .i64 56),
  .bin .rem (.symi .u64 26) (.int .u64 2),
  .bin .eql (.symi .u64 58) (.int .u64 0),
  .bin .quo (.symi .u64 26) (.int .u64 2),
  .conv .i64 (.symi .u64 60),
  .un .neg (.symi .i64 61),
  .bin .sub (.symi .i64 62) (.int .i64 1),
  .ite (.symb 59) (.symi .i64 61) (.symi .i64 63),
  .bin .eql (.symi .i64 57) (.symi .i64 64),
  .un .not (.symb 65),
  .bin .gtr (.symi .i64 40) (.int .i64 0),
  .bin .lss (.symi .i64 29) (.symi .i64 8),
  .ite (.symb 68) (.int .i64 4) (.int .i64 0),
  .ite (.symb 68) (.symi .i64 29) (.int .i64 0),
  .bin .eql (.symi .i64 69) (.int .i64 0),
  .all [(.int .i64 4, .symi .i64 69), (.symi .i64 29, .symi .i64 70)],
  .bin .eql (.int .i64 4) (.symi .i64 69),
  .ite (.symb 72) (.symb 73) (.bool false),
  .ite (.symb 71) (.bool false) (.symb 74),
  .un .not (.symb 75),
  .un .not (.symb 71),
  .bin .add (.symi .i64 0) (.int .i64 1),
  .bin .eql (.symi .i64 37) (.int .i64 0),
  .bin .geq (.symi .i64 2) (.symi .i64 8),
  .bin .leq (.int .i64 0) (.symi .i64 45),
  .bin .lss (.symi .i64 45) (.symi .i64 8),
  .bin .eql (.int .u8 0) (.symi .u8 46),
  .bin .eql (.symi .u8 42) (.int .u8 0),
  .bin .eql (.symi .u8 42) (.symi .u8 46),
  .un .not (.symb 83),
  .bin .neq (.symi .i64 2) (.symi .i64 44),
  .bin .sub (.symi .i64 8) (.symi .i64 44),
  .bin .neq (.symi .i64 37) (.symi .i64 88),
  .un .not (.symb 84),
  .bin .neq (.symi .i64 44) (.symi .i64 2),
  .bin .neq (.symi .i64 88) (.symi .i64 37),
  .un .not (.symb 85),
  .bin .gtr (.symi .i64 88) (.int .i64 0),
  .bin .lss (.symi .i64 44) (.symi .i64 8),
  .ite (.symb 95) (.int .i64 4) (.int .i64 0),
  .ite (.symb 95) (.symi .i64 44) (.int .i64 0),
  .bin .eql (.symi .i64 96) (.int .i64 0),
  .all [(.int .i64 4, .symi .i64 96), (.symi .i64 44, .symi .i64 97)],
  .bin .eql (.int .i64 4) (.symi .i64 96),
  .ite (.symb 99) (.symb 100) (.bool false),
  .ite (.symb 98) (.bool false) (.symb 101),
  .un .not (.symb 102),
  .un .not (.symb 98),
  .ite (.symb 87) (.bool true) (.symb 89),
  .ite (.symb 86) (.bool true) (.symb 105),
  .ite (.symb 86) (.bool true) (.symb 87),
  .ite (.symb 91) (.bool true) (.symb 92),
  .ite (.symb 90) (.bool true) (.symb 108),
  .ite (.symb 90) (.bool true) (.symb 91),
  .bin .gtr (.symi .i64 37) (.int .i64 0),
  .bin .eql (.symi .u8 42) (.int .u8 1),
  .bin .eql (.symi .u8 46) (.int .u8 1),
  .bin .eql (.bool false) (.symb 113),
  .bin .eql (.symb 112) (.bool false),
  .bin .eql (.symb 112) (.symb 113),
  .un .not (.symb 114),
  .un .not (.symb 115),
  .un .not (.symb 116),
  .ite (.symb 118) (.bool true) (.symb 108),
  .ite (.symb 118) (.bool true) (.symb 91),
  .ite (.symb 119) (.bool true) (.symb 108),
  .ite (.symb 119) (.bool true) (.symb 91),
  .ite (.symb 117) (.bool true) (.symb 105),
  .ite (.symb 117) (.bool true) (.symb 87),
  .ite (.symb 47) (.symi .i64 2) (.symi .i64 44),
  .ite (.symb 47) (.int .i64 5) (.int .i64 0),
  .ite (.symb 47) (.symi .i64 2) (.int .i64 0),
  .bin .neq (.symi .i64 2) (.symi .i64 126),
  .bin .sub (.symi .i64 8) (.symi .i64 126),
  .bin .neq (.symi .i64 37) (.symi .i64 130),
  .bin .eql (.symi .i64 127) (.int .i64 0),
  .all [(.int .i64 3, .symi .i64 127), (.symi .i64 2, .symi .i64 128)],
  .bin .eql (.int .i64 3) (.symi .i64 127),
  .ite (.symb 133) (.symb 134) (.bool false),
  .ite (.symb 132) (.bool false) (.symb 135),
  .un .not (.symb 136),
  .bin .lss (.symi .i64 126) (.symi .i64 8),
  .ite (.symb 138) (.int .i64 4) (.symi .i64 127),
  .ite (.symb 138) (.symi .i64 126) (.symi .i64 128),
  .ite (.symb 132) (.symi .i64 139) (.symi .i64 127),
  .ite (.symb 132) (.symi .i64 140) (.symi .i64 128),
  .bin .eql (.symi .i64 141) (.int .i64 0),
  .all [(.int .i64 3, .symi .i64 141), (.symi .i64 2, .symi .i64 142)],
  .bin .eql (.int .i64 3) (.symi .i64 141),
  .ite (.symb 144) (.symb 145) (.bool false),
  .ite (.symb 143) (.bool false) (.symb 146),
  .un .not (.symb 147),
  .sop .sub [.syms 3, .symi .i64 29, .symi .i64 30],
  .bin .add (.symi .i64 27) (.symi .i64 28),
  .bin .add (.symi .i64 2) (.symi .i64 150),
  .sop .sub [.syms 3, .symi .i64 34, .symi .i64 30],
  .bin .eql (.syms 149) (.syms 152),
  .un .not (.symb 153),
  .bin .neq (.symi .i64 151) (.symi .i64 30),
  .bin .sub (.symi .i64 8) (.symi .i64 151),
  .bin .sub (.symi .i64 8) (.symi .i64 30),
  .bin .neq (.symi .i64 156) (.symi .i64 157),
  .bin .gtr (.symi .i64 156) (.int .i64 0),
  .bin .lss (.symi .i64 30) (.symi .i64 8),
  .ite (.symb 160) (.int .i64 4) (.int .i64 0),
  .ite (.symb 160) (.symi .i64 30) (.int .i64 0),
  .bin .eql (.symi .i64 161) (.int .i64 0),
  .all [(.int .i64 4, .symi .i64 161), (.symi .i64 151, .symi .i64 162)],
  .bin .eql (.int .i64 4) (.symi .i64 161),
  .ite (.symb 164) (.symb 165) (.bool false),
  .ite (.symb 163) (.bool false) (.symb 166),
  .un .not (.symb 167),
  .un .not (.symb 163),
  .bin .neq (.symi .i64 2) (.symi .i64 29),
  .bin .neq (.symi .i64 37) (.symi .i64 40),
  .bin .add (.symi .i64 2) (.int .i64 0),
  .bin .neq (.symi .i64 172) (.symi .i64 2),
  .bin .sub (.symi .i64 8) (.symi .i64 172),
  .bin .neq (.symi .i64 174) (.symi .i64 37),
  .bin .eql (.int .i64 0) (.symi .i64 28),
  .un .not (.symb 176),
  .bin .neq (.symi .i64 172) (.symi .i64 29),
  .bin .neq (.symi .i64 174) (.symi .i64 40),
  .bin .rem (.symi .i16 7) (.int .i16 30),
  .conv .i64 (.symi .i16 180),
  .bin .neq (.symi .i64 181) (.int .i64 0),
  .bin .eql (.symi .i64 181) (.int .i64 0),
  .bin .eql (.symi .i64 181) (.symi .i64 181),
  .ite (.symb 183) (.bool false) (.symb 184),
  .un .not (.symb 185),
  .ite (.symb 25) (.int .i64 4) (.symi .i64 181),
  .ite (.symb 25) (.symi .i64 2) (.symi .i64 48),
  .ite (.symb 183) (.symi .i64 187) (.symi .i64 181),
  .ite (.symb 183) (.symi .i64 188) (.symi .i64 48),
  .bin .eql (.symi .i64 189) (.int .i64 0),
  .all [(.symi .i64 181, .symi .i64 189), (.symi .i64 48, .symi .i64 190)],
  .bin .eql (.symi .i64 181) (.symi .i64 189),
  .ite (.symb 192) (.symb 193) (.bool false),
  .ite (.symb 191) (.bool false) (.symb 194),
  .un .not (.symb 195),
  .ite (.symb 25) (.int .i64 4) (.int .i64 0),
  .ite (.symb 25) (.symi .i64 2) (.int .i64 0),
  .bin .eql (.symi .i64 197) (.int .i64 0),
  .all [(.int .i64 4, .symi .i64 197), (.symi .i64 2, .symi .i64 198)],
  .bin .eql (.int .i64 4) (.symi .i64 197),
  .ite (.symb 200) (.symb 201) (.bool false),
  .ite (.symb 199) (.bool false) (.symb 202),
  .un .not (.symb 203),
  .un .not (.symb 199)]
set_option maxRecDepth 100000 in
def wrB0T : LT := .n (.n (.n (.n (.n (.n (.n (.n (.e) 30227 14 (.bin .leq (.int .i64 0) (.symi .i64 0)) (.e)) 60352 78 (.bin .add (.symi .i64 0) (.int .i64 1)) (.n (.e) 2512158 13 (.bin .lss (.symi .i64 0) (.int .i64 50)) (.e))) 10272439 195 (.ite (.symb 191) (.bool false) (.symb 194)) (.n (.n (.e) 27454178 183 (.bin .eql (.symi .i64 181) (.int .i64 0)) (.e)) 27454185 182 (.bin .neq (.symi .i64 181) (.int .i64 0)) (.e))) 27868254 40 (.bin .sub (.symi .i64 8) (.symi .i64 29)) (.n (.n (.n (.e) 32363039 98 (.bin .eql (.symi .i64 96) (.int .i64 0)) (.e)) 41073517 156 (.bin .sub (.symi .i64 8) (.symi .i64 151)) (.e)) 47168683 130 (.bin .sub (.symi .i64 8) (.symi .i64 126)) (.n (.n (.e) 48456830 147 (.ite (.symb 143) (.bool false) (.symb 146)) (.e)) 54624551 131 (.bin .neq (.symi .i64 37) (.symi .i64 130)) (.e)))) 59057912 76 (.un .not (.symb 75)) (.n (.n (.n (.n (.e) 69108914 73 (.bin .eql (.int .i64 4) (.symi .i64 69)) (.e)) 79227591 121 (.ite (.symb 118) (.bool true) (.symb 91)) (.e)) 79577041 136 (.ite (.symb 132) (.bool false) (.symb 135)) (.n (.n (.e) 90769686 127 (.ite (.symb 47) (.int .i64 5) (.int .i64 0)) (.e)) 94504004 145 (.bin .eql (.int .i64 3) (.symi .i64 141)) (.e))) 101369912 189 (.ite (.symb 183) (.symi .i64 187) (.symi .i64 181)) (.n (.n (.n (.e) 102582612 204 (.un .not (.symb 203)) (.e)) 117302925 92 (.bin .neq (.symi .i64 88) (.symi .i64 37)) (.e)) 117809257 42 (.sop .at [.syms 3, .symi .i64 2]) (.n (.n (.e) 122686231 38 (.bin .sub (.symi .i64 37) (.symi .i64 27)) (.e)) 122766409 66 (.un .not (.symb 65)) (.e))))) 137927829 166 (.ite (.symb 164) (.symb 165) (.bool false)) (.n (.n (.n (.n (.n (.e) 149106383 45 (.bin .sub (.symi .i64 44) (.int .i64 1)) (.e)) 154931772 163 (.bin .eql (.symi .i64 161) (.int .i64 0)) (.n (.e) 165459941 151 (.bin .add (.symi .i64 2) (.symi .i64 150)) (.e))) 169713274 179 (.bin .neq (.symi .i64 174) (.symi .i64 40)) (.n (.n (.e) 178244122 114 (.bin .eql (.bool false) (.symb 113)) (.e)) 182865345 203 (.ite (.symb 199) (.bool false) (.symb 202)) (.e))) 186307852 56 (.un .neg (.symi .i64 55)) (.n (.n (.n (.e) 193307883 55 (.conv .i64 (.symi .u64 54)) (.e)) 202010923 172 (.bin .add (.symi .i64 2) (.int .i64 0)) (.e)) 202060958 44 (.bin .add (.symi .i64 2) (.int .i64 1)) (.n (.n (.e) 213394367 175 (.bin .neq (.symi .i64 174) (.symi .i64 37)) (.e)) 215164413 200 (.all [(.int .i64 4, .symi .i64 197), (.symi .i64 2, .symi .i64 198)]) (.e)))) 218232178 123 (.ite (.symb 119) (.bool true) (.symb 91)) (.n (.n (.n (.n (.e) 234650917 104 (.un .not (.symb 98)) (.e)) 247329311 99 (.all [(.int .i64 4, .symi .i64 96), (.symi .i64 44, .symi .i64 97)]) (.e)) 253893508 197 (.ite (.symb 25) (.int .i64 4) (.int .i64 0)) (.n (.n (.e) 254668424 141 (.ite (.symb 132) (.symi .i64 139) (.symi .i64 127)) (.e)) 277202875 87 (.bin .neq (.symi .i64 2) (.symi .i64 44)) (.e))) 282178718 149 (.sop .sub [.syms 3, .symi .i64 29, .symi .i64 30]) (.n (.n (.n (.e) 282409366 143 (.bin .eql (.symi .i64 141) (.int .i64 0)) (.e)) 283720977 188 (.ite (.symb 25) (.symi .i64 2) (.symi .i64 48)) (.e)) 286444893 181 (.conv .i64 (.symi .i16 180)) (.n (.n (.e) 291315514 171 (.bin .neq (.symi .i64 37) (.symi .i64 40)) (.e)) 293607546 31 (.bin .leq (.int .i64 0) (.symi .i64 29)) (.e)))))) 298102470 94 (.bin .gtr (.symi .i64 88) (.int .i64 0)) (.n (.n (.n (.n (.n (.n (.e) 307158698 68 (.bin .lss (.symi .i64 29) (.symi .i64 8)) (.e)) 320538155 96 (.ite (.symb 95) (.int .i64 4) (.int .i64 0)) (.n (.e) 343384000 12 (.bin .lss (.symi .i64 0) (.symi .i64 1)) (.e))) 344744632 32 (.bin .leq (.symi .i64 29) (.symi .i64 30)) (.n (.n (.e) 351107059 113 (.bin .eql (.symi .u8 46) (.int .u8 1)) (.e)) 351107087 47 (.bin .gtr (.symi .u8 46) (.int .u8 1)) (.e))) 357416600 169 (.un .not (.symb 163)) (.n (.n (.n (.e) 368297775 196 (.un .not (.symb 195)) (.e)) 371221832 157 (.bin .sub (.symi .i64 8) (.symi .i64 30)) (.e)) 376432415 140 (.ite (.symb 138) (.symi .i64 126) (.symi .i64 128)) (.n (.n (.e) 377146970 11 (.bin .leq (.symi .i64 8) (.int .i64 1000000)) (.e)) 388767153 128 (.ite (.symb 47) (.symi .i64 2) (.int .i64 0)) (.e)))) 395770010 107 (.ite (.symb 86) (.bool true) (.symb 87)) (.n (.n (.n (.n (.e) 397452525 152 (.sop .sub [.syms 3, .symi .i64 34, .symi .i64 30]) (.e)) 408159001 160 (.bin .lss (.symi .i64 30) (.symi .i64 8)) (.e)) 408159008 33 (.bin .leq (.symi .i64 30) (.symi .i64 8)) (.n (.n (.e) 409944899 125 (.ite (.symb 117) (.bool true) (.symb 87)) (.e)) 411155598 144 (.all [(.int .i64 3, .symi .i64 141), (.symi .i64 2, .symi .i64 142)]) (.e))) 418555659 81 (.bin .leq (.int .i64 0) (.symi .i64 45)) (.n (.n (.n (.e) 420998091 37 (.bin .sub (.symi .i64 8) (.symi .i64 2)) (.e)) 421125097 154 (.un .not (.symb 153)) (.e)) 432006272 186 (.un .not (.symb 185)) (.n (.n (.e) 434104179 97 (.ite (.symb 95) (.symi .i64 44) (.int .i64 0)) (.e)) 440511646 138 (.bin .lss (.symi .i64 126) (.symi .i64 8)) (.e))))) 441323147 16 (.bin .eql (.symi .u8 15) (.int .u8 1)) (.n (.n (.n (.n (.n (.e) 441373182 17 (.bin .eql (.symi .u8 15) (.int .u8 2)) (.e)) 441423217 18 (.bin .eql (.symi .u8 15) (.int .u8 3)) (.n (.e) 441473252 19 (.bin .eql (.symi .u8 15) (.int .u8 4)) (.e))) 441523287 20 (.bin .eql (.symi .u8 15) (.int .u8 5)) (.n (.n (.e) 441573322 21 (.bin .eql (.symi .u8 15) (.int .u8 6)) (.e)) 441623357 22 (.bin .eql (.symi .u8 15) (.int .u8 7)) (.e))) 441673392 23 (.bin .eql (.symi .u8 15) (.int .u8 8)) (.n (.n (.n (.e) 464918901 46 (.sop .at [.syms 3, .symi .i64 45]) (.e)) 466364328 51 (.bin .gtr (.symi .u64 26) (.symi .u64 50)) (.e)) 478584611 54 (.bin .and (.symi .u64 26) (.int .u64 1)) (.n (.n (.e) 478584639 52 (.bin .shr (.symi .u64 26) (.int .u64 1)) (.e)) 478634632 60 (.bin .quo (.symi .u64 26) (.int .u64 2)) (.e)))) 478634639 58 (.bin .rem (.symi .u64 26) (.int .u64 2)) (.n (.n (.n (.n (.e) 479939095 167 (.ite (.symb 163) (.bool false) (.symb 166)) (.e)) 482066463 110 (.ite (.symb 90) (.bool true) (.symb 91)) (.e)) 484599136 74 (.ite (.symb 72) (.symb 73) (.bool false)) (.n (.n (.e) 485790618 178 (.bin .neq (.symi .i64 172) (.symi .i64 29)) (.e)) 489318833 59 (.bin .eql (.symi .u64 58) (.int .u64 0)) (.e))) 495608340 170 (.bin .neq (.symi .i64 2) (.symi .i64 29)) (.n (.n (.n (.e) 496790814 193 (.bin .eql (.symi .i64 181) (.symi .i64 189)) (.e)) 498828648 120 (.ite (.symb 118) (.bool true) (.symb 108)) (.e)) 501025623 8 (.sop .len [.syms 3]) (.n (.n (.e) 514908769 129 (.bin .neq (.symi .i64 2) (.symi .i64 126)) (.e)) 515796124 79 (.bin .eql (.symi .i64 37) (.int .i64 0)) (.e))))))) 515796152 111 (.bin .gtr (.symi .i64 37) (.int .i64 0)) (.n (.n (.n (.n (.n (.n (.n (.e) 519125107 165 (.bin .eql (.int .i64 4) (.symi .i64 161)) (.e)) 525728900 192 (.all [(.symi .i64 181, .symi .i64 189), (.symi .i64 48, .symi .i64 190)]) (.n (.e) 526580339 71 (.bin .eql (.symi .i64 69) (.int .i64 0)) (.e))) 529778599 150 (.bin .add (.symi .i64 27) (.symi .i64 28)) (.n (.n (.e) 530524712 28 (.conv .i64 (.symi .u64 26)) (.e)) 551891720 198 (.ite (.symb 25) (.symi .i64 2) (.int .i64 0)) (.e))) 553057644 49 (.bin .lss (.symi .i64 48) (.int .i64 0)) (.n (.n (.n (.e) 554669324 142 (.ite (.symb 132) (.symi .i64 140) (.symi .i64 128)) (.e)) 567040196 39 (.bin .lss (.symi .i64 38) (.symi .i64 28)) (.e)) 568404823 190 (.ite (.symb 183) (.symi .i64 188) (.symi .i64 48)) (.n (.n (.e) 569717199 199 (.bin .eql (.symi .i64 197) (.int .i64 0)) (.e)) 575125936 115 (.bin .eql (.symb 112) (.bool false)) (.e)))) 590336425 126 (.ite (.symb 47) (.symi .i64 2) (.symi .i64 44)) (.n (.n (.n (.n (.e) 596718102 177 (.un .not (.symb 176)) (.e)) 604588718 164 (.all [(.int .i64 4, .symi .i64 161), (.symi .i64 151, .symi .i64 162)]) (.e)) 606812723 15 (.bin .rem (.symi .u8 6) (.int .u8 16)) (.n (.n (.e) 609411394 185 (.ite (.symb 183) (.bool false) (.symb 184)) (.e)) 637833235 122 (.ite (.symb 119) (.bool true) (.symb 108)) (.e))) 638664249 103 (.un .not (.symb 102)) (.n (.n (.n (.e) 642604330 75 (.ite (.symb 71) (.bool false) (.symb 74)) (.e)) 649047856 50 (.conv .u64 (.symi .i64 48)) (.e)) 656263047 134 (.bin .eql (.int .i64 3) (.symi .i64 127)) (.n (.n (.e) 666159853 89 (.bin .neq (.symi .i64 37) (.symi .i64 88)) (.e)) 686001152 194 (.ite (.symb 192) (.symb 193) (.bool false)) (.e))))) 686737383 9 (.bin .leq (.int .i64 0) (.symi .i64 2)) (.n (.n (.n (.n (.n (.e) 708513516 180 (.bin .rem (.symi .i16 7) (.int .i16 30)) (.e)) 708954836 85 (.bin .eql (.symi .u8 42) (.symi .u8 46)) (.n (.e) 719134843 153 (.bin .eql (.syms 149) (.syms 152)) (.e))) 721002495 48 (.conv .i64 (.symi .i16 7)) (.n (.n (.e) 723672112 159 (.bin .gtr (.symi .i64 156) (.int .i64 0)) (.e)) 728786407 77 (.un .not (.symb 71)) (.e))) 731779205 30 (.bin .add (.symi .i64 29) (.symi .i64 28)) (.n (.n (.n (.e) 741430128 187 (.ite (.symb 25) (.int .i64 4) (.symi .i64 181)) (.e)) 744662955 101 (.ite (.symb 99) (.symb 100) (.bool false)) (.e)) 748421416 95 (.bin .lss (.symi .i64 44) (.symi .i64 8)) (.n (.n (.e) 749720904 100 (.bin .eql (.int .i64 4) (.symi .i64 96)) (.e)) 753198138 116 (.bin .eql (.symb 112) (.symb 113)) (.e)))) 761429932 168 (.un .not (.symb 167)) (.n (.n (.n (.n (.e) 761909216 83 (.bin .eql (.int .u8 0) (.symi .u8 46)) (.e)) 765901694 161 (.ite (.symb 160) (.int .i64 4) (.int .i64 0)) (.e)) 769040802 41 (.bin .lss (.symi .i64 40) (.symi .i64 28)) (.n (.n (.e) 772076033 108 (.ite (.symb 91) (.bool true) (.symb 92)) (.e)) 772311107 205 (.un .not (.symb 199)) (.e))) 776962418 117 (.un .not (.symb 114)) (.n (.n (.n (.e) 778731208 139 (.ite (.symb 138) (.int .i64 4) (.symi .i64 127)) (.e)) 792309670 62 (.un .neg (.symi .i64 61)) (.e)) 801375998 25 (.bin .lss (.symi .i64 2) (.symi .i64 8)) (.n (.n (.e) 801376005 10 (.bin .leq (.symi .i64 2) (.symi .i64 8)) (.e)) 801376019 80 (.bin .geq (.symi .i64 2) (.symi .i64 8)) (.e)))))) 809047693 174 (.bin .sub (.symi .i64 8) (.symi .i64 172)) (.n (.n (.n (.n (.n (.n (.e) 811309737 61 (.conv .i64 (.symi .u64 60)) (.e)) 818797061 67 (.bin .gtr (.symi .i64 40) (.int .i64 0)) (.n (.e) 820188711 146 (.ite (.symb 144) (.symb 145) (.bool false)) (.e))) 832779515 34 (.bin .sub (.symi .i64 30) (.symi .i64 28)) (.n (.n (.e) 835456602 191 (.bin .eql (.symi .i64 189) (.int .i64 0)) (.e)) 835783595 91 (.bin .neq (.symi .i64 44) (.symi .i64 2)) (.e))) 836784563 105 (.ite (.symb 87) (.bool true) (.symb 89)) (.n (.n (.n (.e) 842593530 202 (.ite (.symb 200) (.symb 201) (.bool false)) (.e)) 849421719 82 (.bin .lss (.symi .i64 45) (.symi .i64 8)) (.e)) 849746147 36 (.bin .leq (.symi .i64 34) (.symi .i64 30)) (.n (.n (.e) 851552090 137 (.un .not (.symb 136)) (.e)) 855621487 155 (.bin .neq (.symi .i64 151) (.symi .i64 30)) (.e)))) 862381614 69 (.ite (.symb 68) (.int .i64 4) (.int .i64 0)) (.n (.n (.n (.n (.e) 867084576 86 (.un .not (.symb 83)) (.e)) 873309648 135 (.ite (.symb 133) (.symb 134) (.bool false)) (.e)) 877965751 118 (.un .not (.symb 115)) (.n (.n (.e) 878920455 173 (.bin .neq (.symi .i64 172) (.symi .i64 2)) (.e)) 882642927 29 (.bin .add (.symi .i64 2) (.symi .i64 27)) (.e))) 883204616 88 (.bin .sub (.symi .i64 8) (.symi .i64 44)) (.n (.n (.n (.e) 888130996 65 (.bin .eql (.symi .i64 57) (.symi .i64 64)) (.e)) 888424587 70 (.ite (.symb 68) (.symi .i64 29) (.int .i64 0)) (.e)) 888846926 148 (.un .not (.symb 147)) (.n (.n (.e) 893370010 63 (.bin .sub (.symi .i64 62) (.int .i64 1)) (.e)) 901667520 109 (.ite (.symb 90) (.bool true) (.symb 108)) (.e))))) 936633609 35 (.bin .leq (.int .i64 0) (.symi .i64 34)) (.n (.n (.n (.n (.n (.e) 940945114 162 (.ite (.symb 160) (.symi .i64 30) (.int .i64 0)) (.e)) 943112501 158 (.bin .neq (.symi .i64 156) (.symi .i64 157)) (.e)) 956669931 102 (.ite (.symb 98) (.bool false) (.symb 101)) (.n (.n (.e) 958526613 57 (.bin .xor (.symi .i64 53) (.symi .i64 56)) (.e)) 966376050 106 (.ite (.symb 86) (.bool true) (.symb 105)) (.e))) 968087909 90 (.un .not (.symb 84)) (.n (.n (.n (.e) 971187671 184 (.bin .eql (.symi .i64 181) (.symi .i64 181)) (.e)) 978969084 119 (.un .not (.symb 116)) (.e)) 980550939 124 (.ite (.symb 117) (.bool true) (.symb 105)) (.n (.n (.e) 997024449 133 (.all [(.int .i64 3, .symi .i64 127), (.symi .i64 2, .symi .i64 128)]) (.e)) 998991184 26 (.fn 128 .u64 [.syms 3, .symi .i64 2]) (.e)))) 998991227 27 (.fn 129 .i64 [.syms 3, .symi .i64 2]) (.n (.n (.n (.n (.e) 998991270 24 (.fn 130 .i64 [.syms 3, .symi .i64 2]) (.e)) 1015888778 132 (.bin .eql (.symi .i64 127) (.int .i64 0)) (.e)) 1020797639 84 (.bin .eql (.symi .u8 42) (.int .u8 0)) (.n (.n (.e) 1020847674 112 (.bin .eql (.symi .u8 42) (.int .u8 1)) (.e)) 1020847702 43 (.bin .gtr (.symi .u8 42) (.int .u8 1)) (.e))) 1023995774 176 (.bin .eql (.int .i64 0) (.symi .i64 28)) (.n (.n (.n (.e) 1033524525 64 (.ite (.symb 59) (.symi .i64 61) (.symi .i64 63)) (.e)) 1061049092 53 (.conv .i64 (.symi .u64 52)) (.e)) 1061931902 72 (.all [(.int .i64 4, .symi .i64 69), (.symi .i64 29, .symi .i64 70)]) (.n (.n (.e) 1068693818 201 (.bin .eql (.int .i64 4) (.symi .i64 197)) (.e)) 1069091242 93 (.un .not (.symb 85)) (.e)))))))
set_option maxRecDepth 100000 in
def wrB0Kd : KdT := .n (.n (.n (.n (.n (.n (.n (.n .e (some .i64) .e) (some .i64) (.n .e none .e)) none (.n (.n .e none .e) none .e)) (some .u8) (.n (.n (.n .e none .e) none .e) none (.n (.n .e none .e) none .e))) (some .i16) (.n (.n (.n (.n .e none .e) none (.n .e none .e)) none (.n (.n .e none .e) none .e)) none (.n (.n (.n .e (some .i64) .e) none .e) (some .i64) (.n (.n .e none .e) none .e)))) none (.n (.n (.n (.n (.n .e none .e) none (.n .e none .e)) none (.n (.n .e none .e) none .e)) none (.n (.n (.n .e none .e) none .e) none (.n (.n .e none .e) none .e))) none (.n (.n (.n (.n .e (some .i64) .e) none (.n .e none .e)) none (.n (.n .e none .e) none .e)) (some .i64) (.n (.n (.n .e none .e) none .e) none (.n (.n .e (some .i64) .e) none .e))))) (some .i64) (.n (.n (.n (.n (.n (.n .e none .e) none (.n .e none .e)) none (.n (.n .e (some .i64) .e) (some .i64) .e)) none (.n (.n (.n .e none .e) none .e) none (.n (.n .e none .e) none .e))) none (.n (.n (.n (.n .e none .e) none (.n .e none .e)) none (.n (.n .e none .e) none .e)) none (.n (.n (.n .e none .e) none .e) (some .i64) (.n (.n .e none .e) none .e)))) (some .i64) (.n (.n (.n (.n (.n .e none .e) (some .i64) (.n .e (some .i64) .e)) (some .i64) (.n (.n .e none .e) none .e)) none (.n (.n (.n .e none .e) none .e) (some .i64) (.n (.n .e (some .i64) .e) none .e))) none (.n (.n (.n (.n .e (some .i64) .e) none (.n .e none .e)) (some .i64) (.n (.n .e none .e) none .e)) (some .i64) (.n (.n (.n .e (some .i64) .e) none .e) (some .i64) (.n (.n .e (some .i64) .e) none .e)))))) (some .i64) (.n (.n (.n (.n (.n (.n (.n .e (some .i64) .e) (some .i64) (.n .e none .e)) none (.n (.n .e none .e) (some .i64) .e)) none (.n (.n (.n .e none .e) none .e) (some .i64) (.n (.n .e none .e) none .e))) none (.n (.n (.n (.n .e none .e) none (.n .e none .e)) (some .i64) (.n (.n .e none .e) none .e)) (some .i64) (.n (.n (.n .e none .e) (some .i64) .e) none (.n (.n .e none .e) none .e)))) (some .i64) (.n (.n (.n (.n (.n .e none .e) none (.n .e none .e)) none (.n (.n .e none .e) none .e)) none (.n (.n (.n .e none .e) none .e) none (.n (.n .e (some .i16) .e) none .e))) none (.n (.n (.n (.n .e (some .i64) .e) none (.n .e none .e)) (some .i64) (.n (.n .e (some .i64) .e) none .e)) (some .i64) (.n (.n (.n .e (some .i64) .e) none .e) (some .u64) (.n (.n .e (some .i64) .e) none .e))))) (some .i64) (.n (.n (.n (.n (.n (.n .e (some .i64) .e) none (.n .e none .e)) (some .i64) (.n (.n .e (some .i64) .e) none .e)) none (.n (.n (.n .e none .e) none .e) (some .u64) (.n (.n .e none .e) none .e))) none (.n (.n (.n (.n .e none .e) none (.n .e none .e)) (some .u8) (.n (.n .e none .e) none .e)) (some .u64) (.n (.n (.n .e none .e) none .e) (some .u64) (.n (.n .e none .e) none .e)))) (some .u8) (.n (.n (.n (.n (.n .e none .e) (some .i64) (.n .e (some .i64) .e)) (some .i64) (.n (.n .e none .e) none .e)) none (.n (.n (.n .e (some .i64) .e) none .e) (some .u64) (.n (.n .e none .e) none .e))) none (.n (.n (.n (.n .e (some .i64) .e) (some .i64) .e) (some .u8) (.n (.n .e (some .i64) .e) none .e)) (some .i64) (.n (.n (.n .e none .e) none .e) none (.n (.n .e (some .i64) .e) (some .i64) .e))))))
noncomputable def wrB0Y : Ing := { m := 8, ins := wrKe, G := wrB0G, T := wrB0T, hook := tblHook (tabOf wnFs) wnTbl, tab := tabOf wnFs, rows := wrR, inv := OwnInv 0 isErr, kb := 206, kt := wrB0Kd }
noncomputable def wrB0X : Ing := { wrB0Y with mh := orMh (asMh Tryd.prog 45 74 76 46 40) (symMf (kdX wrB0Y) [sf48, sf44]) }
theorem wrB0_lt : okLT 8 wrB0G wrB0T = true := by kernel_rfl
theorem wrB0_kt : okKt wrB0X = true := by kernel_rfl
theorem wrB0_ok : okG wrB0G 8 = true := by kernel_rfl
theorem wrB0_hooks (F : List Fact) : Hooks Tryd.prog (cxOf wrB0X F) where
  val := fun f args v h hp => wn_hooks (X := wrB0X) rfl rfl wrB0_lt F f args v h hp
  mem := fun f args hp v hp' h => by
    replace h : orMh (asMh Tryd.prog 45 74 76 46 40) (symMf (kdX wrB0Y) [sf48, sf44]) (symS (baseOf wrB0X F)) f args hp = some (v, hp') := h
    unfold orMh at h
    split at h
    · rename_i r hr
      cases h
      exact as_mem0 (X := wrB0X) wrB0_lt as_ok is_ok (fun _ h => h) F f args hp v hp' hr
    · exact mem_symF (X := wrB0X) (tbl := [sf48, sf44]) (inv := fun _ => True) (fun e he => by
        simp only [List.mem_cons, List.not_mem_nil, or_false] at he
        rcases he with rfl | rfl
        · exact wn48_contract
        · exact wn44_contract) wrB0_lt rfl (fun _ _ _ _ => trivial) F f args hp v hp' h
  ovl := fun f k h => by simp only [wrB0X, wrB0Y, cxOf, reduceCtorEq] at h
  atm := fun k b h => by simp only [wrB0X, wrB0Y, cxOf, List.not_mem_nil] at h
end Go.Proofs.YtapfkgenachpgaaDoor.wr
