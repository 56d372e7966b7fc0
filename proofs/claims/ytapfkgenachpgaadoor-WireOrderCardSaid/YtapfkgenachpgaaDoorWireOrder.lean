/-
  WireOrder is true: of two numbers the lesser one's bytes are not more, and are less.
  No conditions.
-/
import Derived.Test.YtapfkgenachpgaaDoorRows
import Derived.Test.YtapfkgenachpgaaDoorCards
import Derived.Test.YtapfkgenachpgaaDoorTie
import Derived.SevenTiedAt
import Derived.WalkKit
import Derived.ProofKit
import Derived.OpenShut
import Derived.Below
import Derived.ChangeSame
import Derived.Lib.Strings
import Derived.Test.YtapfkgenachpgaaDoorFa
import Derived.Test.YtapfkgenachpgaaDoorEwZ
import Derived.Test.YtapfkgenachpgaaDoorEwZb
namespace Go.Proofs.YtapfkgenachpgaaDoor.wireOrder
open Go.ChangeShapes Go.WideShapes Go.ChangeAt Go.RowKit
open Go.Ev Go.Proofs.YtapfkgenachpgaaDoor.fa
set_option linter.unusedVariables false
set_option linter.unusedSimpArgs false

theorem own : ownKnob Tryd.prog.godebug = none := by kernel_rfl
theorem mixed : Tryd.prog.follows .mixedOrders = true := Checked.mixed Tryd.checked

/-! ### The chapter's examples -/
noncomputable def ing : Ing := { m := 0, G := [], T := .e, mh := asMh Tryd.prog 45 74 76 46 40, inv := OwnInv 0 isErr }
theorem hooks (F : List Fact) : Hooks Tryd.prog (cxOf ing F) :=
  ⟨fun f args v h => by simp only [ing, cxOf, noHook, reduceCtorEq] at h, fun f args hp v hp' h => as_mem (X := ing) rfl rfl as_ok is_ok (fun _ h => h) F f args hp v hp' h⟩
theorem works_run : isTrue ((evD Tryd.prog (cxOf ing) true 1000 40).1 [] 8 [] ⟨[], []⟩) = true := by kernel_rfl
theorem works_own (w : World) (O : Obj) (hO : isErr O) (hw : w.heap[0]? = some O) : Calls Tryd.prog 8 #[] w fun e w' => e = .returned (.bool true) ∧ Below w.heap.size w w' := by
  have hY : FzOk (errRow O) w := by
    obtain ⟨C, t, fr, rfl, hC⟩ := hO
    exact ⟨C, t, fr, hw, fun m j hm hj => absurd hj (Nat.not_lt_zero j), fun o ho => by cases ho; exact hw⟩
  exact closed_own (Y := errRow O) ⟨rfl, rfl, rfl, rfl, rfl, rfl⟩ (fun σ he => own_inv (r := 0) hO (by rw [he]; rfl)) (hm := mixed) (hh := hooks) (h := works_run) (w := w) (hY := hY)

def woSs : List Sh := [.one (.i .u64), .one (.i .u64)]
def woS0 : Shape := ⟨argT 0 (symSh woSs 0), []⟩
def woS1 : Shape := ⟨[(0, .symi .u64 0), (1, .symi .u64 1), (16, .symb 2)], []⟩
def woS2 : Shape := ⟨[(0, .symi .u64 0), (1, .symi .u64 1)], []⟩
def woSE : Shape := ⟨[(4, .bool true)], []⟩
def woK : List (Option IntKind) := [some .u64, some .u64]
def woK1 : List (Option IntKind) := [some .u64, some .u64, none]

set_option maxRecDepth 100000 in
def woAG : List SDef := [.bin .rem (.symi .u64 0) (.int .u64 4611686018427387904),
  .bin .rem (.symi .u64 1) (.int .u64 4611686018427387904),
  .bin .gtr (.symi .u64 2) (.symi .u64 3)]

def woAT : LT := .n (.n (.e) 1811605 2 (.bin .rem (.symi .u64 0) (.int .u64 4611686018427387904)) (.e)) 102811908 3 (.bin .rem (.symi .u64 1) (.int .u64 4611686018427387904)) (.n (.e) 158349949 4 (.bin .gtr (.symi .u64 2) (.symi .u64 3)) (.e))

def woAW : Sw := .run (.leaf .normal woS1 [] [(0, .symi .u64 2), (1, .symi .u64 3), (2, .symb 4)] [])
set_option maxRecDepth 100000 in
def woBG : List SDef := [.bin .and (.symi .u64 0) (.int .u64 4611686018427387903),
  .bin .shr (.symi .u64 2) (.int .i64 6),
  .bin .gtr (.symi .u64 3) (.int .u64 0),
  .bin .shr (.symi .u64 2) (.int .i64 14),
  .bin .gtr (.symi .u64 5) (.int .u64 0),
  .bin .shr (.symi .u64 2) (.int .i64 30),
  .bin .gtr (.symi .u64 7) (.int .u64 0),
  .bin .and (.symi .u64 1) (.int .u64 4611686018427387903),
  .bin .shr (.symi .u64 9) (.int .i64 6),
  .bin .gtr (.symi .u64 10) (.int .u64 0),
  .bin .shr (.symi .u64 9) (.int .i64 14),
  .bin .gtr (.symi .u64 12) (.int .u64 0),
  .bin .shr (.symi .u64 9) (.int .i64 30),
  .bin .gtr (.symi .u64 14) (.int .u64 0),
  .bin .shr (.symi .u64 0) (.int .u64 1),
  .conv .i64 (.symi .u64 16),
  .conv .u64 (.symi .i64 17),
  .bin .shl (.symi .u64 18) (.int .u64 1),
  .bin .shr (.symi .i64 17) (.int .u64 63),
  .conv .u64 (.symi .i64 20),
  .bin .xor (.symi .u64 19) (.symi .u64 21),
  .bin .and (.symi .u64 22) (.int .u64 4611686018427387903),
  .bin .shr (.symi .u64 23) (.int .i64 6),
  .bin .gtr (.symi .u64 24) (.int .u64 0),
  .bin .shr (.symi .u64 23) (.int .i64 14),
  .bin .gtr (.symi .u64 26) (.int .u64 0),
  .bin .shr (.symi .u64 23) (.int .i64 30),
  .bin .gtr (.symi .u64 28) (.int .u64 0),
  .un .neg (.symi .i64 17),
  .bin .sub (.symi .i64 30) (.int .i64 1),
  .conv .u64 (.symi .i64 31),
  .bin .shl (.symi .u64 32) (.int .u64 1),
  .bin .shr (.symi .i64 31) (.int .u64 63),
  .conv .u64 (.symi .i64 34),
  .bin .xor (.symi .u64 33) (.symi .u64 35),
  .bin .and (.symi .u64 36) (.int .u64 4611686018427387903),
  .bin .shr (.symi .u64 37) (.int .i64 6),
  .bin .gtr (.symi .u64 38) (.int .u64 0),
  .bin .shr (.symi .u64 37) (.int .i64 14),
  .bin .gtr (.symi .u64 40) (.int .u64 0),
  .bin .shr (.symi .u64 37) (.int .i64 30),
  .bin .gtr (.symi .u64 42) (.int .u64 0),
  .bin .or (.symi .u64 0) (.int .u64 1),
  .bin .and (.symi .u64 44) (.int .u64 4611686018427387903),
  .bin .shr (.symi .u64 45) (.int .i64 6),
  .bin .gtr (.symi .u64 46) (.int .u64 0),
  .bin .shr (.symi .u64 45) (.int .i64 14),
  .bin .gtr (.symi .u64 48) (.int .u64 0),
  .bin .shr (.symi .u64 45) (.int .i64 30),
  .bin .gtr (.symi .u64 50) (.int .u64 0),
  .bin .or (.symi .u64 2) (.int .u64 13835058055282163712),
  .bin .shr (.symi .u64 52) (.int .i64 56),
  .conv .u8 (.symi .u64 53),
  .bin .shr (.symi .u64 52) (.int .i64 48),
  .conv .u8 (.symi .u64 55),
  .bin .shr (.symi .u64 52) (.int .i64 40),
  .conv .u8 (.symi .u64 57),
  .bin .shr (.symi .u64 52) (.int .i64 32),
  .conv .u8 (.symi .u64 59),
  .bin .shr (.symi .u64 52) (.int .i64 24),
  .conv .u8 (.symi .u64 61),
  .bin .shr (.symi .u64 52) (.int .i64 16),
  .conv .u8 (.symi .u64 63),
  .bin .shr (.symi .u64 52) (.int .i64 8),
  .conv .u8 (.symi .u64 65),
  .bin .shr (.symi .u64 52) (.int .i64 0),
  .conv .u8 (.symi .u64 67),
  .text [.symi .u8 54, .symi .u8 56, .symi .u8 58, .symi .u8 60, .symi .u8 62, .symi .u8 64, .symi .u8 66, .symi .u8 68],
  .bin .or (.symi .u64 9) (.int .u64 13835058055282163712),
  .bin .shr (.symi .u64 70) (.int .i64 56),
  .conv .u8 (.symi .u64 71),
  .bin .shr (.symi .u64 70) (.int .i64 48),
  .conv .u8 (.symi .u64 73),
  .bin .shr (.symi .u64 70) (.int .i64 40),
  .conv .u8 (.symi .u64 75),
  .bin .shr (.symi .u64 70) (.int .i64 32),
  .conv .u8 (.symi .u64 77),
  .bin .shr (.symi .u64 70) (.int .i64 24),
  .conv .u8 (.symi .u64 79),
  .bin .shr (.symi .u64 70) (.int .i64 16),
  .conv .u8 (.symi .u64 81),
  .bin .shr (.symi .u64 70) (.int .i64 8),
  .conv .u8 (.symi .u64 83),
  .bin .shr (.symi .u64 70) (.int .i64 0),
  .conv .u8 (.symi .u64 85),
  .text [.symi .u8 72, .symi .u8 74, .symi .u8 76, .symi .u8 78, .symi .u8 80, .symi .u8 82, .symi .u8 84, .symi .u8 86],
  .bin .lss (.symi .u64 0) (.symi .u64 1),
  .bin .lss (.syms 69) (.syms 87),
  .bin .neq (.symb 88) (.symb 89),
  .bin .eql (.symi .u64 0) (.symi .u64 1),
  .bin .eql (.syms 69) (.syms 87),
  .bin .neq (.symb 91) (.symb 92),
  .bin .or (.symi .u64 23) (.int .u64 13835058055282163712),
  .bin .shr (.symi .u64 94) (.int .i64 56),
  .conv .u8 (.symi .u64 95),
  .bin .shr (.symi .u64 94) (.int .i64 48),
  .conv .u8 (.symi .u64 97),
  .bin .shr (.symi .u64 94) (.int .i64 40),
  .conv .u8 (.symi .u64 99),
  .bin .shr (.symi .u64 94) (.int .i64 32),
  .conv .u8 (.symi .u64 101),
  .bin .shr (.symi .u64 94) (.int .i64 24),
  .conv .u8 (.symi .u64 103),
  .bin .shr (.symi .u64 94) (.int .i64 16),
  .conv .u8 (.symi .u64 105),
  .bin .shr (.symi .u64 94) (.int .i64 8),
  .conv .u8 (.symi .u64 107),
  .bin .shr (.symi .u64 94) (.int .i64 0),
  .conv .u8 (.symi .u64 109),
  .bin .or (.symi .u64 37) (.int .u64 13835058055282163712),
  .bin .shr (.symi .u64 111) (.int .i64 56),
  .conv .u8 (.symi .u64 112),
  .bin .shr (.symi .u64 111) (.int .i64 48),
  .conv .u8 (.symi .u64 114),
  .bin .shr (.symi .u64 111) (.int .i64 40),
  .conv .u8 (.symi .u64 116),
  .bin .shr (.symi .u64 111) (.int .i64 32),
  .conv .u8 (.symi .u64 118),
  .bin .shr (.symi .u64 111) (.int .i64 24),
  .conv .u8 (.symi .u64 120),
  .bin .shr (.symi .u64 111) (.int .i64 16),
  .conv .u8 (.symi .u64 122),
  .bin .shr (.symi .u64 111) (.int .i64 8),
  .conv .u8 (.symi .u64 124),
  .bin .shr (.symi .u64 111) (.int .i64 0),
  .conv .u8 (.symi .u64 126),
  .bin .or (.symi .u64 45) (.int .u64 13835058055282163712),
  .bin .shr (.symi .u64 128) (.int .i64 56),
  .conv .u8 (.symi .u64 129),
  .bin .shr (.symi .u64 128) (.int .i64 48),
  .conv .u8 (.symi .u64 131),
  .bin .shr (.symi .u64 128) (.int .i64 40),
  .conv .u8 (.symi .u64 133),
  .bin .shr (.symi .u64 128) (.int .i64 32),
  .conv .u8 (.symi .u64 135),
  .bin .shr (.symi .u64 128) (.int .i64 24),
  .conv .u8 (.symi .u64 137),
  .bin .shr (.symi .u64 128) (.int .i64 16),
  .conv .u8 (.symi .u64 139),
  .bin .shr (.symi .u64 128) (.int .i64 8),
  .conv .u8 (.symi .u64 141),
  .bin .shr (.symi .u64 128) (.int .i64 0),
  .conv .u8 (.symi .u64 143),
  .bin .or (.symi .u64 2) (.int .u64 2147483648),
  .bin .shr (.symi .u64 145) (.int .i64 24),
  .conv .u8 (.symi .u64 146),
  .bin .shr (.symi .u64 145) (.int .i64 16),
  .conv .u8 (.symi .u64 148),
  .bin .shr (.symi .u64 145) (.int .i64 8),
  .conv .u8 (.symi .u64 150),
  .bin .shr (.symi .u64 145) (.int .i64 0),
  .conv .u8 (.symi .u64 152),
  .text [.symi .u8 147, .symi .u8 149, .symi .u8 151, .symi .u8 153],
  .bin .lss (.syms 154) (.syms 87),
  .bin .neq (.symb 88) (.symb 155),
  .bin .eql (.syms 154) (.syms 87),
  .bin .neq (.symb 91) (.symb 157),
  .bin .or (.symi .u64 23) (.int .u64 2147483648),
  .bin .shr (.symi .u64 159) (.int .i64 24),
  .conv .u8 (.symi .u64 160),
  .bin .shr (.symi .u64 159) (.int .i64 16),
  .conv .u8 (.symi .u64 162),
  .bin .shr (.symi .u64 159) (.int .i64 8),
  .conv .u8 (.symi .u64 164),
  .bin .shr (.symi .u64 159) (.int .i64 0),
  .conv .u8 (.symi .u64 166),
  .bin .or (.symi .u64 37) (.int .u64 2147483648),
  .bin .shr (.symi .u64 168) (.int .i64 24),
  .conv .u8 (.symi .u64 169),
  .bin .shr (.symi .u64 168) (.int .i64 16),
  .conv .u8 (.symi .u64 171),
  .bin .shr (.symi .u64 168) (.int .i64 8),
  .conv .u8 (.symi .u64 173),
  .bin .shr (.symi .u64 168) (.int .i64 0),
  .conv .u8 (.symi .u64 175),
  .bin .or (.symi .u64 45) (.int .u64 2147483648),
  .bin .shr (.symi .u64 177) (.int .i64 24),
  .conv .u8 (.symi .u64 178),
  .bin .shr (.symi .u64 177) (.int .i64 16),
  .conv .u8 (.symi .u64 180),
  .bin .shr (.symi .u64 177) (.int .i64 8),
  .conv .u8 (.symi .u64 182),
  .bin .shr (.symi .u64 177) (.int .i64 0),
  .conv .u8 (.symi .u64 184),
  .bin .or (.symi .u64 9) (.int .u64 2147483648),
  .bin .shr (.symi .u64 186) (.int .i64 24),
  .conv .u8 (.symi .u64 187),
  .bin .shr (.symi .u64 186) (.int .i64 16),
  .conv .u8 (.symi .u64 189),
  .bin .shr (.symi .u64 186) (.int .i64 8),
  .conv .u8 (.symi .u64 191),
  .bin .shr (.symi .u64 186) (.int .i64 0),
  .conv .u8 (.symi .u64 193),
  .text [.symi .u8 188, .symi .u8 190, .symi .u8 192, .symi .u8 194],
  .bin .lss (.syms 154) (.syms 195),
  .bin .neq (.symb 88) (.symb 196),
  .bin .eql (.syms 154) (.syms 195),
  .bin .neq (.symb 91) (.symb 198),
  .bin .or (.symi .u64 2) (.int .u64 16384),
  .bin .shr (.symi .u64 200) (.int .i64 8),
  .conv .u8 (.symi .u64 201),
  .bin .shr (.symi .u64 200) (.int .i64 0),
  .conv .u8 (.symi .u64 203),
  .text [.symi .u8 202, .symi .u8 204],
  .bin .lss (.syms 205) (.syms 87),
  .bin .neq (.symb 88) (.symb 206),
  .bin .eql (.syms 205) (.syms 87),
  .bin .neq (.symb 91) (.symb 208),
  .bin .or (.symi .u64 23) (.int .u64 16384),
  .bin .shr (.symi .u64 210) (.int .i64 8),
  .conv .u8 (.symi .u64 211),
  .bin .shr (.symi .u64 210) (.int .i64 0),
  .conv .u8 (.symi .u64 213),
  .bin .or (.symi .u64 37) (.int .u64 16384),
  .bin .shr (.symi .u64 215) (.int .i64 8),
  .conv .u8 (.symi .u64 216),
  .bin .shr (.symi .u64 215) (.int .i64 0),
  .conv .u8 (.symi .u64 218),
  .bin .or (.symi .u64 45) (.int .u64 16384),
  .bin .shr (.symi .u64 220) (.int .i64 8),
  .conv .u8 (.symi .u64 221),
  .bin .shr (.symi .u64 220) (.int .i64 0),
  .conv .u8 (.symi .u64 223),
  .bin .lss (.syms 205) (.syms 195),
  .bin .neq (.symb 88) (.symb 225),
  .bin .eql (.syms 205) (.syms 195),
  .bin .neq (.symb 91) (.symb 227),
  .bin .or (.symi .u64 9) (.int .u64 16384),
  .bin .shr (.symi .u64 229) (.int .i64 8),
  .conv .u8 (.symi .u64 230),
  .bin .shr (.symi .u64 229) (.int .i64 0),
  .conv .u8 (.symi .u64 232),
  .text [.symi .u8 231, .symi .u8 233],
  .bin .lss (.syms 205) (.syms 234),
  .bin .neq (.symb 88) (.symb 235),
  .bin .eql (.syms 205) (.syms 234),
  .bin .neq (.symb 91) (.symb 237),
  .bin .or (.symi .u64 2) (.int .u64 0),
  .bin .shr (.symi .u64 239) (.int .i64 0),
  .conv .u8 (.symi .u64 240),
  .text [.symi .u8 241],
  .bin .lss (.syms 242) (.syms 87),
  .bin .neq (.symb 88) (.symb 243),
  .bin .eql (.syms 242) (.syms 87),
  .bin .neq (.symb 91) (.symb 245),
  .bin .or (.symi .u64 23) (.int .u64 0),
  .bin .shr (.symi .u64 247) (.int .i64 0),
  .conv .u8 (.symi .u64 248),
  .bin .or (.symi .u64 37) (.int .u64 0),
  .bin .shr (.symi .u64 250) (.int .i64 0),
  .conv .u8 (.symi .u64 251),
  .bin .or (.symi .u64 45) (.int .u64 0),
  .bin .shr (.symi .u64 253) (.int .i64 0),
  .conv .u8 (.symi .u64 254),
  .bin .lss (.syms 242) (.syms 195),
  .bin .neq (.symb 88) (.symb 256),
  .bin .eql (.syms 242) (.syms 195),
  .bin .neq (.symb 91) (.symb 258),
  .bin .lss (.syms 242) (.syms 234),
  .bin .neq (.symb 88) (.symb 260),
  .bin .eql (.syms 242) (.syms 234),
  .bin .neq (.symb 91) (.symb 262),
  .bin .or (.symi .u64 9) (.int .u64 0),
  .bin .shr (.symi .u64 264) (.int .i64 0),
  .conv .u8 (.symi .u64 265),
  .text [.symi .u8 266],
  .bin .lss (.syms 242) (.syms 267),
  .bin .neq (.symb 88) (.symb 268),
  .bin .eql (.syms 242) (.syms 267),
  .bin .neq (.symb 91) (.symb 270)]

def woBT : LT := .n (.n (.n (.n (.n (.n (.n (.n (.n (.e) 60394 44 (.bin .or (.symi .u64 0) (.int .u64 1)) (.e)) 60415 16 (.bin .shr (.symi .u64 0) (.int .u64 1)) (.e)) 1761577 2 (.bin .and (.symi .u64 0) (.int .u64 4611686018427387903)) (.n (.e) 2830100 74 (.conv .u8 (.symi .u64 73)) (.e))) 5333220 93 (.bin .neq (.symb 91) (.symb 92)) (.n (.n (.e) 5659868 147 (.conv .u8 (.symi .u64 146)) (.e)) 8836882 197 (.bin .neq (.symb 88) (.symb 196)) (.n (.e) 10844623 33 (.bin .shl (.symi .u64 32) (.int .u64 1)) (.e)))) 24012471 241 (.conv .u8 (.symi .u64 240)) (.n (.n (.n (.e) 43147240 143 (.bin .shr (.symi .u64 128) (.int .i64 0)) (.e)) 43547520 141 (.bin .shr (.symi .u64 128) (.int .i64 8)) (.n (.e) 43947800 139 (.bin .shr (.symi .u64 128) (.int .i64 16)) (.e))) 44348080 137 (.bin .shr (.symi .u64 128) (.int .i64 24)) (.n (.n (.e) 44748360 135 (.bin .shr (.symi .u64 128) (.int .i64 32)) (.e)) 45148640 133 (.bin .shr (.symi .u64 128) (.int .i64 40)) (.n (.e) 45548920 131 (.bin .shr (.symi .u64 128) (.int .i64 48)) (.e))))) 45949200 129 (.bin .shr (.symi .u64 128) (.int .i64 56)) (.n (.n (.n (.n (.n (.e) 46568837 64 (.conv .u8 (.symi .u64 63)) (.e)) 54437513 244 (.bin .neq (.symb 88) (.symb 243)) (.e)) 55847597 269 (.bin .neq (.symb 88) (.symb 268)) (.n (.e) 67751208 231 (.conv .u8 (.symi .u64 230)) (.e))) 76284589 23 (.bin .and (.symi .u64 22) (.int .u64 4611686018427387903)) (.n (.n (.e) 77614507 106 (.conv .u8 (.symi .u64 105)) (.e)) 80444275 179 (.conv .u8 (.symi .u64 178)) (.n (.e) 83274043 252 (.conv .u8 (.symi .u64 251)) (.e)))) 90307574 54 (.conv .u8 (.symi .u64 53)) (.n (.n (.n (.e) 93137342 127 (.conv .u8 (.symi .u64 126)) (.e)) 102761880 9 (.bin .and (.symi .u64 1) (.int .u64 4611686018427387903)) (.n (.e) 121353244 96 (.conv .u8 (.symi .u64 95)) (.e))) 136876079 117 (.conv .u8 (.symi .u64 116)) (.n (.n (.e) 138272231 13 (.bin .gtr (.symi .u64 12) (.int .u64 0)) (.e)) 139705847 190 (.conv .u8 (.symi .u64 189)) (.n (.e) 140725029 209 (.bin .neq (.symb 91) (.symb 208)) (.e)))))) 141373480 208 (.bin .eql (.syms 205) (.syms 87)) (.n (.n (.n (.n (.n (.n (.e) 141373494 206 (.bin .lss (.syms 205) (.syms 87)) (.e)) 143545197 259 (.bin .neq (.symb 91) (.symb 258)) (.e)) 150807601 45 (.bin .and (.symi .u64 44) (.int .u64 4611686018427387903)) (.n (.e) 152398914 138 (.conv .u8 (.symi .u64 137)) (.e))) 165091981 86 (.conv .u8 (.symi .u64 85)) (.n (.n (.e) 175233464 159 (.bin .or (.symi .u64 23) (.int .u64 2147483648)) (.e)) 175533674 247 (.bin .or (.symi .u64 23) (.int .u64 0)) (.n (.e) 175833905 24 (.bin .shr (.symi .u64 23) (.int .i64 6)) (.e)))) 176234185 26 (.bin .shr (.symi .u64 23) (.int .i64 14)) (.n (.n (.n (.e) 177034745 28 (.bin .shr (.symi .u64 23) (.int .i64 30)) (.e)) 180937454 94 (.bin .or (.symi .u64 23) (.int .u64 13835058055282163712)) (.n (.e) 195254451 258 (.bin .eql (.syms 242) (.syms 195)) (.e))) 195254465 256 (.bin .lss (.syms 242) (.syms 195)) (.n (.n (.e) 198498563 237 (.bin .eql (.syms 205) (.syms 234)) (.e)) 198498577 235 (.bin .lss (.syms 205) (.syms 234)) (.n (.e) 201710755 145 (.bin .or (.symi .u64 2) (.int .u64 2147483648)) (.e))))) 202010965 239 (.bin .or (.symi .u64 2) (.int .u64 0)) (.n (.n (.n (.n (.n (.e) 202311196 3 (.bin .shr (.symi .u64 2) (.int .i64 6)) (.e)) 202711476 5 (.bin .shr (.symi .u64 2) (.int .i64 14)) (.e)) 203512036 7 (.bin .shr (.symi .u64 2) (.int .i64 30)) (.n (.e) 207414745 52 (.bin .or (.symi .u64 2) (.int .u64 13835058055282163712)) (.e))) 208830718 76 (.conv .u8 (.symi .u64 75)) (.n (.n (.e) 211660486 149 (.conv .u8 (.symi .u64 148)) (.e)) 214490254 222 (.conv .u8 (.symi .u64 221)) (.n (.e) 224149281 207 (.bin .neq (.symb 88) (.symb 206)) (.e)))) 226969449 257 (.bin .neq (.symb 88) (.symb 256)) (.n (.n (.n (.e) 227183321 170 (.conv .u8 (.symi .u64 169)) (.e)) 227696039 228 (.bin .neq (.symb 91) (.symb 227)) (.n (.e) 240238985 218 (.bin .shr (.symi .u64 215) (.int .i64 0)) (.e))) 240639265 216 (.bin .shr (.symi .u64 215) (.int .i64 8)) (.n (.n (.e) 245147182 270 (.bin .eql (.syms 242) (.syms 267)) (.e)) 245147196 268 (.bin .lss (.syms 242) (.syms 267)) (.n (.e) 249756476 177 (.bin .or (.symi .u64 45) (.int .u64 2147483648)) (.e))))))) 250056686 253 (.bin .or (.symi .u64 45) (.int .u64 0)) (.n (.n (.n (.n (.n (.n (.n (.e) 250356917 46 (.bin .shr (.symi .u64 45) (.int .i64 6)) (.e)) 250757197 48 (.bin .shr (.symi .u64 45) (.int .i64 14)) (.e)) 251023200 248 (.bin .shr (.symi .u64 247) (.int .i64 0)) (.n (.e) 251557757 50 (.bin .shr (.symi .u64 45) (.int .i64 30)) (.e))) 252569455 66 (.conv .u8 (.symi .u64 65)) (.n (.n (.e) 255460466 128 (.bin .or (.symi .u64 45) (.int .u64 13835058055282163712)) (.e)) 258228991 212 (.conv .u8 (.symi .u64 211)) (.n (.e) 261827702 215 (.bin .or (.symi .u64 37) (.int .u64 16384)) (.e)))) 273751826 233 (.conv .u8 (.symi .u64 232)) (.n (.n (.n (.e) 276534040 25 (.bin .gtr (.symi .u64 24) (.int .u64 0)) (.e)) 280785357 35 (.conv .u64 (.symi .i64 34)) (.n (.e) 283615125 108 (.conv .u8 (.symi .u64 107)) (.e))) 286444893 181 (.conv .u8 (.symi .u64 180)) (.n (.n (.e) 296308192 56 (.conv .u8 (.symi .u64 55)) (.e)) 301967728 202 (.conv .u8 (.symi .u64 201)) (.n (.e) 303011331 4 (.bin .gtr (.symi .u64 3) (.int .u64 0)) (.e))))) 311120291 226 (.bin .neq (.symb 88) (.symb 225)) (.n (.n (.n (.n (.n (.e) 318030031 36 (.bin .xor (.symi .u64 33) (.symi .u64 35)) (.e)) 327353862 98 (.conv .u8 (.symi .u64 97)) (.e)) 340272837 15 (.bin .gtr (.symi .u64 14) (.int .u64 0)) (.n (.e) 342876697 119 (.conv .u8 (.symi .u64 118)) (.e))) 343383986 91 (.bin .eql (.symi .u64 0) (.symi .u64 1)) (.n (.n (.e) 343384000 88 (.bin .lss (.symi .u64 0) (.symi .u64 1)) (.e)) 345706465 192 (.conv .u8 (.symi .u64 191)) (.n (.e) 351057052 47 (.bin .gtr (.symi .u64 46) (.int .u64 0)) (.e)))) 358399532 140 (.conv .u8 (.symi .u64 139)) (.n (.n (.n (.e) 358892028 157 (.bin .eql (.syms 154) (.syms 87)) (.e)) 358892042 155 (.bin .lss (.syms 154) (.syms 87)) (.n (.e) 363508999 92 (.bin .eql (.syms 69) (.syms 87)) (.e))) 363509013 89 (.bin .lss (.syms 69) (.syms 87)) (.n (.n (.e) 373922367 161 (.conv .u8 (.symi .u64 160)) (.e)) 392274970 255 (.conv .u8 (.symi .u64 254)) (.n (.e) 402138269 130 (.conv .u8 (.symi .u64 129)) (.e)))))) 414831336 78 (.conv .u8 (.symi .u64 77)) (.n (.n (.n (.n (.n (.n (.e) 416547004 37 (.bin .and (.symi .u64 36) (.int .u64 4611686018427387903)) (.e)) 417661104 151 (.conv .u8 (.symi .u64 150)) (.e)) 420490872 224 (.conv .u8 (.symi .u64 223)) (.n (.e) 433183939 172 (.conv .u8 (.symi .u64 171)) (.e))) 443008438 238 (.bin .neq (.symb 91) (.symb 237)) (.n (.n (.e) 444418522 263 (.bin .neq (.symb 91) (.symb 262)) (.e)) 451536542 266 (.conv .u8 (.symi .u64 265)) (.n (.e) 458570073 68 (.conv .u8 (.symi .u64 67)) (.e)))) 464229609 214 (.conv .u8 (.symi .u64 213)) (.n (.n (.n (.e) 473625743 126 (.bin .shr (.symi .u64 111) (.int .i64 0)) (.e)) 474026023 124 (.bin .shr (.symi .u64 111) (.int .i64 8)) (.n (.e) 474426303 122 (.bin .shr (.symi .u64 111) (.int .i64 16)) (.e))) 474826583 120 (.bin .shr (.symi .u64 111) (.int .i64 24)) (.n (.n (.e) 475226863 118 (.bin .shr (.symi .u64 111) (.int .i64 32)) (.e)) 475627143 116 (.bin .shr (.symi .u64 111) (.int .i64 40)) (.n (.e) 476027423 114 (.bin .shr (.symi .u64 111) (.int .i64 48)) (.e))))) 476427703 112 (.bin .shr (.symi .u64 111) (.int .i64 56)) (.n (.n (.n (.n (.n (.e) 478534646 27 (.bin .gtr (.symi .u64 26) (.int .u64 0)) (.e)) 489615743 110 (.conv .u8 (.symi .u64 109)) (.e)) 492445511 183 (.conv .u8 (.symi .u64 182)) (.n (.e) 496109068 267 (.text [.symi .u8 266]) (.e))) 502308810 58 (.conv .u8 (.symi .u64 57)) (.n (.n (.e) 505011937 6 (.bin .gtr (.symi .u64 5) (.int .u64 0)) (.e)) 507968346 204 (.conv .u8 (.symi .u64 203)) (.n (.e) 515495879 168 (.bin .or (.symi .u64 37) (.int .u64 2147483648)) (.e)))) 515796089 250 (.bin .or (.symi .u64 37) (.int .u64 0)) (.n (.n (.n (.e) 516096320 38 (.bin .shr (.symi .u64 37) (.int .i64 6)) (.e)) 516496600 40 (.bin .shr (.symi .u64 37) (.int .i64 14)) (.n (.e) 516762603 240 (.bin .shr (.symi .u64 239) (.int .i64 0)) (.e))) 517297160 42 (.bin .shr (.symi .u64 37) (.int .i64 30)) (.n (.n (.e) 521199869 111 (.bin .or (.symi .u64 37) (.int .u64 13835058055282163712)) (.e)) 526432690 236 (.bin .neq (.symb 88) (.symb 235)) (.n (.e) 527842774 261 (.bin .neq (.symb 88) (.symb 260)) (.e)))))))) 532455679 193 (.bin .shr (.symi .u64 186) (.int .i64 0)) (.n (.n (.n (.n (.n (.n (.n (.n (.e) 532855959 191 (.bin .shr (.symi .u64 186) (.int .i64 8)) (.e)) 533256239 189 (.bin .shr (.symi .u64 186) (.int .i64 16)) (.e)) 533354480 100 (.conv .u8 (.symi .u64 99)) (.n (.e) 533656519 187 (.bin .shr (.symi .u64 186) (.int .i64 24)) (.e))) 539526659 22 (.bin .xor (.symi .u64 19) (.symi .u64 21)) (.n (.n (.e) 542325024 242 (.text [.symi .u8 241]) (.e)) 548877315 121 (.conv .u8 (.symi .u64 120)) (.n (.e) 551707083 194 (.conv .u8 (.symi .u64 193)) (.e)))) 553057658 49 (.bin .gtr (.symi .u64 48) (.int .u64 0)) (.n (.n (.n (.e) 554024109 251 (.bin .shr (.symi .u64 250) (.int .i64 0)) (.e)) 564400150 142 (.conv .u8 (.symi .u64 141)) (.n (.e) 574263449 17 (.conv .i64 (.symi .u64 16)) (.e))) 579922985 163 (.conv .u8 (.symi .u64 162)) (.n (.n (.e) 580501400 232 (.bin .shr (.symi .u64 229) (.int .i64 0)) (.e)) 580901680 230 (.bin .shr (.symi .u64 229) (.int .i64 8)) (.n (.e) 594968793 69 (.text [.symi .u8 54, .symi .u8 56, .symi .u8 58, .symi .u8 60, .symi .u8 62, .symi .u8 64, .symi .u8 66, .symi .u8 68]) (.e))))) 608138887 132 (.conv .u8 (.symi .u64 131)) (.n (.n (.n (.n (.n (.e) 616796455 39 (.bin .gtr (.symi .u64 38) (.int .u64 0)) (.e)) 620831954 80 (.conv .u8 (.symi .u64 79)) (.e)) 623661722 153 (.conv .u8 (.symi .u64 152)) (.n (.e) 627580628 85 (.bin .shr (.symi .u64 70) (.int .i64 0)) (.e))) 627980908 83 (.bin .shr (.symi .u64 70) (.int .i64 8)) (.n (.n (.e) 628381188 81 (.bin .shr (.symi .u64 70) (.int .i64 16)) (.e)) 628781468 79 (.bin .shr (.symi .u64 70) (.int .i64 24)) (.n (.e) 629181748 77 (.bin .shr (.symi .u64 70) (.int .i64 32)) (.e)))) 629582028 75 (.bin .shr (.symi .u64 70) (.int .i64 40)) (.n (.n (.n (.e) 629982308 73 (.bin .shr (.symi .u64 70) (.int .i64 48)) (.e)) 630382588 71 (.bin .shr (.symi .u64 70) (.int .i64 56)) (.n (.e) 637040101 87 (.text [.symi .u8 72, .symi .u8 74, .symi .u8 76, .symi .u8 78, .symi .u8 80, .symi .u8 82, .symi .u8 84, .symi .u8 86]) (.e))) 639184557 174 (.conv .u8 (.symi .u64 173)) (.n (.n (.e) 643263646 30 (.un .neg (.symi .i64 17)) (.e)) 646425909 20 (.bin .shr (.symi .i64 17) (.int .u64 63)) (.n (.e) 655044699 229 (.bin .or (.symi .u64 9) (.int .u64 16384)) (.e)))))) 657286268 245 (.bin .eql (.syms 242) (.syms 87)) (.n (.n (.n (.n (.n (.n (.e) 657286282 243 (.bin .lss (.syms 242) (.syms 87)) (.e)) 676295478 154 (.text [.symi .u8 147, .symi .u8 149, .symi .u8 151, .symi .u8 153]) (.e)) 677263758 18 (.conv .u64 (.symi .i64 17)) (.n (.e) 680535252 29 (.bin .gtr (.symi .u64 28) (.int .u64 0)) (.e))) 686410564 152 (.bin .shr (.symi .u64 145) (.int .i64 0)) (.n (.n (.e) 686810844 150 (.bin .shr (.symi .u64 145) (.int .i64 8)) (.e)) 687211124 148 (.bin .shr (.symi .u64 145) (.int .i64 16)) (.n (.e) 687611404 146 (.bin .shr (.symi .u64 145) (.int .i64 24)) (.e)))) 694424667 234 (.text [.symi .u8 231, .symi .u8 233]) (.n (.n (.n (.e) 697194779 184 (.bin .shr (.symi .u64 177) (.int .i64 0)) (.e)) 697595059 182 (.bin .shr (.symi .u64 177) (.int .i64 8)) (.n (.e) 697995339 180 (.bin .shr (.symi .u64 177) (.int .i64 16)) (.e))) 698395619 178 (.bin .shr (.symi .u64 177) (.int .i64 24)) (.n (.n (.e) 698446129 185 (.conv .u8 (.symi .u64 184)) (.e)) 707012543 8 (.bin .gtr (.symi .u64 7) (.int .u64 0)) (.n (.e) 708309428 60 (.conv .u8 (.symi .u64 59)) (.e))))) 714411351 262 (.bin .eql (.syms 242) (.syms 234)) (.n (.n (.n (.n (.n (.e) 714411365 260 (.bin .lss (.syms 242) (.syms 234)) (.e)) 739355098 102 (.conv .u8 (.symi .u64 101)) (.e)) 744324035 19 (.bin .shl (.symi .u64 18) (.int .u64 1)) (.n (.e) 745240500 223 (.bin .shr (.symi .u64 220) (.int .i64 0)) (.e))) 745640780 221 (.bin .shr (.symi .u64 220) (.int .i64 8)) (.n (.n (.e) 753083490 227 (.bin .eql (.syms 205) (.syms 195)) (.e)) 753083504 225 (.bin .lss (.syms 205) (.syms 195)) (.n (.e) 754877933 123 (.conv .u8 (.symi .u64 122)) (.e)))) 755058264 51 (.bin .gtr (.symi .u64 50) (.int .u64 0)) (.n (.n (.n (.e) 770400768 144 (.conv .u8 (.symi .u64 143)) (.e)) 773230536 217 (.conv .u8 (.symi .u64 216)) (.n (.e) 785923603 165 (.conv .u8 (.symi .u64 164)) (.e))) 798616670 113 (.conv .u8 (.symi .u64 112)) (.n (.n (.e) 808979297 213 (.bin .shr (.symi .u64 210) (.int .i64 0)) (.e)) 809379577 211 (.bin .shr (.symi .u64 210) (.int .i64 8)) (.n (.e) 814139505 134 (.conv .u8 (.symi .u64 133)) (.e))))))) 818797061 41 (.bin .gtr (.symi .u64 40) (.int .u64 0)) (.n (.n (.n (.n (.n (.n (.n (.e) 818845511 90 (.bin .neq (.symb 88) (.symb 89)) (.e)) 826832572 82 (.conv .u8 (.symi .u64 81)) (.e)) 845185175 176 (.conv .u8 (.symi .u64 175)) (.n (.e) 848014943 249 (.conv .u8 (.symi .u64 248)) (.e))) 857025018 254 (.bin .shr (.symi .u64 253) (.int .i64 0)) (.n (.n (.e) 861933879 175 (.bin .shr (.symi .u64 168) (.int .i64 0)) (.e)) 862334159 173 (.bin .shr (.symi .u64 168) (.int .i64 8)) (.n (.e) 862734439 171 (.bin .shr (.symi .u64 168) (.int .i64 16)) (.e)))) 863134719 169 (.bin .shr (.symi .u64 168) (.int .i64 24)) (.n (.n (.n (.e) 867992900 158 (.bin .neq (.symb 91) (.symb 157)) (.e)) 870571309 72 (.conv .u8 (.symi .u64 71)) (.n (.e) 872718094 203 (.bin .shr (.symi .u64 200) (.int .i64 0)) (.e))) 873118374 201 (.bin .shr (.symi .u64 200) (.int .i64 8)) (.n (.n (.e) 882585795 31 (.bin .sub (.symi .i64 30) (.int .i64 1)) (.e)) 894286524 265 (.bin .shr (.symi .u64 264) (.int .i64 0)) (.n (.e) 904104246 109 (.bin .shr (.symi .u64 94) (.int .i64 0)) (.e))))) 904504526 107 (.bin .shr (.symi .u64 94) (.int .i64 8)) (.n (.n (.n (.n (.n (.e) 904904806 105 (.bin .shr (.symi .u64 94) (.int .i64 16)) (.e)) 905305086 103 (.bin .shr (.symi .u64 94) (.int .i64 24)) (.e)) 905705366 101 (.bin .shr (.symi .u64 94) (.int .i64 32)) (.n (.e) 906105646 99 (.bin .shr (.symi .u64 94) (.int .i64 40)) (.e))) 906505926 97 (.bin .shr (.symi .u64 94) (.int .i64 48)) (.n (.n (.e) 906906206 95 (.bin .shr (.symi .u64 94) (.int .i64 56)) (.e)) 908712876 186 (.bin .or (.symi .u64 9) (.int .u64 2147483648)) (.n (.e) 909013086 264 (.bin .or (.symi .u64 9) (.int .u64 0)) (.e)))) 909313317 10 (.bin .shr (.symi .u64 9) (.int .i64 6)) (.n (.n (.n (.e) 909713597 12 (.bin .shr (.symi .u64 9) (.int .i64 14)) (.e)) 910514157 14 (.bin .shr (.symi .u64 9) (.int .i64 30)) (.n (.e) 914310046 62 (.conv .u8 (.symi .u64 61)) (.e))) 914416866 70 (.bin .or (.symi .u64 9) (.int .u64 13835058055282163712)) (.n (.n (.e) 945355716 104 (.conv .u8 (.symi .u64 103)) (.e)) 949672069 205 (.text [.symi .u8 202, .symi .u8 204]) (.n (.e) 951417152 156 (.bin .neq (.symb 88) (.symb 155)) (.e)))))) 957058828 67 (.bin .shr (.symi .u64 52) (.int .i64 0)) (.n (.n (.n (.n (.n (.n (.e) 957459108 65 (.bin .shr (.symi .u64 52) (.int .i64 8)) (.e)) 957859388 63 (.bin .shr (.symi .u64 52) (.int .i64 16)) (.e)) 958259668 61 (.bin .shr (.symi .u64 52) (.int .i64 24)) (.n (.e) 958659948 59 (.bin .shr (.symi .u64 52) (.int .i64 32)) (.e))) 959060228 57 (.bin .shr (.symi .u64 52) (.int .i64 40)) (.n (.n (.e) 959460508 55 (.bin .shr (.symi .u64 52) (.int .i64 48)) (.e)) 959860788 53 (.bin .shr (.symi .u64 52) (.int .i64 56)) (.n (.e) 960878551 125 (.conv .u8 (.symi .u64 124)) (.e)))) 970270474 195 (.text [.symi .u8 188, .symi .u8 190, .symi .u8 192, .symi .u8 194]) (.n (.n (.n (.e) 970602038 198 (.bin .eql (.syms 154) (.syms 195)) (.e)) 970602052 196 (.bin .lss (.syms 154) (.syms 195)) (.n (.e) 979231154 219 (.conv .u8 (.symi .u64 218)) (.e))) 986264685 21 (.conv .u64 (.symi .i64 20)) (.n (.n (.e) 986688324 34 (.bin .shr (.symi .i64 31) (.int .u64 63)) (.e)) 991924221 167 (.conv .u8 (.symi .u64 166)) (.n (.e) 995307114 210 (.bin .or (.symi .u64 23) (.int .u64 16384)) (.e))))) 999154457 199 (.bin .neq (.symb 91) (.symb 198)) (.n (.n (.n (.n (.e) 1004617288 115 (.conv .u8 (.symi .u64 114)) (.e)) 1007447056 188 (.conv .u8 (.symi .u64 187)) (.n (.e) 1010013452 11 (.bin .gtr (.symi .u64 10) (.int .u64 0)) (.e))) 1020140123 136 (.conv .u8 (.symi .u64 135)) (.n (.n (.e) 1020797667 43 (.bin .gtr (.symi .u64 42) (.int .u64 0)) (.e)) 1021784405 200 (.bin .or (.symi .u64 2) (.int .u64 16384)) (.n (.e) 1026672979 166 (.bin .shr (.symi .u64 159) (.int .i64 0)) (.e)))) 1027073259 164 (.bin .shr (.symi .u64 159) (.int .i64 8)) (.n (.n (.n (.e) 1027473539 162 (.bin .shr (.symi .u64 159) (.int .i64 16)) (.e)) 1027873819 160 (.bin .shr (.symi .u64 159) (.int .i64 24)) (.n (.e) 1032833190 84 (.conv .u8 (.symi .u64 83)) (.e))) 1044755088 246 (.bin .neq (.symb 91) (.symb 245)) (.n (.n (.e) 1045526257 32 (.conv .u64 (.symi .i64 31)) (.e)) 1046165172 271 (.bin .neq (.symb 91) (.symb 270)) (.n (.e) 1069830126 220 (.bin .or (.symi .u64 45) (.int .u64 16384)) (.e))))))))

def woBW : Sw := .node 4 (.node 6 (.node 8 (.node 11 (.node 13 (.node 15 (.node 25 (.node 27 (.node 29 (.node 39 (.node 41 (.node 43 (.node 47 (.node 49 (.node 51 (.run (.node 90 (.dead) (.node 93 (.dead) (.leaf .ret woSE [] [] [])))) (.dead)) (.dead)) (.dead)) (.dead)) (.dead)) (.dead)) (.dead)) (.dead)) (.dead)) (.dead)) (.dead)) (.dead)) (.node 11 (.node 13 (.node 15 (.node 25 (.node 27 (.node 29 (.dead) (.node 39 (.node 41 (.node 43 (.dead) (.node 47 (.node 49 (.node 51 (.dead) (.run (.node 156 (.dead) (.node 158 (.dead) (.leaf .ret woSE [] [] []))))) (.dead)) (.dead))) (.dead)) (.dead))) (.dead)) (.dead)) (.node 25 (.node 27 (.node 29 (.dead) (.node 39 (.node 41 (.node 43 (.dead) (.node 47 (.node 49 (.node 51 (.dead) (.run (.node 197 (.dead) (.node 199 (.dead) (.leaf .ret woSE [] [] []))))) (.dead)) (.dead))) (.dead)) (.dead))) (.dead)) (.dead))) (.dead)) (.dead))) (.node 8 (.dead) (.node 11 (.node 13 (.node 15 (.node 25 (.node 27 (.dead) (.node 29 (.dead) (.node 39 (.node 41 (.dead) (.node 43 (.dead) (.node 47 (.node 49 (.dead) (.node 51 (.dead) (.run (.node 207 (.dead) (.node 209 (.dead) (.leaf .ret woSE [] [] [])))))) (.dead)))) (.dead)))) (.dead)) (.node 25 (.node 27 (.dead) (.node 29 (.dead) (.node 39 (.node 41 (.dead) (.node 43 (.dead) (.node 47 (.node 49 (.dead) (.node 51 (.dead) (.run (.node 226 (.dead) (.node 228 (.dead) (.leaf .ret woSE [] [] [])))))) (.dead)))) (.dead)))) (.dead))) (.node 15 (.dead) (.node 25 (.node 27 (.dead) (.node 29 (.dead) (.node 39 (.node 41 (.dead) (.node 43 (.dead) (.node 47 (.node 49 (.dead) (.node 51 (.dead) (.run (.node 236 (.dead) (.node 238 (.dead) (.leaf .ret woSE [] [] [])))))) (.dead)))) (.dead)))) (.dead)))) (.dead)))) (.node 6 (.dead) (.node 8 (.dead) (.node 11 (.node 13 (.node 15 (.node 25 (.dead) (.node 27 (.dead) (.node 29 (.dead) (.node 39 (.dead) (.node 41 (.dead) (.node 43 (.dead) (.node 47 (.dead) (.node 49 (.dead) (.node 51 (.dead) (.run (.node 244 (.dead) (.node 246 (.dead) (.leaf .ret woSE [] [] []))))))))))))) (.node 25 (.dead) (.node 27 (.dead) (.node 29 (.dead) (.node 39 (.dead) (.node 41 (.dead) (.node 43 (.dead) (.node 47 (.dead) (.node 49 (.dead) (.node 51 (.dead) (.run (.node 257 (.dead) (.node 259 (.dead) (.leaf .ret woSE [] [] [])))))))))))))) (.node 15 (.dead) (.node 25 (.dead) (.node 27 (.dead) (.node 29 (.dead) (.node 39 (.dead) (.node 41 (.dead) (.node 43 (.dead) (.node 47 (.dead) (.node 49 (.dead) (.node 51 (.dead) (.run (.node 261 (.dead) (.node 263 (.dead) (.leaf .ret woSE [] [] []))))))))))))))) (.node 13 (.dead) (.node 15 (.dead) (.node 25 (.dead) (.node 27 (.dead) (.node 29 (.dead) (.node 39 (.dead) (.node 41 (.dead) (.node 43 (.dead) (.node 47 (.dead) (.node 49 (.dead) (.node 51 (.dead) (.run (.node 269 (.dead) (.node 271 (.dead) (.leaf .ret woSE [] [] []))))))))))))))))))
set_option maxRecDepth 100000 in
def woCG : List SDef := []

def woCT : LT := .e

def woCW : Sw := .run (.leaf .normal woS2 [] [(0, .symi .u64 1), (1, .symi .u64 0)] [])
set_option maxRecDepth 100000 in
def woDG : List SDef := []

def woDT : LT := .e

def woDW : Sw := .run (.leaf .normal woS2 [] [(0, .symi .u64 0), (1, .symi .u64 1)] [])
noncomputable def woAX : Ing := { m := 2, ins := woK, G := woAG, T := woAT, mh := trueMh [8], inv := OwnInv 0 isErr }
theorem wo_hooks (F : List Fact) : Hooks Tryd.prog (cxOf woAX F) :=
  ⟨fun f args v h => by simp only [woAX, cxOf, noHook, reduceCtorEq] at h, fun f args hp v hp' h => true_mem (X := woAX) (fs := [8]) rfl (fun f hf w O h1 h2 => by
    obtain rfl := List.mem_singleton.1 hf
    exact works_own w O h1 h2) (fun _ h => h) F f args hp v hp' h⟩
theorem woA_ok : okG woAG 2 = true := by kernel_rfl
theorem woA_lt : okLT 2 woAG woAT = true := by kernel_rfl
theorem woA_seg : SegOkI Tryd.prog noTab 72 ((flatC (bodyOf Tryd.f3)).take 5) woS0 woAX woAW where
  lt := woA_lt
  ok := woA_ok
  hook := wo_hooks
  n0 := rfl
  id := by kernel_rfl
  reck := by kernel_rfl
  tab := rfl
  cuts := rfl
def woBX : Ing := { m := 2, ins := woK, G := woBG, T := woBT }
theorem woB_ok : okG woBG 2 = true := by kernel_rfl
theorem woB_lt : okLT 2 woBG woBT = true := by kernel_rfl
theorem woB_seg : SegOk Tryd.prog noTab 72 ((flatC (bodyOf Tryd.f3)).drop 6) woS2 woBX woBW where
  lt := woB_lt
  ok := woB_ok
  hook := fun F => no_hooks rfl F
  n0 := rfl
  id := by kernel_rfl
  reck := by kernel_rfl
  tab := rfl
  cuts := rfl
def woCX : Ing := { m := 3, ins := woK1, G := woCG, T := woCT }
theorem woC_ok : okG woCG 3 = true := by kernel_rfl
theorem woC_lt : okLT 3 woCG woCT = true := by kernel_rfl
theorem woC_seg : SegOk Tryd.prog noTab 72 (flatC (yesAt 5 (bodyOf Tryd.f3))) woS1 woCX woCW where
  lt := woC_lt
  ok := woC_ok
  hook := fun F => no_hooks rfl F
  n0 := rfl
  id := by kernel_rfl
  reck := by kernel_rfl
  tab := rfl
  cuts := rfl
def woDX : Ing := { m := 3, ins := woK1, G := woDG, T := woDT }
theorem woD_ok : okG woDG 3 = true := by kernel_rfl
theorem woD_lt : okLT 3 woDG woDT = true := by kernel_rfl
theorem woD_seg : SegOk Tryd.prog noTab 72 (flatC (noAt 5 (bodyOf Tryd.f3))) woS1 woDX woDW where
  lt := woD_lt
  ok := woD_ok
  hook := fun F => no_hooks rfl F
  n0 := rfl
  id := by kernel_rfl
  reck := by kernel_rfl
  tab := rfl
  cuts := rfl

/-! ### Bytes -/

def be : Nat → Int → List UInt8
  | 0, _ => []
  | m + 1, x => UInt8.ofNat (x / 256 ^ m % 256).toNat :: be m x

theorem u8_lt (a b : Int) (h0 : 0 ≤ a) (h1 : a < 256) (h2 : 0 ≤ b) (h3 : b < 256) : (UInt8.ofNat a.toNat < UInt8.ofNat b.toNat) = (a < b) := by
  rw [UInt8.lt_iff_toNat_lt, UInt8.toNat_ofNat', UInt8.toNat_ofNat', Nat.mod_eq_of_lt (by omega), Nat.mod_eq_of_lt (by omega)]
  exact propext ⟨fun h => by omega, fun h => by omega⟩
theorem u8_eq (a b : Int) (h0 : 0 ≤ a) (h1 : a < 256) (h2 : 0 ≤ b) (h3 : b < 256) : (UInt8.ofNat a.toNat = UInt8.ofNat b.toNat) = (a = b) := by
  rw [← UInt8.toNat_inj, UInt8.toNat_ofNat', UInt8.toNat_ofNat', Nat.mod_eq_of_lt (by omega), Nat.mod_eq_of_lt (by omega)]
  exact propext ⟨fun h => by omega, fun h => by omega⟩
theorem split256 (m : Nat) (x : Int) (h : 0 ≤ x) : ∃ d r : Int, x / 256 ^ m % 256 = d ∧ x % 256 ^ m = r ∧ x % 256 ^ (m + 1) = d * 256 ^ m + r ∧ 0 ≤ d ∧ d < 256 ∧ 0 ≤ r ∧ r < 256 ^ m := by
  have hp : (0 : Int) < 256 ^ m := Int.pow_pos (by decide)
  refine ⟨_, _, rfl, rfl, ?_, by omega, by omega, Int.emod_nonneg _ (by omega), Int.emod_lt_of_pos _ hp⟩
  have h1 : x % 256 ^ (m + 1) = x - 256 ^ (m + 1) * (x / 256 ^ (m + 1)) := by have := Int.emod_add_mul_ediv x (256 ^ (m + 1)); omega
  have h2 : x / 256 ^ (m + 1) = x / 256 ^ m / 256 := by rw [Int.pow_succ, Int.ediv_ediv_of_nonneg (by omega)]
  have h3 := Int.emod_add_mul_ediv x (256 ^ m)
  have h4 := Int.emod_add_mul_ediv (x / 256 ^ m) 256
  rw [h1, h2, Int.pow_succ]
  generalize x / 256 ^ m / 256 = q at *
  generalize hy : x / 256 ^ m = y at *
  generalize (256 : Int) ^ m = P at *
  have h5 : y % 256 = y - 256 * q := by omega
  rw [h5]
  have : P * 256 * q = P * (256 * q) := by rw [Int.mul_assoc]
  rw [this, Int.sub_mul]
  have e1 : (256 * q) * P = P * (256 * q) := Int.mul_comm _ _
  have e2 : y * P = P * y := Int.mul_comm _ _
  rw [e1, e2]
  omega
theorem lex_lt {P d d' r r' : Int} (hP : 0 < P) (h2 : 0 ≤ r) (h3 : r < P) (h4 : 0 ≤ r') (h5 : r' < P) : (d * P + r < d' * P + r') ↔ (d < d' ∨ d = d' ∧ r < r') := by
  constructor
  · intro h
    rcases Int.lt_trichotomy d d' with hd | hd | hd
    · exact .inl hd
    · subst hd; exact .inr ⟨rfl, by omega⟩
    · have : (d' + 1) * P ≤ d * P := Int.mul_le_mul_of_nonneg_right (by omega) (by omega)
      rw [Int.add_mul] at this
      omega
  · rintro (hd | ⟨rfl, h⟩)
    · have : (d + 1) * P ≤ d' * P := Int.mul_le_mul_of_nonneg_right (by omega) (by omega)
      rw [Int.add_mul] at this
      omega
    · omega
theorem be_lt : ∀ (m : Nat) (x y : Int), 0 ≤ x → 0 ≤ y → Op.bytesLess (be m x) (be m y) = decide (x % 256 ^ m < y % 256 ^ m)
  | 0, x, y, _, _ => by simp [be, Op.bytesLess]
  | m + 1, x, y, hx, hy => by
    obtain ⟨d, r, h1, h2, h3, h4, h5, h6, h7⟩ := split256 m x hx
    obtain ⟨d', r', g1, g2, g3, g4, g5, g6, g7⟩ := split256 m y hy
    have ih := be_lt m x y hx hy
    have hP : (0 : Int) < 256 ^ m := Int.pow_pos (by decide)
    simp only [be, Op.bytesLess, h1, g1, ih, h2, g2, h3, g3, u8_lt d d' h4 h5 g4 g5]
    rw [Bool.eq_iff_iff]
    simp only [Bool.or_eq_true, Bool.and_eq_true, decide_eq_true_eq, beq_iff_eq, u8_eq d d' h4 h5 g4 g5]
    exact (lex_lt hP h6 h7 g6 g7).symm
theorem be_eq : ∀ (m : Nat) (x y : Int), 0 ≤ x → 0 ≤ y → (be m x == be m y) = decide (x % 256 ^ m = y % 256 ^ m)
  | 0, x, y, _, _ => by simp [be]
  | m + 1, x, y, hx, hy => by
    obtain ⟨d, r, h1, h2, h3, h4, h5, h6, h7⟩ := split256 m x hx
    obtain ⟨d', r', g1, g2, g3, g4, g5, g6, g7⟩ := split256 m y hy
    have ih := be_eq m x y hx hy
    have hP : (0 : Int) < 256 ^ m := Int.pow_pos (by decide)
    simp only [be, h1, g1, h3, g3]
    rw [h2, g2] at ih
    rw [Bool.eq_iff_iff] at ih ⊢
    simp only [decide_eq_true_eq, beq_iff_eq, List.cons.injEq, u8_eq d d' h4 h5 g4 g5] at ih ⊢
    rw [ih]
    have a1 := lex_lt (d := d) (d' := d') hP h6 h7 g6 g7
    have a2 := lex_lt (d := d') (d' := d) hP g6 g7 h6 h7
    constructor
    · rintro ⟨rfl, rfl⟩; rfl
    · intro h
      have b1 : ¬ (d < d' ∨ d = d' ∧ r < r') := fun hh => by have := a1.2 hh; omega
      have b2 : ¬ (d' < d ∨ d' = d ∧ r' < r) := fun hh => by have := a2.2 hh; omega
      omega
theorem be_head (m m' : Nat) (x y : Int) (h0 : 0 ≤ x / 256 ^ m) (h1 : x / 256 ^ m < y / 256 ^ m') (h2 : y / 256 ^ m' < 256) : Op.bytesLess (be (m + 1) x) (be (m' + 1) y) = true ∧ (be (m + 1) x == be (m' + 1) y) = false := by
  have e1 : x / 256 ^ m % 256 = x / 256 ^ m := Int.emod_eq_of_lt h0 (by omega)
  have e2 : y / 256 ^ m' % 256 = y / 256 ^ m' := Int.emod_eq_of_lt (by omega) h2
  have l := u8_lt (x / 256 ^ m) (y / 256 ^ m') h0 (by omega) (by omega) h2
  have q := u8_eq (x / 256 ^ m) (y / 256 ^ m') h0 (by omega) (by omega) h2
  constructor
  · simp only [be, Op.bytesLess, e1, e2]
    rw [Bool.or_eq_true]
    left
    rw [decide_eq_true_eq, l]; exact h1
  · rw [Bool.eq_false_iff]
    intro h
    simp only [be, beq_iff_eq, List.cons.injEq, e1, e2, q] at h
    omega
theorem byte_at (x : Int) (k i : Nat) (n : Int) (hn : min n.toNat IntKind.u64.bits = 8 * i) (hk : k = i) : UInt8.ofNat (IntKind.u8.wrap (x.fdiv (2 ^ (min n.toNat IntKind.u64.bits)))).toNat = UInt8.ofNat (x / 256 ^ k % 256).toNat := by
  subst hk
  have hp : (0 : Int) ≤ 256 ^ k := Int.le_of_lt (Int.pow_pos (by decide))
  rw [hn, show (2 : Int) ^ (8 * k) = 256 ^ k by rw [Int.pow_mul]; rfl, Int.fdiv_eq_ediv_of_nonneg _ hp]
  have : IntKind.u8.wrap (x / 256 ^ k) = x / 256 ^ k % 256 := by simp [IntKind.wrap, IntKind.bits, IntKind.signed]
  rw [this]
theorem tl (l : List UInt8) : (ByteArray.mk l.toArray).toList = l := by rw [Lib.toList_data]

/-! ### Numbers of 64 bits -/
theorem w64u {n : Int} (h0 : 0 ≤ n) (h1 : n < 18446744073709551616) : IntKind.u64.wrap n = n := by
  simp [IntKind.wrap, IntKind.bits, IntKind.signed]; omega
theorem w64i {n : Int} (h0 : -9223372036854775808 ≤ n) (h1 : n ≤ 9223372036854775807) : IntKind.i64.wrap n = n := by
  simp [IntKind.wrap, IntKind.bits, IntKind.signed]; omega
theorem bvN {n : Int} (h0 : 0 ≤ n) (h1 : n < 18446744073709551616) : (BitVec.ofInt 64 n).toNat = n.toNat := by
  rw [BitVec.toNat_ofInt]; omega
theorem and_mask {n : Int} (h0 : 0 ≤ n) (h1 : n < 4611686018427387904) : IntKind.u64.wrap ((BitVec.ofInt IntKind.u64.bits n &&& BitVec.ofInt IntKind.u64.bits 4611686018427387903).toNat : Int) = n := by
  show IntKind.u64.wrap ((BitVec.ofInt 64 n &&& BitVec.ofInt 64 4611686018427387903 : BitVec 64).toNat : Int) = n
  rw [BitVec.toNat_and, bvN h0 (by omega), bvN (by decide) (by decide)]
  have : n.toNat &&& (4611686018427387903 : Int).toNat = n.toNat := by
    have := Nat.and_two_pow_sub_one_eq_mod n.toNat 62
    rw [show (4611686018427387903 : Int).toNat = 2 ^ 62 - 1 by decide, this]
    exact Nat.mod_eq_of_lt (by omega)
  rw [this, w64u (by omega) (by omega)]; omega
theorem or_lit {x c : Int} (i s : Nat) (hc : c = ((2 ^ i * s : Nat) : Int)) (h0 : 0 ≤ x) (h1 : x < ((2 ^ i : Nat) : Int)) (h64 : 2 ^ i * s + 2 ^ i ≤ 18446744073709551616) : IntKind.u64.wrap ((BitVec.ofInt IntKind.u64.bits x ||| BitVec.ofInt IntKind.u64.bits c).toNat : Int) = x + c := by
  show IntKind.u64.wrap ((BitVec.ofInt 64 x ||| BitVec.ofInt 64 c : BitVec 64).toNat : Int) = x + c
  rw [BitVec.toNat_or, bvN h0 (by omega), bvN (by omega) (by omega), hc, Int.toNat_natCast, Nat.or_comm, ← Nat.two_pow_add_eq_or_of_lt (by omega), w64u (by omega) (by omega)]
  omega
theorem or_one {x : Int} (h0 : 0 ≤ x) (h1 : x < 4611686018427387904) : IntKind.u64.wrap ((BitVec.ofInt IntKind.u64.bits x ||| BitVec.ofInt IntKind.u64.bits 1).toNat : Int) = x - x % 2 + 1 := by
  show IntKind.u64.wrap ((BitVec.ofInt 64 x ||| BitVec.ofInt 64 1 : BitVec 64).toNat : Int) = x - x % 2 + 1
  rw [BitVec.toNat_or, bvN h0 (by omega), bvN (by decide) (by decide)]
  have key : x.toNat ||| 1 = 2 * (x.toNat / 2) + 1 := by
    have h := Nat.two_pow_add_eq_or_of_lt (i := 1) (b := 1) (by decide) (x.toNat / 2)
    rw [show (2 : Nat) ^ 1 = 2 by decide] at h
    rcases Nat.mod_two_eq_zero_or_one x.toNat with h2 | h2
    · have : x.toNat = 2 * (x.toNat / 2) := by omega
      conv => lhs; rw [this]
      exact h.symm
    · have : x.toNat = 2 * (x.toNat / 2) + 1 := by omega
      rw [h] at this
      rw [h]
      conv => lhs; rw [this]
      rw [Nat.or_assoc, Nat.or_self]
  rw [show (1 : Int).toNat = 1 by decide, key, w64u (by omega) (by omega)]
  omega
theorem xor_zero {x : Int} (h0 : 0 ≤ x) (h1 : x < 18446744073709551616) : IntKind.u64.wrap ((BitVec.ofInt IntKind.u64.bits x ^^^ BitVec.ofInt IntKind.u64.bits 0).toNat : Int) = x := by
  show IntKind.u64.wrap ((BitVec.ofInt 64 x ^^^ BitVec.ofInt 64 0 : BitVec 64).toNat : Int) = x
  rw [show BitVec.ofInt 64 0 = 0#64 by decide, BitVec.xor_zero, bvN h0 h1, w64u (by omega) (by omega)]
  omega
theorem xor_ones {x : Int} (h0 : 0 ≤ x) (h1 : x < 18446744073709551616) : IntKind.u64.wrap ((BitVec.ofInt IntKind.u64.bits x ^^^ BitVec.ofInt IntKind.u64.bits 18446744073709551615).toNat : Int) = 18446744073709551615 - x := by
  show IntKind.u64.wrap ((BitVec.ofInt 64 x ^^^ BitVec.ofInt 64 18446744073709551615 : BitVec 64).toNat : Int) = _
  rw [show BitVec.ofInt 64 18446744073709551615 = BitVec.allOnes 64 by decide, BitVec.xor_allOnes, BitVec.toNat_not, bvN h0 h1, w64u (by omega) (by omega)]
  omega
theorem sh_gt {x : Int} (k : Nat) (n : Int) (P : Int) (hn : min n.toNat IntKind.u64.bits = k) (hP : (2 : Int) ^ k = P) (hp : 0 < P) (h0 : 0 ≤ x) : decide (x.fdiv (2 ^ (min n.toNat IntKind.u64.bits)) > 0) = decide (P ≤ x) := by
  rw [hn, hP, Int.fdiv_eq_ediv_of_nonneg _ (by omega)]
  rw [Bool.eq_iff_iff, decide_eq_true_eq, decide_eq_true_eq]
  constructor
  · intro h
    rcases Int.lt_or_le x P with h' | h'
    · rw [Int.ediv_eq_zero_of_lt h0 h'] at h; omega
    · exact h'
  · intro h
    have := Int.le_ediv_of_mul_le hp (show 1 * P ≤ x by omega)
    omega

/-! ### The numbers of the run -/
set_option maxRecDepth 100000 in
theorem woN (τ : Sig) (e : Eqs τ 2 woBG) (h0 : 0 ≤ τ.ival 0) (hab : τ.ival 0 ≤ τ.ival 1) (hb : τ.ival 1 < 4611686018427387904) :
    τ.ival 2 = τ.ival 0 ∧ τ.ival 9 = τ.ival 1 ∧ τ.ival 23 = τ.ival 0 - τ.ival 0 % 2 ∧ τ.ival 37 = τ.ival 0 - τ.ival 0 % 2 + 1 ∧ τ.ival 45 = τ.ival 0 - τ.ival 0 % 2 + 1 := by
  have e2 : τ.ival 2 = IntKind.u64.wrap (BitVec.ofInt IntKind.u64.bits (τ.ival 0) &&& BitVec.ofInt IntKind.u64.bits (4611686018427387903)).toNat := eqI (e.at 0 _ rfl rfl) rfl
  have e9 : τ.ival 9 = IntKind.u64.wrap (BitVec.ofInt IntKind.u64.bits (τ.ival 1) &&& BitVec.ofInt IntKind.u64.bits (4611686018427387903)).toNat := eqI (e.at 7 _ rfl rfl) rfl
  have e16 : τ.ival 16 = ((τ.ival 0 : Int).fdiv (2 ^ (min (1 : Int).toNat IntKind.u64.bits))) := eqI (e.at 14 _ rfl rfl) rfl
  have e17 : τ.ival 17 = IntKind.i64.wrap (τ.ival 16) := eqI (e.at 15 _ rfl rfl) rfl
  have e18 : τ.ival 18 = IntKind.u64.wrap (τ.ival 17) := eqI (e.at 16 _ rfl rfl) rfl
  have e19 : τ.ival 19 = IntKind.u64.wrap (τ.ival 18 * 2 ^ (min (1 : Int).toNat IntKind.u64.bits)) := eqI (e.at 17 _ rfl rfl) rfl
  have e20 : τ.ival 20 = ((τ.ival 17 : Int).fdiv (2 ^ (min (63 : Int).toNat IntKind.i64.bits))) := eqI (e.at 18 _ rfl rfl) rfl
  have e21 : τ.ival 21 = IntKind.u64.wrap (τ.ival 20) := eqI (e.at 19 _ rfl rfl) rfl
  have e22 : τ.ival 22 = IntKind.u64.wrap (BitVec.ofInt IntKind.u64.bits (τ.ival 19) ^^^ BitVec.ofInt IntKind.u64.bits (τ.ival 21)).toNat := eqI (e.at 20 _ rfl rfl) rfl
  have e23 : τ.ival 23 = IntKind.u64.wrap (BitVec.ofInt IntKind.u64.bits (τ.ival 22) &&& BitVec.ofInt IntKind.u64.bits (4611686018427387903)).toNat := eqI (e.at 21 _ rfl rfl) rfl
  have e30 : τ.ival 30 = IntKind.i64.wrap (0 - τ.ival 17) := eqI (e.at 28 _ rfl rfl) rfl
  have e31 : τ.ival 31 = IntKind.i64.wrap (τ.ival 30 - 1) := eqI (e.at 29 _ rfl rfl) rfl
  have e32 : τ.ival 32 = IntKind.u64.wrap (τ.ival 31) := eqI (e.at 30 _ rfl rfl) rfl
  have e33 : τ.ival 33 = IntKind.u64.wrap (τ.ival 32 * 2 ^ (min (1 : Int).toNat IntKind.u64.bits)) := eqI (e.at 31 _ rfl rfl) rfl
  have e34 : τ.ival 34 = ((τ.ival 31 : Int).fdiv (2 ^ (min (63 : Int).toNat IntKind.i64.bits))) := eqI (e.at 32 _ rfl rfl) rfl
  have e35 : τ.ival 35 = IntKind.u64.wrap (τ.ival 34) := eqI (e.at 33 _ rfl rfl) rfl
  have e36 : τ.ival 36 = IntKind.u64.wrap (BitVec.ofInt IntKind.u64.bits (τ.ival 33) ^^^ BitVec.ofInt IntKind.u64.bits (τ.ival 35)).toNat := eqI (e.at 34 _ rfl rfl) rfl
  have e37 : τ.ival 37 = IntKind.u64.wrap (BitVec.ofInt IntKind.u64.bits (τ.ival 36) &&& BitVec.ofInt IntKind.u64.bits (4611686018427387903)).toNat := eqI (e.at 35 _ rfl rfl) rfl
  have e44 : τ.ival 44 = IntKind.u64.wrap (BitVec.ofInt IntKind.u64.bits (τ.ival 0) ||| BitVec.ofInt IntKind.u64.bits (1)).toNat := eqI (e.at 42 _ rfl rfl) rfl
  have e45 : τ.ival 45 = IntKind.u64.wrap (BitVec.ofInt IntKind.u64.bits (τ.ival 44) &&& BitVec.ofInt IntKind.u64.bits (4611686018427387903)).toNat := eqI (e.at 43 _ rfl rfl) rfl
  have a16 : τ.ival 16 = τ.ival 0 / 2 := by rw [e16]; show (τ.ival 0).fdiv 2 = _; rw [Int.fdiv_eq_ediv_of_nonneg _ (by decide)]
  have a17 : τ.ival 17 = τ.ival 0 / 2 := by rw [e17, a16, w64i (by omega) (by omega)]
  have a18 : τ.ival 18 = τ.ival 0 / 2 := by rw [e18, a17, w64u (by omega) (by omega)]
  have a19 : τ.ival 19 = τ.ival 0 - τ.ival 0 % 2 := by rw [e19, a18]; show IntKind.u64.wrap (τ.ival 0 / 2 * 2) = _; rw [w64u (by omega) (by omega)]; omega
  have a20 : τ.ival 20 = 0 := by rw [e20, a17]; show (τ.ival 0 / 2).fdiv 9223372036854775808 = 0; rw [Int.fdiv_eq_ediv_of_nonneg _ (by decide)]; exact Int.ediv_eq_zero_of_lt (by omega) (by omega)
  have a21 : τ.ival 21 = 0 := by rw [e21, a20]; rfl
  have a22 : τ.ival 22 = τ.ival 0 - τ.ival 0 % 2 := by rw [e22, a21, a19]; exact xor_zero (by omega) (by omega)
  have a30 : τ.ival 30 = -(τ.ival 0 / 2) := by rw [e30, a17, w64i (by omega) (by omega)]; omega
  have a31 : τ.ival 31 = -(τ.ival 0 / 2) - 1 := by rw [e31, a30, w64i (by omega) (by omega)]
  have a32 : τ.ival 32 = 18446744073709551616 - τ.ival 0 / 2 - 1 := by rw [e32, a31]; simp [IntKind.wrap, IntKind.bits, IntKind.signed]; omega
  have a33 : τ.ival 33 = 18446744073709551616 - 2 * (τ.ival 0 / 2) - 2 := by rw [e33, a32]; show IntKind.u64.wrap ((18446744073709551616 - τ.ival 0 / 2 - 1) * 2) = _; simp [IntKind.wrap, IntKind.bits, IntKind.signed]; omega
  have a34 : τ.ival 34 = -1 := by
    rw [e34, a31]; show (-(τ.ival 0 / 2) - 1).fdiv 9223372036854775808 = -1; rw [Int.fdiv_eq_ediv_of_nonneg _ (by decide)]; omega
  have a35 : τ.ival 35 = 18446744073709551615 := by rw [e35, a34]; rfl
  have a36 : τ.ival 36 = τ.ival 0 - τ.ival 0 % 2 + 1 := by rw [e36, a35, a33, xor_ones (by omega) (by omega)]; omega
  refine ⟨by rw [e2]; exact and_mask (by omega) (by omega), by rw [e9]; exact and_mask (by omega) (by omega), by rw [e23, a22]; exact and_mask (by omega) (by omega), by rw [e37, a36]; exact and_mask (by omega) (by omega), ?_⟩
  rw [e45, e44, or_one (by omega) (by omega)]
  exact and_mask (by omega) (by omega)
set_option maxRecDepth 100000 in
theorem woT (τ : Sig) (e : Eqs τ 2 woBG) (h0 : 0 ≤ τ.ival 0) (hab : τ.ival 0 ≤ τ.ival 1) (hb : τ.ival 1 < 4611686018427387904) :
    τ.bval 4 = decide (64 ≤ τ.ival 0) ∧ τ.bval 6 = decide (16384 ≤ τ.ival 0) ∧ τ.bval 8 = decide (1073741824 ≤ τ.ival 0) ∧ τ.bval 11 = decide (64 ≤ τ.ival 1) ∧ τ.bval 13 = decide (16384 ≤ τ.ival 1) ∧ τ.bval 15 = decide (1073741824 ≤ τ.ival 1) ∧ τ.bval 25 = decide (64 ≤ τ.ival 0) ∧ τ.bval 27 = decide (16384 ≤ τ.ival 0) ∧ τ.bval 29 = decide (1073741824 ≤ τ.ival 0) ∧ τ.bval 39 = decide (64 ≤ τ.ival 0) ∧ τ.bval 41 = decide (16384 ≤ τ.ival 0) ∧ τ.bval 43 = decide (1073741824 ≤ τ.ival 0) ∧ τ.bval 47 = decide (64 ≤ τ.ival 0) ∧ τ.bval 49 = decide (16384 ≤ τ.ival 0) ∧ τ.bval 51 = decide (1073741824 ≤ τ.ival 0) := by
  obtain ⟨n2, n9, n23, n37, n45⟩ := woN τ e h0 hab hb
  have e3 : τ.ival 3 = ((τ.ival 2 : Int).fdiv (2 ^ (min (6 : Int).toNat IntKind.u64.bits))) := eqI (e.at 1 _ rfl rfl) rfl
  have e4 : τ.bval 4 = decide (τ.ival 3 > 0) := eqB (e.at 2 _ rfl rfl) rfl
  have e5 : τ.ival 5 = ((τ.ival 2 : Int).fdiv (2 ^ (min (14 : Int).toNat IntKind.u64.bits))) := eqI (e.at 3 _ rfl rfl) rfl
  have e6 : τ.bval 6 = decide (τ.ival 5 > 0) := eqB (e.at 4 _ rfl rfl) rfl
  have e7 : τ.ival 7 = ((τ.ival 2 : Int).fdiv (2 ^ (min (30 : Int).toNat IntKind.u64.bits))) := eqI (e.at 5 _ rfl rfl) rfl
  have e8 : τ.bval 8 = decide (τ.ival 7 > 0) := eqB (e.at 6 _ rfl rfl) rfl
  have e10 : τ.ival 10 = ((τ.ival 9 : Int).fdiv (2 ^ (min (6 : Int).toNat IntKind.u64.bits))) := eqI (e.at 8 _ rfl rfl) rfl
  have e11 : τ.bval 11 = decide (τ.ival 10 > 0) := eqB (e.at 9 _ rfl rfl) rfl
  have e12 : τ.ival 12 = ((τ.ival 9 : Int).fdiv (2 ^ (min (14 : Int).toNat IntKind.u64.bits))) := eqI (e.at 10 _ rfl rfl) rfl
  have e13 : τ.bval 13 = decide (τ.ival 12 > 0) := eqB (e.at 11 _ rfl rfl) rfl
  have e14 : τ.ival 14 = ((τ.ival 9 : Int).fdiv (2 ^ (min (30 : Int).toNat IntKind.u64.bits))) := eqI (e.at 12 _ rfl rfl) rfl
  have e15 : τ.bval 15 = decide (τ.ival 14 > 0) := eqB (e.at 13 _ rfl rfl) rfl
  have e24 : τ.ival 24 = ((τ.ival 23 : Int).fdiv (2 ^ (min (6 : Int).toNat IntKind.u64.bits))) := eqI (e.at 22 _ rfl rfl) rfl
  have e25 : τ.bval 25 = decide (τ.ival 24 > 0) := eqB (e.at 23 _ rfl rfl) rfl
  have e26 : τ.ival 26 = ((τ.ival 23 : Int).fdiv (2 ^ (min (14 : Int).toNat IntKind.u64.bits))) := eqI (e.at 24 _ rfl rfl) rfl
  have e27 : τ.bval 27 = decide (τ.ival 26 > 0) := eqB (e.at 25 _ rfl rfl) rfl
  have e28 : τ.ival 28 = ((τ.ival 23 : Int).fdiv (2 ^ (min (30 : Int).toNat IntKind.u64.bits))) := eqI (e.at 26 _ rfl rfl) rfl
  have e29 : τ.bval 29 = decide (τ.ival 28 > 0) := eqB (e.at 27 _ rfl rfl) rfl
  have e38 : τ.ival 38 = ((τ.ival 37 : Int).fdiv (2 ^ (min (6 : Int).toNat IntKind.u64.bits))) := eqI (e.at 36 _ rfl rfl) rfl
  have e39 : τ.bval 39 = decide (τ.ival 38 > 0) := eqB (e.at 37 _ rfl rfl) rfl
  have e40 : τ.ival 40 = ((τ.ival 37 : Int).fdiv (2 ^ (min (14 : Int).toNat IntKind.u64.bits))) := eqI (e.at 38 _ rfl rfl) rfl
  have e41 : τ.bval 41 = decide (τ.ival 40 > 0) := eqB (e.at 39 _ rfl rfl) rfl
  have e42 : τ.ival 42 = ((τ.ival 37 : Int).fdiv (2 ^ (min (30 : Int).toNat IntKind.u64.bits))) := eqI (e.at 40 _ rfl rfl) rfl
  have e43 : τ.bval 43 = decide (τ.ival 42 > 0) := eqB (e.at 41 _ rfl rfl) rfl
  have e46 : τ.ival 46 = ((τ.ival 45 : Int).fdiv (2 ^ (min (6 : Int).toNat IntKind.u64.bits))) := eqI (e.at 44 _ rfl rfl) rfl
  have e47 : τ.bval 47 = decide (τ.ival 46 > 0) := eqB (e.at 45 _ rfl rfl) rfl
  have e48 : τ.ival 48 = ((τ.ival 45 : Int).fdiv (2 ^ (min (14 : Int).toNat IntKind.u64.bits))) := eqI (e.at 46 _ rfl rfl) rfl
  have e49 : τ.bval 49 = decide (τ.ival 48 > 0) := eqB (e.at 47 _ rfl rfl) rfl
  have e50 : τ.ival 50 = ((τ.ival 45 : Int).fdiv (2 ^ (min (30 : Int).toNat IntKind.u64.bits))) := eqI (e.at 48 _ rfl rfl) rfl
  have e51 : τ.bval 51 = decide (τ.ival 50 > 0) := eqB (e.at 49 _ rfl rfl) rfl
  refine ⟨?_, ?_, ?_, ?_, ?_, ?_, ?_, ?_, ?_, ?_, ?_, ?_, ?_, ?_, ?_⟩
  · rw [e4, e3, n2, sh_gt 6 _ 64 rfl (by decide) (by decide) (by omega)]
  · rw [e6, e5, n2, sh_gt 14 _ 16384 rfl (by decide) (by decide) (by omega)]
  · rw [e8, e7, n2, sh_gt 30 _ 1073741824 rfl (by decide) (by decide) (by omega)]
  · rw [e11, e10, n9, sh_gt 6 _ 64 rfl (by decide) (by decide) (by omega)]
  · rw [e13, e12, n9, sh_gt 14 _ 16384 rfl (by decide) (by decide) (by omega)]
  · rw [e15, e14, n9, sh_gt 30 _ 1073741824 rfl (by decide) (by decide) (by omega)]
  · rw [e25, e24, n23, sh_gt 6 _ 64 rfl (by decide) (by decide) (by omega)]
    exact decide_eq_decide.2 (by omega)
  · rw [e27, e26, n23, sh_gt 14 _ 16384 rfl (by decide) (by decide) (by omega)]
    exact decide_eq_decide.2 (by omega)
  · rw [e29, e28, n23, sh_gt 30 _ 1073741824 rfl (by decide) (by decide) (by omega)]
    exact decide_eq_decide.2 (by omega)
  · rw [e39, e38, n37, sh_gt 6 _ 64 rfl (by decide) (by decide) (by omega)]
    exact decide_eq_decide.2 (by omega)
  · rw [e41, e40, n37, sh_gt 14 _ 16384 rfl (by decide) (by decide) (by omega)]
    exact decide_eq_decide.2 (by omega)
  · rw [e43, e42, n37, sh_gt 30 _ 1073741824 rfl (by decide) (by decide) (by omega)]
    exact decide_eq_decide.2 (by omega)
  · rw [e47, e46, n45, sh_gt 6 _ 64 rfl (by decide) (by decide) (by omega)]
    exact decide_eq_decide.2 (by omega)
  · rw [e49, e48, n45, sh_gt 14 _ 16384 rfl (by decide) (by decide) (by omega)]
    exact decide_eq_decide.2 (by omega)
  · rw [e51, e50, n45, sh_gt 30 _ 1073741824 rfl (by decide) (by decide) (by omega)]
    exact decide_eq_decide.2 (by omega)
set_option maxRecDepth 100000 in
theorem txt69 (τ : Sig) (e : Eqs τ 2 woBG) : (τ.sval 69).toList = be 8 (τ.ival 52) := by
  have e54 : τ.ival 54 = IntKind.u8.wrap (τ.ival 53) := eqI (e.at 52 _ rfl rfl) rfl
  have e53 : τ.ival 53 = ((τ.ival 52 : Int).fdiv (2 ^ (min (56 : Int).toNat IntKind.u64.bits))) := eqI (e.at 51 _ rfl rfl) rfl
  have e56 : τ.ival 56 = IntKind.u8.wrap (τ.ival 55) := eqI (e.at 54 _ rfl rfl) rfl
  have e55 : τ.ival 55 = ((τ.ival 52 : Int).fdiv (2 ^ (min (48 : Int).toNat IntKind.u64.bits))) := eqI (e.at 53 _ rfl rfl) rfl
  have e58 : τ.ival 58 = IntKind.u8.wrap (τ.ival 57) := eqI (e.at 56 _ rfl rfl) rfl
  have e57 : τ.ival 57 = ((τ.ival 52 : Int).fdiv (2 ^ (min (40 : Int).toNat IntKind.u64.bits))) := eqI (e.at 55 _ rfl rfl) rfl
  have e60 : τ.ival 60 = IntKind.u8.wrap (τ.ival 59) := eqI (e.at 58 _ rfl rfl) rfl
  have e59 : τ.ival 59 = ((τ.ival 52 : Int).fdiv (2 ^ (min (32 : Int).toNat IntKind.u64.bits))) := eqI (e.at 57 _ rfl rfl) rfl
  have e62 : τ.ival 62 = IntKind.u8.wrap (τ.ival 61) := eqI (e.at 60 _ rfl rfl) rfl
  have e61 : τ.ival 61 = ((τ.ival 52 : Int).fdiv (2 ^ (min (24 : Int).toNat IntKind.u64.bits))) := eqI (e.at 59 _ rfl rfl) rfl
  have e64 : τ.ival 64 = IntKind.u8.wrap (τ.ival 63) := eqI (e.at 62 _ rfl rfl) rfl
  have e63 : τ.ival 63 = ((τ.ival 52 : Int).fdiv (2 ^ (min (16 : Int).toNat IntKind.u64.bits))) := eqI (e.at 61 _ rfl rfl) rfl
  have e66 : τ.ival 66 = IntKind.u8.wrap (τ.ival 65) := eqI (e.at 64 _ rfl rfl) rfl
  have e65 : τ.ival 65 = ((τ.ival 52 : Int).fdiv (2 ^ (min (8 : Int).toNat IntKind.u64.bits))) := eqI (e.at 63 _ rfl rfl) rfl
  have e68 : τ.ival 68 = IntKind.u8.wrap (τ.ival 67) := eqI (e.at 66 _ rfl rfl) rfl
  have e67 : τ.ival 67 = ((τ.ival 52 : Int).fdiv (2 ^ (min (0 : Int).toNat IntKind.u64.bits))) := eqI (e.at 65 _ rfl rfl) rfl
  have h : τ.sval 69 = ⟨[UInt8.ofNat (τ.ival 54).toNat, UInt8.ofNat (τ.ival 56).toNat, UInt8.ofNat (τ.ival 58).toNat, UInt8.ofNat (τ.ival 60).toNat, UInt8.ofNat (τ.ival 62).toNat, UInt8.ofNat (τ.ival 64).toNat, UInt8.ofNat (τ.ival 66).toNat, UInt8.ofNat (τ.ival 68).toNat].toArray⟩ := (AVal.str.inj (Option.some.inj (e.at 67 _ rfl rfl))).symm
  rw [h, tl, e54, e53, e56, e55, e58, e57, e60, e59, e62, e61, e64, e63, e66, e65, e68, e67]
  rw [byte_at _ 7 7 _ rfl rfl, byte_at _ 6 6 _ rfl rfl, byte_at _ 5 5 _ rfl rfl, byte_at _ 4 4 _ rfl rfl, byte_at _ 3 3 _ rfl rfl, byte_at _ 2 2 _ rfl rfl, byte_at _ 1 1 _ rfl rfl, byte_at _ 0 0 _ rfl rfl]
  rfl
set_option maxRecDepth 100000 in
theorem txt87 (τ : Sig) (e : Eqs τ 2 woBG) : (τ.sval 87).toList = be 8 (τ.ival 70) := by
  have e72 : τ.ival 72 = IntKind.u8.wrap (τ.ival 71) := eqI (e.at 70 _ rfl rfl) rfl
  have e71 : τ.ival 71 = ((τ.ival 70 : Int).fdiv (2 ^ (min (56 : Int).toNat IntKind.u64.bits))) := eqI (e.at 69 _ rfl rfl) rfl
  have e74 : τ.ival 74 = IntKind.u8.wrap (τ.ival 73) := eqI (e.at 72 _ rfl rfl) rfl
  have e73 : τ.ival 73 = ((τ.ival 70 : Int).fdiv (2 ^ (min (48 : Int).toNat IntKind.u64.bits))) := eqI (e.at 71 _ rfl rfl) rfl
  have e76 : τ.ival 76 = IntKind.u8.wrap (τ.ival 75) := eqI (e.at 74 _ rfl rfl) rfl
  have e75 : τ.ival 75 = ((τ.ival 70 : Int).fdiv (2 ^ (min (40 : Int).toNat IntKind.u64.bits))) := eqI (e.at 73 _ rfl rfl) rfl
  have e78 : τ.ival 78 = IntKind.u8.wrap (τ.ival 77) := eqI (e.at 76 _ rfl rfl) rfl
  have e77 : τ.ival 77 = ((τ.ival 70 : Int).fdiv (2 ^ (min (32 : Int).toNat IntKind.u64.bits))) := eqI (e.at 75 _ rfl rfl) rfl
  have e80 : τ.ival 80 = IntKind.u8.wrap (τ.ival 79) := eqI (e.at 78 _ rfl rfl) rfl
  have e79 : τ.ival 79 = ((τ.ival 70 : Int).fdiv (2 ^ (min (24 : Int).toNat IntKind.u64.bits))) := eqI (e.at 77 _ rfl rfl) rfl
  have e82 : τ.ival 82 = IntKind.u8.wrap (τ.ival 81) := eqI (e.at 80 _ rfl rfl) rfl
  have e81 : τ.ival 81 = ((τ.ival 70 : Int).fdiv (2 ^ (min (16 : Int).toNat IntKind.u64.bits))) := eqI (e.at 79 _ rfl rfl) rfl
  have e84 : τ.ival 84 = IntKind.u8.wrap (τ.ival 83) := eqI (e.at 82 _ rfl rfl) rfl
  have e83 : τ.ival 83 = ((τ.ival 70 : Int).fdiv (2 ^ (min (8 : Int).toNat IntKind.u64.bits))) := eqI (e.at 81 _ rfl rfl) rfl
  have e86 : τ.ival 86 = IntKind.u8.wrap (τ.ival 85) := eqI (e.at 84 _ rfl rfl) rfl
  have e85 : τ.ival 85 = ((τ.ival 70 : Int).fdiv (2 ^ (min (0 : Int).toNat IntKind.u64.bits))) := eqI (e.at 83 _ rfl rfl) rfl
  have h : τ.sval 87 = ⟨[UInt8.ofNat (τ.ival 72).toNat, UInt8.ofNat (τ.ival 74).toNat, UInt8.ofNat (τ.ival 76).toNat, UInt8.ofNat (τ.ival 78).toNat, UInt8.ofNat (τ.ival 80).toNat, UInt8.ofNat (τ.ival 82).toNat, UInt8.ofNat (τ.ival 84).toNat, UInt8.ofNat (τ.ival 86).toNat].toArray⟩ := (AVal.str.inj (Option.some.inj (e.at 85 _ rfl rfl))).symm
  rw [h, tl, e72, e71, e74, e73, e76, e75, e78, e77, e80, e79, e82, e81, e84, e83, e86, e85]
  rw [byte_at _ 7 7 _ rfl rfl, byte_at _ 6 6 _ rfl rfl, byte_at _ 5 5 _ rfl rfl, byte_at _ 4 4 _ rfl rfl, byte_at _ 3 3 _ rfl rfl, byte_at _ 2 2 _ rfl rfl, byte_at _ 1 1 _ rfl rfl, byte_at _ 0 0 _ rfl rfl]
  rfl
set_option maxRecDepth 100000 in
theorem txt154 (τ : Sig) (e : Eqs τ 2 woBG) : (τ.sval 154).toList = be 4 (τ.ival 145) := by
  have e147 : τ.ival 147 = IntKind.u8.wrap (τ.ival 146) := eqI (e.at 145 _ rfl rfl) rfl
  have e146 : τ.ival 146 = ((τ.ival 145 : Int).fdiv (2 ^ (min (24 : Int).toNat IntKind.u64.bits))) := eqI (e.at 144 _ rfl rfl) rfl
  have e149 : τ.ival 149 = IntKind.u8.wrap (τ.ival 148) := eqI (e.at 147 _ rfl rfl) rfl
  have e148 : τ.ival 148 = ((τ.ival 145 : Int).fdiv (2 ^ (min (16 : Int).toNat IntKind.u64.bits))) := eqI (e.at 146 _ rfl rfl) rfl
  have e151 : τ.ival 151 = IntKind.u8.wrap (τ.ival 150) := eqI (e.at 149 _ rfl rfl) rfl
  have e150 : τ.ival 150 = ((τ.ival 145 : Int).fdiv (2 ^ (min (8 : Int).toNat IntKind.u64.bits))) := eqI (e.at 148 _ rfl rfl) rfl
  have e153 : τ.ival 153 = IntKind.u8.wrap (τ.ival 152) := eqI (e.at 151 _ rfl rfl) rfl
  have e152 : τ.ival 152 = ((τ.ival 145 : Int).fdiv (2 ^ (min (0 : Int).toNat IntKind.u64.bits))) := eqI (e.at 150 _ rfl rfl) rfl
  have h : τ.sval 154 = ⟨[UInt8.ofNat (τ.ival 147).toNat, UInt8.ofNat (τ.ival 149).toNat, UInt8.ofNat (τ.ival 151).toNat, UInt8.ofNat (τ.ival 153).toNat].toArray⟩ := (AVal.str.inj (Option.some.inj (e.at 152 _ rfl rfl))).symm
  rw [h, tl, e147, e146, e149, e148, e151, e150, e153, e152]
  rw [byte_at _ 3 3 _ rfl rfl, byte_at _ 2 2 _ rfl rfl, byte_at _ 1 1 _ rfl rfl, byte_at _ 0 0 _ rfl rfl]
  rfl
set_option maxRecDepth 100000 in
theorem txt195 (τ : Sig) (e : Eqs τ 2 woBG) : (τ.sval 195).toList = be 4 (τ.ival 186) := by
  have e188 : τ.ival 188 = IntKind.u8.wrap (τ.ival 187) := eqI (e.at 186 _ rfl rfl) rfl
  have e187 : τ.ival 187 = ((τ.ival 186 : Int).fdiv (2 ^ (min (24 : Int).toNat IntKind.u64.bits))) := eqI (e.at 185 _ rfl rfl) rfl
  have e190 : τ.ival 190 = IntKind.u8.wrap (τ.ival 189) := eqI (e.at 188 _ rfl rfl) rfl
  have e189 : τ.ival 189 = ((τ.ival 186 : Int).fdiv (2 ^ (min (16 : Int).toNat IntKind.u64.bits))) := eqI (e.at 187 _ rfl rfl) rfl
  have e192 : τ.ival 192 = IntKind.u8.wrap (τ.ival 191) := eqI (e.at 190 _ rfl rfl) rfl
  have e191 : τ.ival 191 = ((τ.ival 186 : Int).fdiv (2 ^ (min (8 : Int).toNat IntKind.u64.bits))) := eqI (e.at 189 _ rfl rfl) rfl
  have e194 : τ.ival 194 = IntKind.u8.wrap (τ.ival 193) := eqI (e.at 192 _ rfl rfl) rfl
  have e193 : τ.ival 193 = ((τ.ival 186 : Int).fdiv (2 ^ (min (0 : Int).toNat IntKind.u64.bits))) := eqI (e.at 191 _ rfl rfl) rfl
  have h : τ.sval 195 = ⟨[UInt8.ofNat (τ.ival 188).toNat, UInt8.ofNat (τ.ival 190).toNat, UInt8.ofNat (τ.ival 192).toNat, UInt8.ofNat (τ.ival 194).toNat].toArray⟩ := (AVal.str.inj (Option.some.inj (e.at 193 _ rfl rfl))).symm
  rw [h, tl, e188, e187, e190, e189, e192, e191, e194, e193]
  rw [byte_at _ 3 3 _ rfl rfl, byte_at _ 2 2 _ rfl rfl, byte_at _ 1 1 _ rfl rfl, byte_at _ 0 0 _ rfl rfl]
  rfl
set_option maxRecDepth 100000 in
theorem txt205 (τ : Sig) (e : Eqs τ 2 woBG) : (τ.sval 205).toList = be 2 (τ.ival 200) := by
  have e202 : τ.ival 202 = IntKind.u8.wrap (τ.ival 201) := eqI (e.at 200 _ rfl rfl) rfl
  have e201 : τ.ival 201 = ((τ.ival 200 : Int).fdiv (2 ^ (min (8 : Int).toNat IntKind.u64.bits))) := eqI (e.at 199 _ rfl rfl) rfl
  have e204 : τ.ival 204 = IntKind.u8.wrap (τ.ival 203) := eqI (e.at 202 _ rfl rfl) rfl
  have e203 : τ.ival 203 = ((τ.ival 200 : Int).fdiv (2 ^ (min (0 : Int).toNat IntKind.u64.bits))) := eqI (e.at 201 _ rfl rfl) rfl
  have h : τ.sval 205 = ⟨[UInt8.ofNat (τ.ival 202).toNat, UInt8.ofNat (τ.ival 204).toNat].toArray⟩ := (AVal.str.inj (Option.some.inj (e.at 203 _ rfl rfl))).symm
  rw [h, tl, e202, e201, e204, e203]
  rw [byte_at _ 1 1 _ rfl rfl, byte_at _ 0 0 _ rfl rfl]
  rfl
set_option maxRecDepth 100000 in
theorem txt234 (τ : Sig) (e : Eqs τ 2 woBG) : (τ.sval 234).toList = be 2 (τ.ival 229) := by
  have e231 : τ.ival 231 = IntKind.u8.wrap (τ.ival 230) := eqI (e.at 229 _ rfl rfl) rfl
  have e230 : τ.ival 230 = ((τ.ival 229 : Int).fdiv (2 ^ (min (8 : Int).toNat IntKind.u64.bits))) := eqI (e.at 228 _ rfl rfl) rfl
  have e233 : τ.ival 233 = IntKind.u8.wrap (τ.ival 232) := eqI (e.at 231 _ rfl rfl) rfl
  have e232 : τ.ival 232 = ((τ.ival 229 : Int).fdiv (2 ^ (min (0 : Int).toNat IntKind.u64.bits))) := eqI (e.at 230 _ rfl rfl) rfl
  have h : τ.sval 234 = ⟨[UInt8.ofNat (τ.ival 231).toNat, UInt8.ofNat (τ.ival 233).toNat].toArray⟩ := (AVal.str.inj (Option.some.inj (e.at 232 _ rfl rfl))).symm
  rw [h, tl, e231, e230, e233, e232]
  rw [byte_at _ 1 1 _ rfl rfl, byte_at _ 0 0 _ rfl rfl]
  rfl
set_option maxRecDepth 100000 in
theorem txt242 (τ : Sig) (e : Eqs τ 2 woBG) : (τ.sval 242).toList = be 1 (τ.ival 239) := by
  have e241 : τ.ival 241 = IntKind.u8.wrap (τ.ival 240) := eqI (e.at 239 _ rfl rfl) rfl
  have e240 : τ.ival 240 = ((τ.ival 239 : Int).fdiv (2 ^ (min (0 : Int).toNat IntKind.u64.bits))) := eqI (e.at 238 _ rfl rfl) rfl
  have h : τ.sval 242 = ⟨[UInt8.ofNat (τ.ival 241).toNat].toArray⟩ := (AVal.str.inj (Option.some.inj (e.at 240 _ rfl rfl))).symm
  rw [h, tl, e241, e240]
  rw [byte_at _ 0 0 _ rfl rfl]
  rfl
set_option maxRecDepth 100000 in
theorem txt267 (τ : Sig) (e : Eqs τ 2 woBG) : (τ.sval 267).toList = be 1 (τ.ival 264) := by
  have e266 : τ.ival 266 = IntKind.u8.wrap (τ.ival 265) := eqI (e.at 264 _ rfl rfl) rfl
  have e265 : τ.ival 265 = ((τ.ival 264 : Int).fdiv (2 ^ (min (0 : Int).toNat IntKind.u64.bits))) := eqI (e.at 263 _ rfl rfl) rfl
  have h : τ.sval 267 = ⟨[UInt8.ofNat (τ.ival 266).toNat].toArray⟩ := (AVal.str.inj (Option.some.inj (e.at 265 _ rfl rfl))).symm
  rw [h, tl, e266, e265]
  rw [byte_at _ 0 0 _ rfl rfl]
  rfl
set_option maxRecDepth 100000 in
theorem woC00 (τ : Sig) (e : Eqs τ 2 woBG) (h0 : 0 ≤ τ.ival 0) (hab : τ.ival 0 ≤ τ.ival 1) (hb : τ.ival 1 < 4611686018427387904) (l1 : 0 ≤ τ.ival 0) (l2 : τ.ival 0 < 64) (l3 : 0 ≤ τ.ival 1) (l4 : τ.ival 1 < 64) : τ.bval 269 = false ∧ τ.bval 271 = false := by
  obtain ⟨n2, n9, _⟩ := woN τ e h0 hab hb
  have e269 : τ.bval 269 = (τ.bval 88 != τ.bval 268) := eqB (e.at 267 _ rfl rfl) rfl
  have e271 : τ.bval 271 = (τ.bval 91 != τ.bval 270) := eqB (e.at 269 _ rfl rfl) rfl
  have e88 : τ.bval 88 = decide (τ.ival 0 < τ.ival 1) := eqB (e.at 86 _ rfl rfl) rfl
  have e91 : τ.bval 91 = (τ.ival 0 == τ.ival 1) := eqB (e.at 89 _ rfl rfl) rfl
  have e239 : τ.ival 239 = IntKind.u64.wrap (BitVec.ofInt IntKind.u64.bits (τ.ival 2) ||| BitVec.ofInt IntKind.u64.bits (0)).toNat := eqI (e.at 237 _ rfl rfl) rfl
  have e264 : τ.ival 264 = IntKind.u64.wrap (BitVec.ofInt IntKind.u64.bits (τ.ival 9) ||| BitVec.ofInt IntKind.u64.bits (0)).toNat := eqI (e.at 262 _ rfl rfl) rfl
  have lt : τ.bval 268 = Op.bytesLess (τ.sval 242).toList (τ.sval 267).toList := eqB (e.at 266 _ rfl rfl) rfl
  have eq : τ.bval 270 = ((τ.sval 242).toList == (τ.sval 267).toList) := eqB (e.at 268 _ rfl rfl) rfl
  have x1 : τ.ival 239 = τ.ival 0 + 0 := by rw [e239, n2]; exact or_lit 6 0 (by decide) h0 (by show τ.ival 0 < 64; omega) (by decide)
  have x2 : τ.ival 264 = τ.ival 1 + 0 := by rw [e264, n9]; exact or_lit 6 0 (by decide) (by omega) (by show τ.ival 1 < 64; omega) (by decide)
  rw [txt242 τ e, txt267 τ e, x1, x2] at lt eq
  rw [be_lt 1 _ _ (by omega) (by omega)] at lt
  rw [be_eq 1 _ _ (by omega) (by omega)] at eq
  rw [show (256 : Int) ^ 1 = 256 by decide, Int.emod_eq_of_lt (by omega) (by omega), Int.emod_eq_of_lt (by omega) (by omega)] at lt eq
  rw [e269, e271, e88, e91, lt, eq]
  constructor
  · rw [bne_eq_false_iff_eq]
    exact decide_eq_decide.2 (by omega)
  · rw [bne_eq_false_iff_eq, Bool.eq_iff_iff, beq_iff_eq, decide_eq_true_eq]
    omega
set_option maxRecDepth 100000 in
theorem woC01 (τ : Sig) (e : Eqs τ 2 woBG) (h0 : 0 ≤ τ.ival 0) (hab : τ.ival 0 ≤ τ.ival 1) (hb : τ.ival 1 < 4611686018427387904) (l1 : 0 ≤ τ.ival 0) (l2 : τ.ival 0 < 64) (l3 : 64 ≤ τ.ival 1) (l4 : τ.ival 1 < 16384) : τ.bval 261 = false ∧ τ.bval 263 = false := by
  obtain ⟨n2, n9, _⟩ := woN τ e h0 hab hb
  have e261 : τ.bval 261 = (τ.bval 88 != τ.bval 260) := eqB (e.at 259 _ rfl rfl) rfl
  have e263 : τ.bval 263 = (τ.bval 91 != τ.bval 262) := eqB (e.at 261 _ rfl rfl) rfl
  have e88 : τ.bval 88 = decide (τ.ival 0 < τ.ival 1) := eqB (e.at 86 _ rfl rfl) rfl
  have e91 : τ.bval 91 = (τ.ival 0 == τ.ival 1) := eqB (e.at 89 _ rfl rfl) rfl
  have e239 : τ.ival 239 = IntKind.u64.wrap (BitVec.ofInt IntKind.u64.bits (τ.ival 2) ||| BitVec.ofInt IntKind.u64.bits (0)).toNat := eqI (e.at 237 _ rfl rfl) rfl
  have e229 : τ.ival 229 = IntKind.u64.wrap (BitVec.ofInt IntKind.u64.bits (τ.ival 9) ||| BitVec.ofInt IntKind.u64.bits (16384)).toNat := eqI (e.at 227 _ rfl rfl) rfl
  have lt : τ.bval 260 = Op.bytesLess (τ.sval 242).toList (τ.sval 234).toList := eqB (e.at 258 _ rfl rfl) rfl
  have eq : τ.bval 262 = ((τ.sval 242).toList == (τ.sval 234).toList) := eqB (e.at 260 _ rfl rfl) rfl
  have x1 : τ.ival 239 = τ.ival 0 + 0 := by rw [e239, n2]; exact or_lit 6 0 (by decide) h0 (by show τ.ival 0 < 64; omega) (by decide)
  have x2 : τ.ival 229 = τ.ival 1 + 16384 := by rw [e229, n9]; exact or_lit 14 1 (by decide) (by omega) (by show τ.ival 1 < 16384; omega) (by decide)
  rw [txt242 τ e, txt234 τ e, x1, x2] at lt eq
  obtain ⟨g1, g2⟩ := be_head 0 1 (τ.ival 0 + 0) (τ.ival 1 + 16384) (by rw [show (256 : Int) ^ 0 = 1 by decide]; omega) (by rw [show (256 : Int) ^ 0 = 1 by decide, show (256 : Int) ^ 1 = 256 by decide]; omega) (by rw [show (256 : Int) ^ 1 = 256 by decide]; omega)
  rw [g1] at lt
  rw [g2] at eq
  rw [e261, e263, e88, e91, lt, eq]
  constructor
  · rw [bne_eq_false_iff_eq, decide_eq_true_eq]
    omega
  · rw [bne_eq_false_iff_eq, beq_eq_false_iff_ne]
    omega
set_option maxRecDepth 100000 in
theorem woC02 (τ : Sig) (e : Eqs τ 2 woBG) (h0 : 0 ≤ τ.ival 0) (hab : τ.ival 0 ≤ τ.ival 1) (hb : τ.ival 1 < 4611686018427387904) (l1 : 0 ≤ τ.ival 0) (l2 : τ.ival 0 < 64) (l3 : 16384 ≤ τ.ival 1) (l4 : τ.ival 1 < 1073741824) : τ.bval 257 = false ∧ τ.bval 259 = false := by
  obtain ⟨n2, n9, _⟩ := woN τ e h0 hab hb
  have e257 : τ.bval 257 = (τ.bval 88 != τ.bval 256) := eqB (e.at 255 _ rfl rfl) rfl
  have e259 : τ.bval 259 = (τ.bval 91 != τ.bval 258) := eqB (e.at 257 _ rfl rfl) rfl
  have e88 : τ.bval 88 = decide (τ.ival 0 < τ.ival 1) := eqB (e.at 86 _ rfl rfl) rfl
  have e91 : τ.bval 91 = (τ.ival 0 == τ.ival 1) := eqB (e.at 89 _ rfl rfl) rfl
  have e239 : τ.ival 239 = IntKind.u64.wrap (BitVec.ofInt IntKind.u64.bits (τ.ival 2) ||| BitVec.ofInt IntKind.u64.bits (0)).toNat := eqI (e.at 237 _ rfl rfl) rfl
  have e186 : τ.ival 186 = IntKind.u64.wrap (BitVec.ofInt IntKind.u64.bits (τ.ival 9) ||| BitVec.ofInt IntKind.u64.bits (2147483648)).toNat := eqI (e.at 184 _ rfl rfl) rfl
  have lt : τ.bval 256 = Op.bytesLess (τ.sval 242).toList (τ.sval 195).toList := eqB (e.at 254 _ rfl rfl) rfl
  have eq : τ.bval 258 = ((τ.sval 242).toList == (τ.sval 195).toList) := eqB (e.at 256 _ rfl rfl) rfl
  have x1 : τ.ival 239 = τ.ival 0 + 0 := by rw [e239, n2]; exact or_lit 6 0 (by decide) h0 (by show τ.ival 0 < 64; omega) (by decide)
  have x2 : τ.ival 186 = τ.ival 1 + 2147483648 := by rw [e186, n9]; exact or_lit 30 2 (by decide) (by omega) (by show τ.ival 1 < 1073741824; omega) (by decide)
  rw [txt242 τ e, txt195 τ e, x1, x2] at lt eq
  obtain ⟨g1, g2⟩ := be_head 0 3 (τ.ival 0 + 0) (τ.ival 1 + 2147483648) (by rw [show (256 : Int) ^ 0 = 1 by decide]; omega) (by rw [show (256 : Int) ^ 0 = 1 by decide, show (256 : Int) ^ 3 = 16777216 by decide]; omega) (by rw [show (256 : Int) ^ 3 = 16777216 by decide]; omega)
  rw [g1] at lt
  rw [g2] at eq
  rw [e257, e259, e88, e91, lt, eq]
  constructor
  · rw [bne_eq_false_iff_eq, decide_eq_true_eq]
    omega
  · rw [bne_eq_false_iff_eq, beq_eq_false_iff_ne]
    omega
set_option maxRecDepth 100000 in
theorem woC03 (τ : Sig) (e : Eqs τ 2 woBG) (h0 : 0 ≤ τ.ival 0) (hab : τ.ival 0 ≤ τ.ival 1) (hb : τ.ival 1 < 4611686018427387904) (l1 : 0 ≤ τ.ival 0) (l2 : τ.ival 0 < 64) (l3 : 1073741824 ≤ τ.ival 1) (l4 : τ.ival 1 < 4611686018427387904) : τ.bval 244 = false ∧ τ.bval 246 = false := by
  obtain ⟨n2, n9, _⟩ := woN τ e h0 hab hb
  have e244 : τ.bval 244 = (τ.bval 88 != τ.bval 243) := eqB (e.at 242 _ rfl rfl) rfl
  have e246 : τ.bval 246 = (τ.bval 91 != τ.bval 245) := eqB (e.at 244 _ rfl rfl) rfl
  have e88 : τ.bval 88 = decide (τ.ival 0 < τ.ival 1) := eqB (e.at 86 _ rfl rfl) rfl
  have e91 : τ.bval 91 = (τ.ival 0 == τ.ival 1) := eqB (e.at 89 _ rfl rfl) rfl
  have e239 : τ.ival 239 = IntKind.u64.wrap (BitVec.ofInt IntKind.u64.bits (τ.ival 2) ||| BitVec.ofInt IntKind.u64.bits (0)).toNat := eqI (e.at 237 _ rfl rfl) rfl
  have e70 : τ.ival 70 = IntKind.u64.wrap (BitVec.ofInt IntKind.u64.bits (τ.ival 9) ||| BitVec.ofInt IntKind.u64.bits (13835058055282163712)).toNat := eqI (e.at 68 _ rfl rfl) rfl
  have lt : τ.bval 243 = Op.bytesLess (τ.sval 242).toList (τ.sval 87).toList := eqB (e.at 241 _ rfl rfl) rfl
  have eq : τ.bval 245 = ((τ.sval 242).toList == (τ.sval 87).toList) := eqB (e.at 243 _ rfl rfl) rfl
  have x1 : τ.ival 239 = τ.ival 0 + 0 := by rw [e239, n2]; exact or_lit 6 0 (by decide) h0 (by show τ.ival 0 < 64; omega) (by decide)
  have x2 : τ.ival 70 = τ.ival 1 + 13835058055282163712 := by rw [e70, n9]; exact or_lit 62 3 (by decide) (by omega) (by show τ.ival 1 < 4611686018427387904; omega) (by decide)
  rw [txt242 τ e, txt87 τ e, x1, x2] at lt eq
  obtain ⟨g1, g2⟩ := be_head 0 7 (τ.ival 0 + 0) (τ.ival 1 + 13835058055282163712) (by rw [show (256 : Int) ^ 0 = 1 by decide]; omega) (by rw [show (256 : Int) ^ 0 = 1 by decide, show (256 : Int) ^ 7 = 72057594037927936 by decide]; omega) (by rw [show (256 : Int) ^ 7 = 72057594037927936 by decide]; omega)
  rw [g1] at lt
  rw [g2] at eq
  rw [e244, e246, e88, e91, lt, eq]
  constructor
  · rw [bne_eq_false_iff_eq, decide_eq_true_eq]
    omega
  · rw [bne_eq_false_iff_eq, beq_eq_false_iff_ne]
    omega
set_option maxRecDepth 100000 in
theorem woC11 (τ : Sig) (e : Eqs τ 2 woBG) (h0 : 0 ≤ τ.ival 0) (hab : τ.ival 0 ≤ τ.ival 1) (hb : τ.ival 1 < 4611686018427387904) (l1 : 64 ≤ τ.ival 0) (l2 : τ.ival 0 < 16384) (l3 : 64 ≤ τ.ival 1) (l4 : τ.ival 1 < 16384) : τ.bval 236 = false ∧ τ.bval 238 = false := by
  obtain ⟨n2, n9, _⟩ := woN τ e h0 hab hb
  have e236 : τ.bval 236 = (τ.bval 88 != τ.bval 235) := eqB (e.at 234 _ rfl rfl) rfl
  have e238 : τ.bval 238 = (τ.bval 91 != τ.bval 237) := eqB (e.at 236 _ rfl rfl) rfl
  have e88 : τ.bval 88 = decide (τ.ival 0 < τ.ival 1) := eqB (e.at 86 _ rfl rfl) rfl
  have e91 : τ.bval 91 = (τ.ival 0 == τ.ival 1) := eqB (e.at 89 _ rfl rfl) rfl
  have e200 : τ.ival 200 = IntKind.u64.wrap (BitVec.ofInt IntKind.u64.bits (τ.ival 2) ||| BitVec.ofInt IntKind.u64.bits (16384)).toNat := eqI (e.at 198 _ rfl rfl) rfl
  have e229 : τ.ival 229 = IntKind.u64.wrap (BitVec.ofInt IntKind.u64.bits (τ.ival 9) ||| BitVec.ofInt IntKind.u64.bits (16384)).toNat := eqI (e.at 227 _ rfl rfl) rfl
  have lt : τ.bval 235 = Op.bytesLess (τ.sval 205).toList (τ.sval 234).toList := eqB (e.at 233 _ rfl rfl) rfl
  have eq : τ.bval 237 = ((τ.sval 205).toList == (τ.sval 234).toList) := eqB (e.at 235 _ rfl rfl) rfl
  have x1 : τ.ival 200 = τ.ival 0 + 16384 := by rw [e200, n2]; exact or_lit 14 1 (by decide) h0 (by show τ.ival 0 < 16384; omega) (by decide)
  have x2 : τ.ival 229 = τ.ival 1 + 16384 := by rw [e229, n9]; exact or_lit 14 1 (by decide) (by omega) (by show τ.ival 1 < 16384; omega) (by decide)
  rw [txt205 τ e, txt234 τ e, x1, x2] at lt eq
  rw [be_lt 2 _ _ (by omega) (by omega)] at lt
  rw [be_eq 2 _ _ (by omega) (by omega)] at eq
  rw [show (256 : Int) ^ 2 = 65536 by decide, Int.emod_eq_of_lt (by omega) (by omega), Int.emod_eq_of_lt (by omega) (by omega)] at lt eq
  rw [e236, e238, e88, e91, lt, eq]
  constructor
  · rw [bne_eq_false_iff_eq]
    exact decide_eq_decide.2 (by omega)
  · rw [bne_eq_false_iff_eq, Bool.eq_iff_iff, beq_iff_eq, decide_eq_true_eq]
    omega
set_option maxRecDepth 100000 in
theorem woC12 (τ : Sig) (e : Eqs τ 2 woBG) (h0 : 0 ≤ τ.ival 0) (hab : τ.ival 0 ≤ τ.ival 1) (hb : τ.ival 1 < 4611686018427387904) (l1 : 64 ≤ τ.ival 0) (l2 : τ.ival 0 < 16384) (l3 : 16384 ≤ τ.ival 1) (l4 : τ.ival 1 < 1073741824) : τ.bval 226 = false ∧ τ.bval 228 = false := by
  obtain ⟨n2, n9, _⟩ := woN τ e h0 hab hb
  have e226 : τ.bval 226 = (τ.bval 88 != τ.bval 225) := eqB (e.at 224 _ rfl rfl) rfl
  have e228 : τ.bval 228 = (τ.bval 91 != τ.bval 227) := eqB (e.at 226 _ rfl rfl) rfl
  have e88 : τ.bval 88 = decide (τ.ival 0 < τ.ival 1) := eqB (e.at 86 _ rfl rfl) rfl
  have e91 : τ.bval 91 = (τ.ival 0 == τ.ival 1) := eqB (e.at 89 _ rfl rfl) rfl
  have e200 : τ.ival 200 = IntKind.u64.wrap (BitVec.ofInt IntKind.u64.bits (τ.ival 2) ||| BitVec.ofInt IntKind.u64.bits (16384)).toNat := eqI (e.at 198 _ rfl rfl) rfl
  have e186 : τ.ival 186 = IntKind.u64.wrap (BitVec.ofInt IntKind.u64.bits (τ.ival 9) ||| BitVec.ofInt IntKind.u64.bits (2147483648)).toNat := eqI (e.at 184 _ rfl rfl) rfl
  have lt : τ.bval 225 = Op.bytesLess (τ.sval 205).toList (τ.sval 195).toList := eqB (e.at 223 _ rfl rfl) rfl
  have eq : τ.bval 227 = ((τ.sval 205).toList == (τ.sval 195).toList) := eqB (e.at 225 _ rfl rfl) rfl
  have x1 : τ.ival 200 = τ.ival 0 + 16384 := by rw [e200, n2]; exact or_lit 14 1 (by decide) h0 (by show τ.ival 0 < 16384; omega) (by decide)
  have x2 : τ.ival 186 = τ.ival 1 + 2147483648 := by rw [e186, n9]; exact or_lit 30 2 (by decide) (by omega) (by show τ.ival 1 < 1073741824; omega) (by decide)
  rw [txt205 τ e, txt195 τ e, x1, x2] at lt eq
  obtain ⟨g1, g2⟩ := be_head 1 3 (τ.ival 0 + 16384) (τ.ival 1 + 2147483648) (by rw [show (256 : Int) ^ 1 = 256 by decide]; omega) (by rw [show (256 : Int) ^ 1 = 256 by decide, show (256 : Int) ^ 3 = 16777216 by decide]; omega) (by rw [show (256 : Int) ^ 3 = 16777216 by decide]; omega)
  rw [g1] at lt
  rw [g2] at eq
  rw [e226, e228, e88, e91, lt, eq]
  constructor
  · rw [bne_eq_false_iff_eq, decide_eq_true_eq]
    omega
  · rw [bne_eq_false_iff_eq, beq_eq_false_iff_ne]
    omega
set_option maxRecDepth 100000 in
theorem woC13 (τ : Sig) (e : Eqs τ 2 woBG) (h0 : 0 ≤ τ.ival 0) (hab : τ.ival 0 ≤ τ.ival 1) (hb : τ.ival 1 < 4611686018427387904) (l1 : 64 ≤ τ.ival 0) (l2 : τ.ival 0 < 16384) (l3 : 1073741824 ≤ τ.ival 1) (l4 : τ.ival 1 < 4611686018427387904) : τ.bval 207 = false ∧ τ.bval 209 = false := by
  obtain ⟨n2, n9, _⟩ := woN τ e h0 hab hb
  have e207 : τ.bval 207 = (τ.bval 88 != τ.bval 206) := eqB (e.at 205 _ rfl rfl) rfl
  have e209 : τ.bval 209 = (τ.bval 91 != τ.bval 208) := eqB (e.at 207 _ rfl rfl) rfl
  have e88 : τ.bval 88 = decide (τ.ival 0 < τ.ival 1) := eqB (e.at 86 _ rfl rfl) rfl
  have e91 : τ.bval 91 = (τ.ival 0 == τ.ival 1) := eqB (e.at 89 _ rfl rfl) rfl
  have e200 : τ.ival 200 = IntKind.u64.wrap (BitVec.ofInt IntKind.u64.bits (τ.ival 2) ||| BitVec.ofInt IntKind.u64.bits (16384)).toNat := eqI (e.at 198 _ rfl rfl) rfl
  have e70 : τ.ival 70 = IntKind.u64.wrap (BitVec.ofInt IntKind.u64.bits (τ.ival 9) ||| BitVec.ofInt IntKind.u64.bits (13835058055282163712)).toNat := eqI (e.at 68 _ rfl rfl) rfl
  have lt : τ.bval 206 = Op.bytesLess (τ.sval 205).toList (τ.sval 87).toList := eqB (e.at 204 _ rfl rfl) rfl
  have eq : τ.bval 208 = ((τ.sval 205).toList == (τ.sval 87).toList) := eqB (e.at 206 _ rfl rfl) rfl
  have x1 : τ.ival 200 = τ.ival 0 + 16384 := by rw [e200, n2]; exact or_lit 14 1 (by decide) h0 (by show τ.ival 0 < 16384; omega) (by decide)
  have x2 : τ.ival 70 = τ.ival 1 + 13835058055282163712 := by rw [e70, n9]; exact or_lit 62 3 (by decide) (by omega) (by show τ.ival 1 < 4611686018427387904; omega) (by decide)
  rw [txt205 τ e, txt87 τ e, x1, x2] at lt eq
  obtain ⟨g1, g2⟩ := be_head 1 7 (τ.ival 0 + 16384) (τ.ival 1 + 13835058055282163712) (by rw [show (256 : Int) ^ 1 = 256 by decide]; omega) (by rw [show (256 : Int) ^ 1 = 256 by decide, show (256 : Int) ^ 7 = 72057594037927936 by decide]; omega) (by rw [show (256 : Int) ^ 7 = 72057594037927936 by decide]; omega)
  rw [g1] at lt
  rw [g2] at eq
  rw [e207, e209, e88, e91, lt, eq]
  constructor
  · rw [bne_eq_false_iff_eq, decide_eq_true_eq]
    omega
  · rw [bne_eq_false_iff_eq, beq_eq_false_iff_ne]
    omega
set_option maxRecDepth 100000 in
theorem woC22 (τ : Sig) (e : Eqs τ 2 woBG) (h0 : 0 ≤ τ.ival 0) (hab : τ.ival 0 ≤ τ.ival 1) (hb : τ.ival 1 < 4611686018427387904) (l1 : 16384 ≤ τ.ival 0) (l2 : τ.ival 0 < 1073741824) (l3 : 16384 ≤ τ.ival 1) (l4 : τ.ival 1 < 1073741824) : τ.bval 197 = false ∧ τ.bval 199 = false := by
  obtain ⟨n2, n9, _⟩ := woN τ e h0 hab hb
  have e197 : τ.bval 197 = (τ.bval 88 != τ.bval 196) := eqB (e.at 195 _ rfl rfl) rfl
  have e199 : τ.bval 199 = (τ.bval 91 != τ.bval 198) := eqB (e.at 197 _ rfl rfl) rfl
  have e88 : τ.bval 88 = decide (τ.ival 0 < τ.ival 1) := eqB (e.at 86 _ rfl rfl) rfl
  have e91 : τ.bval 91 = (τ.ival 0 == τ.ival 1) := eqB (e.at 89 _ rfl rfl) rfl
  have e145 : τ.ival 145 = IntKind.u64.wrap (BitVec.ofInt IntKind.u64.bits (τ.ival 2) ||| BitVec.ofInt IntKind.u64.bits (2147483648)).toNat := eqI (e.at 143 _ rfl rfl) rfl
  have e186 : τ.ival 186 = IntKind.u64.wrap (BitVec.ofInt IntKind.u64.bits (τ.ival 9) ||| BitVec.ofInt IntKind.u64.bits (2147483648)).toNat := eqI (e.at 184 _ rfl rfl) rfl
  have lt : τ.bval 196 = Op.bytesLess (τ.sval 154).toList (τ.sval 195).toList := eqB (e.at 194 _ rfl rfl) rfl
  have eq : τ.bval 198 = ((τ.sval 154).toList == (τ.sval 195).toList) := eqB (e.at 196 _ rfl rfl) rfl
  have x1 : τ.ival 145 = τ.ival 0 + 2147483648 := by rw [e145, n2]; exact or_lit 30 2 (by decide) h0 (by show τ.ival 0 < 1073741824; omega) (by decide)
  have x2 : τ.ival 186 = τ.ival 1 + 2147483648 := by rw [e186, n9]; exact or_lit 30 2 (by decide) (by omega) (by show τ.ival 1 < 1073741824; omega) (by decide)
  rw [txt154 τ e, txt195 τ e, x1, x2] at lt eq
  rw [be_lt 4 _ _ (by omega) (by omega)] at lt
  rw [be_eq 4 _ _ (by omega) (by omega)] at eq
  rw [show (256 : Int) ^ 4 = 4294967296 by decide, Int.emod_eq_of_lt (by omega) (by omega), Int.emod_eq_of_lt (by omega) (by omega)] at lt eq
  rw [e197, e199, e88, e91, lt, eq]
  constructor
  · rw [bne_eq_false_iff_eq]
    exact decide_eq_decide.2 (by omega)
  · rw [bne_eq_false_iff_eq, Bool.eq_iff_iff, beq_iff_eq, decide_eq_true_eq]
    omega
set_option maxRecDepth 100000 in
theorem woC23 (τ : Sig) (e : Eqs τ 2 woBG) (h0 : 0 ≤ τ.ival 0) (hab : τ.ival 0 ≤ τ.ival 1) (hb : τ.ival 1 < 4611686018427387904) (l1 : 16384 ≤ τ.ival 0) (l2 : τ.ival 0 < 1073741824) (l3 : 1073741824 ≤ τ.ival 1) (l4 : τ.ival 1 < 4611686018427387904) : τ.bval 156 = false ∧ τ.bval 158 = false := by
  obtain ⟨n2, n9, _⟩ := woN τ e h0 hab hb
  have e156 : τ.bval 156 = (τ.bval 88 != τ.bval 155) := eqB (e.at 154 _ rfl rfl) rfl
  have e158 : τ.bval 158 = (τ.bval 91 != τ.bval 157) := eqB (e.at 156 _ rfl rfl) rfl
  have e88 : τ.bval 88 = decide (τ.ival 0 < τ.ival 1) := eqB (e.at 86 _ rfl rfl) rfl
  have e91 : τ.bval 91 = (τ.ival 0 == τ.ival 1) := eqB (e.at 89 _ rfl rfl) rfl
  have e145 : τ.ival 145 = IntKind.u64.wrap (BitVec.ofInt IntKind.u64.bits (τ.ival 2) ||| BitVec.ofInt IntKind.u64.bits (2147483648)).toNat := eqI (e.at 143 _ rfl rfl) rfl
  have e70 : τ.ival 70 = IntKind.u64.wrap (BitVec.ofInt IntKind.u64.bits (τ.ival 9) ||| BitVec.ofInt IntKind.u64.bits (13835058055282163712)).toNat := eqI (e.at 68 _ rfl rfl) rfl
  have lt : τ.bval 155 = Op.bytesLess (τ.sval 154).toList (τ.sval 87).toList := eqB (e.at 153 _ rfl rfl) rfl
  have eq : τ.bval 157 = ((τ.sval 154).toList == (τ.sval 87).toList) := eqB (e.at 155 _ rfl rfl) rfl
  have x1 : τ.ival 145 = τ.ival 0 + 2147483648 := by rw [e145, n2]; exact or_lit 30 2 (by decide) h0 (by show τ.ival 0 < 1073741824; omega) (by decide)
  have x2 : τ.ival 70 = τ.ival 1 + 13835058055282163712 := by rw [e70, n9]; exact or_lit 62 3 (by decide) (by omega) (by show τ.ival 1 < 4611686018427387904; omega) (by decide)
  rw [txt154 τ e, txt87 τ e, x1, x2] at lt eq
  obtain ⟨g1, g2⟩ := be_head 3 7 (τ.ival 0 + 2147483648) (τ.ival 1 + 13835058055282163712) (by rw [show (256 : Int) ^ 3 = 16777216 by decide]; omega) (by rw [show (256 : Int) ^ 3 = 16777216 by decide, show (256 : Int) ^ 7 = 72057594037927936 by decide]; omega) (by rw [show (256 : Int) ^ 7 = 72057594037927936 by decide]; omega)
  rw [g1] at lt
  rw [g2] at eq
  rw [e156, e158, e88, e91, lt, eq]
  constructor
  · rw [bne_eq_false_iff_eq, decide_eq_true_eq]
    omega
  · rw [bne_eq_false_iff_eq, beq_eq_false_iff_ne]
    omega
set_option maxRecDepth 100000 in
theorem woC33 (τ : Sig) (e : Eqs τ 2 woBG) (h0 : 0 ≤ τ.ival 0) (hab : τ.ival 0 ≤ τ.ival 1) (hb : τ.ival 1 < 4611686018427387904) (l1 : 1073741824 ≤ τ.ival 0) (l2 : τ.ival 0 < 4611686018427387904) (l3 : 1073741824 ≤ τ.ival 1) (l4 : τ.ival 1 < 4611686018427387904) : τ.bval 90 = false ∧ τ.bval 93 = false := by
  obtain ⟨n2, n9, _⟩ := woN τ e h0 hab hb
  have e90 : τ.bval 90 = (τ.bval 88 != τ.bval 89) := eqB (e.at 88 _ rfl rfl) rfl
  have e93 : τ.bval 93 = (τ.bval 91 != τ.bval 92) := eqB (e.at 91 _ rfl rfl) rfl
  have e88 : τ.bval 88 = decide (τ.ival 0 < τ.ival 1) := eqB (e.at 86 _ rfl rfl) rfl
  have e91 : τ.bval 91 = (τ.ival 0 == τ.ival 1) := eqB (e.at 89 _ rfl rfl) rfl
  have e52 : τ.ival 52 = IntKind.u64.wrap (BitVec.ofInt IntKind.u64.bits (τ.ival 2) ||| BitVec.ofInt IntKind.u64.bits (13835058055282163712)).toNat := eqI (e.at 50 _ rfl rfl) rfl
  have e70 : τ.ival 70 = IntKind.u64.wrap (BitVec.ofInt IntKind.u64.bits (τ.ival 9) ||| BitVec.ofInt IntKind.u64.bits (13835058055282163712)).toNat := eqI (e.at 68 _ rfl rfl) rfl
  have lt : τ.bval 89 = Op.bytesLess (τ.sval 69).toList (τ.sval 87).toList := eqB (e.at 87 _ rfl rfl) rfl
  have eq : τ.bval 92 = ((τ.sval 69).toList == (τ.sval 87).toList) := eqB (e.at 90 _ rfl rfl) rfl
  have x1 : τ.ival 52 = τ.ival 0 + 13835058055282163712 := by rw [e52, n2]; exact or_lit 62 3 (by decide) h0 (by show τ.ival 0 < 4611686018427387904; omega) (by decide)
  have x2 : τ.ival 70 = τ.ival 1 + 13835058055282163712 := by rw [e70, n9]; exact or_lit 62 3 (by decide) (by omega) (by show τ.ival 1 < 4611686018427387904; omega) (by decide)
  rw [txt69 τ e, txt87 τ e, x1, x2] at lt eq
  rw [be_lt 8 _ _ (by omega) (by omega)] at lt
  rw [be_eq 8 _ _ (by omega) (by omega)] at eq
  rw [show (256 : Int) ^ 8 = 18446744073709551616 by decide, Int.emod_eq_of_lt (by omega) (by omega), Int.emod_eq_of_lt (by omega) (by omega)] at lt eq
  rw [e90, e93, e88, e91, lt, eq]
  constructor
  · rw [bne_eq_false_iff_eq]
    exact decide_eq_decide.2 (by omega)
  · rw [bne_eq_false_iff_eq, Bool.eq_iff_iff, beq_iff_eq, decide_eq_true_eq]
    omega

set_option maxRecDepth 100000 in
theorem woB_ob {W0 : World} (τ : Sig) (e : Eqs τ 2 woBG) (h0 : 0 ≤ τ.ival 0) (hab : τ.ival 0 ≤ τ.ival 1) (hb : τ.ival 1 < 4611686018427387904) : segsW τ (EndZ noTab 72 W0 (bodyPost Tryd.prog Tryd.f3 (fun e W' => e = .returned (.bool true) ∧ Below W0.heap.size W0 W'))) woBW [] := by
  obtain ⟨q4, q6, q8, q11, q13, q15, q25, q27, q29, q39, q41, q43, q47, q49, q51⟩ := woT τ e h0 hab hb
  have lf : EndZ noTab 72 W0 (bodyPost Tryd.prog Tryd.f3 (fun e W' => e = .returned (.bool true) ∧ Below W0.heap.size W0 W')) .ret woSE (asgS τ ([] ++ [])) := fun x a w hx hA => at_end (r := 4) rfl hA (by simp [woSE]) (.inl hx)
  refine ⟨⟨⟨⟨⟨⟨⟨⟨⟨⟨⟨⟨⟨⟨⟨⟨(fun hF => by have h1 : τ.bval 90 = true := hF.1; simp only [Holds, Fact.holds, q4, q6, q8, q11, q13, q15, q25, q27, q29, q39, q41, q43, q47, q49, q51, decide_eq_true_eq, decide_eq_false_iff_not] at hF; have := (woC33 τ e h0 hab hb (by omega) (by omega) (by omega) (by omega)).1; rw [this] at h1; cases h1), ⟨(fun hF => by have h1 : τ.bval 93 = true := hF.1; simp only [Holds, Fact.holds, q4, q6, q8, q11, q13, q15, q25, q27, q29, q39, q41, q43, q47, q49, q51, decide_eq_true_eq, decide_eq_false_iff_not] at hF; have := (woC33 τ e h0 hab hb (by omega) (by omega) (by omega) (by omega)).2; rw [this] at h1; cases h1), (fun hF => lf)⟩⟩, ?_⟩, ?_⟩, ?_⟩, ?_⟩, ?_⟩, ?_⟩, ?_⟩, ?_⟩, ?_⟩, ?_⟩, ?_⟩, ?_⟩, ⟨⟨⟨⟨⟨⟨?_, ⟨⟨⟨?_, ⟨⟨⟨?_, ⟨(fun hF => by have h1 : τ.bval 156 = true := hF.1; simp only [Holds, Fact.holds, q4, q6, q8, q11, q13, q15, q25, q27, q29, q39, q41, q43, q47, q49, q51, decide_eq_true_eq, decide_eq_false_iff_not] at hF; have := (woC23 τ e h0 hab hb (by omega) (by omega) (by omega) (by omega)).1; rw [this] at h1; cases h1), ⟨(fun hF => by have h1 : τ.bval 158 = true := hF.1; simp only [Holds, Fact.holds, q4, q6, q8, q11, q13, q15, q25, q27, q29, q39, q41, q43, q47, q49, q51, decide_eq_true_eq, decide_eq_false_iff_not] at hF; have := (woC23 τ e h0 hab hb (by omega) (by omega) (by omega) (by omega)).2; rw [this] at h1; cases h1), (fun hF => lf)⟩⟩⟩, ?_⟩, ?_⟩⟩, ?_⟩, ?_⟩⟩, ?_⟩, ?_⟩, ⟨⟨⟨?_, ⟨⟨⟨?_, ⟨⟨⟨?_, ⟨(fun hF => by have h1 : τ.bval 197 = true := hF.1; simp only [Holds, Fact.holds, q4, q6, q8, q11, q13, q15, q25, q27, q29, q39, q41, q43, q47, q49, q51, decide_eq_true_eq, decide_eq_false_iff_not] at hF; have := (woC22 τ e h0 hab hb (by omega) (by omega) (by omega) (by omega)).1; rw [this] at h1; cases h1), ⟨(fun hF => by have h1 : τ.bval 199 = true := hF.1; simp only [Holds, Fact.holds, q4, q6, q8, q11, q13, q15, q25, q27, q29, q39, q41, q43, q47, q49, q51, decide_eq_true_eq, decide_eq_false_iff_not] at hF; have := (woC22 τ e h0 hab hb (by omega) (by omega) (by omega) (by omega)).2; rw [this] at h1; cases h1), (fun hF => lf)⟩⟩⟩, ?_⟩, ?_⟩⟩, ?_⟩, ?_⟩⟩, ?_⟩, ?_⟩⟩, ?_⟩, ?_⟩⟩, ⟨?_, ⟨⟨⟨⟨⟨?_, ⟨?_, ⟨⟨?_, ⟨?_, ⟨⟨?_, ⟨?_, ⟨(fun hF => by have h1 : τ.bval 207 = true := hF.1; simp only [Holds, Fact.holds, q4, q6, q8, q11, q13, q15, q25, q27, q29, q39, q41, q43, q47, q49, q51, decide_eq_true_eq, decide_eq_false_iff_not] at hF; have := (woC13 τ e h0 hab hb (by omega) (by omega) (by omega) (by omega)).1; rw [this] at h1; cases h1), ⟨(fun hF => by have h1 : τ.bval 209 = true := hF.1; simp only [Holds, Fact.holds, q4, q6, q8, q11, q13, q15, q25, q27, q29, q39, q41, q43, q47, q49, q51, decide_eq_true_eq, decide_eq_false_iff_not] at hF; have := (woC13 τ e h0 hab hb (by omega) (by omega) (by omega) (by omega)).2; rw [this] at h1; cases h1), (fun hF => lf)⟩⟩⟩⟩, ?_⟩⟩⟩, ?_⟩⟩⟩, ?_⟩, ⟨⟨?_, ⟨?_, ⟨⟨?_, ⟨?_, ⟨⟨?_, ⟨?_, ⟨(fun hF => by have h1 : τ.bval 226 = true := hF.1; simp only [Holds, Fact.holds, q4, q6, q8, q11, q13, q15, q25, q27, q29, q39, q41, q43, q47, q49, q51, decide_eq_true_eq, decide_eq_false_iff_not] at hF; have := (woC12 τ e h0 hab hb (by omega) (by omega) (by omega) (by omega)).1; rw [this] at h1; cases h1), ⟨(fun hF => by have h1 : τ.bval 228 = true := hF.1; simp only [Holds, Fact.holds, q4, q6, q8, q11, q13, q15, q25, q27, q29, q39, q41, q43, q47, q49, q51, decide_eq_true_eq, decide_eq_false_iff_not] at hF; have := (woC12 τ e h0 hab hb (by omega) (by omega) (by omega) (by omega)).2; rw [this] at h1; cases h1), (fun hF => lf)⟩⟩⟩⟩, ?_⟩⟩⟩, ?_⟩⟩⟩, ?_⟩⟩, ⟨?_, ⟨⟨?_, ⟨?_, ⟨⟨?_, ⟨?_, ⟨⟨?_, ⟨?_, ⟨(fun hF => by have h1 : τ.bval 236 = true := hF.1; simp only [Holds, Fact.holds, q4, q6, q8, q11, q13, q15, q25, q27, q29, q39, q41, q43, q47, q49, q51, decide_eq_true_eq, decide_eq_false_iff_not] at hF; have := (woC11 τ e h0 hab hb (by omega) (by omega) (by omega) (by omega)).1; rw [this] at h1; cases h1), ⟨(fun hF => by have h1 : τ.bval 238 = true := hF.1; simp only [Holds, Fact.holds, q4, q6, q8, q11, q13, q15, q25, q27, q29, q39, q41, q43, q47, q49, q51, decide_eq_true_eq, decide_eq_false_iff_not] at hF; have := (woC11 τ e h0 hab hb (by omega) (by omega) (by omega) (by omega)).2; rw [this] at h1; cases h1), (fun hF => lf)⟩⟩⟩⟩, ?_⟩⟩⟩, ?_⟩⟩⟩, ?_⟩⟩⟩, ?_⟩⟩⟩, ⟨?_, ⟨?_, ⟨⟨⟨⟨?_, ⟨?_, ⟨?_, ⟨?_, ⟨?_, ⟨?_, ⟨?_, ⟨?_, ⟨?_, ⟨(fun hF => by have h1 : τ.bval 244 = true := hF.1; simp only [Holds, Fact.holds, q4, q6, q8, q11, q13, q15, q25, q27, q29, q39, q41, q43, q47, q49, q51, decide_eq_true_eq, decide_eq_false_iff_not] at hF; have := (woC03 τ e h0 hab hb (by omega) (by omega) (by omega) (by omega)).1; rw [this] at h1; cases h1), ⟨(fun hF => by have h1 : τ.bval 246 = true := hF.1; simp only [Holds, Fact.holds, q4, q6, q8, q11, q13, q15, q25, q27, q29, q39, q41, q43, q47, q49, q51, decide_eq_true_eq, decide_eq_false_iff_not] at hF; have := (woC03 τ e h0 hab hb (by omega) (by omega) (by omega) (by omega)).2; rw [this] at h1; cases h1), (fun hF => lf)⟩⟩⟩⟩⟩⟩⟩⟩⟩⟩⟩, ⟨?_, ⟨?_, ⟨?_, ⟨?_, ⟨?_, ⟨?_, ⟨?_, ⟨?_, ⟨?_, ⟨(fun hF => by have h1 : τ.bval 257 = true := hF.1; simp only [Holds, Fact.holds, q4, q6, q8, q11, q13, q15, q25, q27, q29, q39, q41, q43, q47, q49, q51, decide_eq_true_eq, decide_eq_false_iff_not] at hF; have := (woC02 τ e h0 hab hb (by omega) (by omega) (by omega) (by omega)).1; rw [this] at h1; cases h1), ⟨(fun hF => by have h1 : τ.bval 259 = true := hF.1; simp only [Holds, Fact.holds, q4, q6, q8, q11, q13, q15, q25, q27, q29, q39, q41, q43, q47, q49, q51, decide_eq_true_eq, decide_eq_false_iff_not] at hF; have := (woC02 τ e h0 hab hb (by omega) (by omega) (by omega) (by omega)).2; rw [this] at h1; cases h1), (fun hF => lf)⟩⟩⟩⟩⟩⟩⟩⟩⟩⟩⟩⟩, ⟨?_, ⟨?_, ⟨?_, ⟨?_, ⟨?_, ⟨?_, ⟨?_, ⟨?_, ⟨?_, ⟨?_, ⟨(fun hF => by have h1 : τ.bval 261 = true := hF.1; simp only [Holds, Fact.holds, q4, q6, q8, q11, q13, q15, q25, q27, q29, q39, q41, q43, q47, q49, q51, decide_eq_true_eq, decide_eq_false_iff_not] at hF; have := (woC01 τ e h0 hab hb (by omega) (by omega) (by omega) (by omega)).1; rw [this] at h1; cases h1), ⟨(fun hF => by have h1 : τ.bval 263 = true := hF.1; simp only [Holds, Fact.holds, q4, q6, q8, q11, q13, q15, q25, q27, q29, q39, q41, q43, q47, q49, q51, decide_eq_true_eq, decide_eq_false_iff_not] at hF; have := (woC01 τ e h0 hab hb (by omega) (by omega) (by omega) (by omega)).2; rw [this] at h1; cases h1), (fun hF => lf)⟩⟩⟩⟩⟩⟩⟩⟩⟩⟩⟩⟩⟩, ⟨?_, ⟨?_, ⟨?_, ⟨?_, ⟨?_, ⟨?_, ⟨?_, ⟨?_, ⟨?_, ⟨?_, ⟨?_, ⟨(fun hF => by have h1 : τ.bval 269 = true := hF.1; simp only [Holds, Fact.holds, q4, q6, q8, q11, q13, q15, q25, q27, q29, q39, q41, q43, q47, q49, q51, decide_eq_true_eq, decide_eq_false_iff_not] at hF; have := (woC00 τ e h0 hab hb (by omega) (by omega) (by omega) (by omega)).1; rw [this] at h1; cases h1), ⟨(fun hF => by have h1 : τ.bval 271 = true := hF.1; simp only [Holds, Fact.holds, q4, q6, q8, q11, q13, q15, q25, q27, q29, q39, q41, q43, q47, q49, q51, decide_eq_true_eq, decide_eq_false_iff_not] at hF; have := (woC00 τ e h0 hab hb (by omega) (by omega) (by omega) (by omega)).2; rw [this] at h1; cases h1), (fun hF => lf)⟩⟩⟩⟩⟩⟩⟩⟩⟩⟩⟩⟩⟩⟩⟩⟩⟩
  all_goals
    intro hF
    simp only [Holds, Fact.holds, q4, q6, q8, q11, q13, q15, q25, q27, q29, q39, q41, q43, q47, q49, q51, decide_eq_true_eq, decide_eq_false_iff_not] at hF
    omega

/-! ### The walk -/
def JO (O : Obj) (σ : Sig) : Prop := σ.ext = fun i => if i = 0 then some (errRow O) else none
def J1 (O : Obj) (σ : Sig) : Prop := JO O σ ∧ 0 ≤ σ.ival 0 ∧ σ.ival 0 < 4611686018427387904 ∧ 0 ≤ σ.ival 1 ∧ σ.ival 1 < 4611686018427387904 ∧ σ.bval 2 = decide (σ.ival 0 > σ.ival 1)
def J2 (σ : Sig) : Prop := 0 ≤ σ.ival 0 ∧ σ.ival 0 ≤ σ.ival 1 ∧ σ.ival 1 < 4611686018427387904
set_option maxRecDepth 100000 in
theorem walk (W : World) (hL : laidMetH Tryd.prog laid W) (n0 : Int) (i0 : InR [.i .u64] [n0]) (n1 : Int) (i1 : InR [.i .u64] [n1]) :
    Calls Tryd.prog 3 #[encC (.i .u64) n0, encC (.i .u64) n1] W fun e W' => e = .returned (.bool true) ∧ Below W.heap.size W W' := by
  obtain ⟨O, hO, hY⟩ := err_of_cell (handle_of_laid hL)
  refine calls_of_stageO (ss := woSs) (n := 72) (tab := noTab) (l := [n0, n1]) (Y := errRow O) Tryd.func3 rfl rfl (fun _ => by simp [woSs, encS]) hY (show InR [.i .u64, .i .u64] [n0, n1] from ⟨i0.1, i1⟩) ?_
  rw [show flatC (bodyOf Tryd.f3) = (flatC (bodyOf Tryd.f3)).take 5 ++ (Code.cond (.tmp 16) (yesAt 5 (bodyOf Tryd.f3)) (noAt 5 (bodyOf Tryd.f3)) :: (flatC (bodyOf Tryd.f3)).drop 6) from rfl]
  refine Stage.segI (q2 := 3) (ins2 := woK1) (S2 := woS1) (J2 := J1 O) mixed woA_seg ⟨rfl, rfl⟩ ?_ (fun τ h => rows_nil) (fun τ h => own_inv (r := 0) hO (by rw [h.2]; rfl)) ?_ ?_
  · intro σ τ ag h
    exact ⟨fun i hi => by rw [← (ag.val i hi).1]; exact h.1 i hi, by rw [← ag.ext]; exact h.2⟩
  · have last : Stage Tryd.prog noTab 72 W (bodyPost Tryd.prog Tryd.f3 (fun e W' => e = .returned (.bool true) ∧ Below W.heap.size W W')) ((flatC (bodyOf Tryd.f3)).drop 6) woS2 2 woK J2 := by
      refine Stage.last mixed woB_seg ⟨rfl, rfl⟩ (fun σ τ ag h => ?_) (fun τ h => rows_nil) (fun τ e ht hi hj => woB_ob τ e hj.1 hj.2.1 hj.2.2)
      have a0 := (ag.val 0 (by decide)).1
      have a1 := (ag.val 1 (by decide)).1
      exact ⟨by rw [← a0]; exact h.1, by rw [← a0, ← a1]; exact h.2.1, by rw [← a1]; exact h.2.2⟩
    have agr : ∀ (b : Bool) (σ τ : Sig), Agree 3 σ τ → (J1 O σ ∧ σ.bval 2 = b) → (J1 O τ ∧ τ.bval 2 = b) := fun b σ τ ag h => by
      unfold J1 JO at h ⊢
      rw [← ag.ext, ← (ag.val 0 (by decide)).1, ← (ag.val 1 (by decide)).1, ← (ag.val 2 (by decide)).2.1]
      exact h
    refine Stage.cond (k := 2) (by simp [woS1]) ?_ ?_
    · refine Stage.seg (q2 := 2) (ins2 := woK) (S2 := woS2) (J2 := J2) mixed woC_seg ⟨rfl, rfl⟩ (agr true) (fun τ h => rows_nil) last ?_
      intro τ e ht hi hj
      obtain ⟨⟨_, g1, g2, g3, g4, g5⟩, g6⟩ := hj
      rw [g5, decide_eq_true_eq] at g6
      refine fun hF => .inl ⟨rfl, rfl, insOk_asg e hi 4 (by kernel_rfl), ?_, ht⟩
      exact ⟨g3, by show τ.ival 1 ≤ τ.ival 0; omega, g2⟩
    · refine Stage.seg (q2 := 2) (ins2 := woK) (S2 := woS2) (J2 := J2) mixed woD_seg ⟨rfl, rfl⟩ (agr false) (fun τ h => rows_nil) last ?_
      intro τ e ht hi hj
      obtain ⟨⟨_, g1, g2, g3, g4, g5⟩, g6⟩ := hj
      rw [g5, decide_eq_false_iff_not] at g6
      refine fun hF => .inl ⟨rfl, rfl, insOk_asg e hi 4 (by kernel_rfl), ?_, ht⟩
      exact ⟨g1, by show τ.ival 0 ≤ τ.ival 1; omega, g4⟩
  · intro τ e ht hi hj
    have e2 : τ.ival 2 = ((τ.ival 0 : Int).tmod 4611686018427387904) := eqI (e.at 0 _ rfl rfl) rfl
    have e3 : τ.ival 3 = ((τ.ival 1 : Int).tmod 4611686018427387904) := eqI (e.at 1 _ rfl rfl) rfl
    have e4 : τ.bval 4 = decide (τ.ival 2 > τ.ival 3) := eqB (e.at 2 _ rfl rfl) rfl
    have r0 : 0 ≤ τ.ival 0 := by have := hi 0 .u64 (by decide) rfl; simp [IntKind.wrap, IntKind.bits, IntKind.signed] at this; omega
    have r1 : 0 ≤ τ.ival 1 := by have := hi 1 .u64 (by decide) rfl; simp [IntKind.wrap, IntKind.bits, IntKind.signed] at this; omega
    rw [Int.tmod_eq_emod_of_nonneg r0] at e2
    rw [Int.tmod_eq_emod_of_nonneg r1] at e3
    refine fun hF => .inl ⟨rfl, rfl, insOk_asg e hi 8 (by kernel_rfl), ⟨hj.2, ?_⟩, ht⟩
    show 0 ≤ τ.ival 2 ∧ τ.ival 2 < 4611686018427387904 ∧ 0 ≤ τ.ival 3 ∧ τ.ival 3 < 4611686018427387904 ∧ τ.bval 4 = decide (τ.ival 2 > τ.ival 3)
    exact ⟨by omega, by omega, by omega, by omega, e4⟩

section
variable {H : Type} {enc : TypeId × Value → H} {P : Program}
theorem post_of_below {f : Func} {s : ChangeSpec} {apart fresh handsOn again : Bool} {W W' : World} {args : Array Value} {v : Value} {ds gs : List (DataW H)} {before pa pv : List MemPlace}
    (hW : DataW.Whole enc P f.params.toList s.vars apart W args.toList ds gs before)
    (hres : ∀ (b : Nat) (sp : Nat → Bool) (hd : Bool), DataW.TrodAll enc P W' b sp hd f.resultTypes.toList (v.resultList f.resultTypes.size) (s.fn H (ds ++ gs)).results [])
    (hargs : ∀ sp : Nat → Bool, (∀ p ∈ before, sp p.block = true) → DataW.TrodAll enc P W' 0 sp true f.params.toList args.toList (s.fn H (ds ++ gs)).args pa)
    (hvars : ∀ sp : Nat → Bool, (∀ p ∈ before, sp p.block = true) → DataW.TrodVars enc P W' sp s.vars (s.fn H (ds ++ gs)).vars pv)
    (hps : before = pa ++ pv) (hb : Below W.heap.size W W')
    (hok : ∀ (j : Nat) (t : TypeId) (r : Value), f.resultTypes[j]? = some t → (v.resultList f.resultTypes.size)[j]? = some r → Value.okWide P W' .any 0 t r) :
    s.post enc P f apart fresh handsOn again W args v W' := by
  have hlt : ∀ p ∈ before, p.block < W.heap.size := fun p hp => hW.lt p hp
  have hold : ∀ p ∈ before, (fun b => decide (b < W.heap.size)) p.block = true := fun p hp => by simpa using hlt p hp
  refine ⟨ds, gs, before, [], pa, pv, hW, hres _ _ _, hargs _ hold, hvars _ hold, World.keptBut_mono (fun p hp => ⟨hp, ?_⟩) (hb.frame (· ∈ before)), fun _ => ?_⟩
  · rw [hps, List.mem_append] at hp
    exact Or.inr hp
  · obtain ⟨_, _, _, _, _, hz, hn⟩ := hW
    refine ⟨hok, _, _, ([] ++ pa) ++ pv, ⟨[] ++ pa, pv, trodAll_append (hargs _ (fun _ _ => rfl)) (hres _ _ _), hvars _ (fun _ _ => rfl), rfl, ?_, ?_⟩, ?_⟩
    · intro b off hp
      have hin : MemPlace.cell b off ∈ before := by rw [hps]; simpa using hp
      rw [hb.frozen (hlt _ hin)]
      exact hz b off hin
    · intro ha
      have := hn ha
      rw [hps] at this
      simpa using this
    · intro p hp _
      rw [hps]
      simpa using hp
end


theorem agg22 : Ev.isAgg Tryd.prog 22 = false := by kernel_rfl
theorem flat22 : flat Tryd.prog 4 22 = some [.i .u64] := by kernel_rfl

set_option maxRecDepth 100000 in
theorem lifted (os : Os) (started : os.Started) (H : Type) (enc : TypeId × Value → H) :
    ReturnsInHanded {} Tryd.checked os 3 .any (fun w args => (Rows.wireOrderSpec.pre enc Tryd.prog Tryd.f3 [] false w args ∧ laidMetH Tryd.prog laid w) ∧ sizedMet enc Tryd.prog Tryd.f3 (OpenSpec.ofChange Rows.wireOrderSpec) false w args) (Rows.wireOrderSpec.post enc Tryd.prog Tryd.f3 false true false false) := by
  refine returnsInHanded_of_change_and (C := Tryd.checked) (X := fun w _ => laidMetH Tryd.prog laid w) (fun _ _ _ hh h => h.of_heap hh) own started (by kernel_rfl) Tryd.func3
    (ChangeSpec.witness_at (enc := enc) (C := Tryd.checked) (os := os) (X := fun w _ => laidMetH Tryd.prog laid w) false (laidWorld os) #[.int .u64 0, .int .u64 0] 8 rfl (by kernel_rfl) (by kernel_rfl) (by kernel_rfl) (by kernel_rfl) (by kernel_rfl) (laidWorld_met os _)) ?_
  intro W base args ds gs before hval0 hW _ _ hL _
  have hval : ∀ (j : Nat) t v, Tryd.f3.params[j]? = some t → args[j]? = some v → Value.okWide Tryd.prog W .any base t v := hval0
  have hW' := hW
  obtain ⟨p, q, hA0, hV, rfl, hfz, hnd⟩ := hW
  have hA : DataW.TrodAll enc Tryd.prog W 0 (fun _ => true) true Tryd.f3.params.toList args.toList ds p := hA0
  rw [Tryd.params3] at hA hval
  obtain ⟨v0, vs0, d0, ds0, p0, q0, hargs, rfl, rfl, h0, r0⟩ := trodAll_cons hA
  obtain ⟨v1, vs1, d1, ds1, p1, q1, rfl, rfl, rfl, h1, r1⟩ := trodAll_cons r0
  obtain ⟨rfl, rfl, rfl⟩ := trodAll_nil r1
  obtain rfl : args = #[v0, v1] := by cases args; simp_all
  obtain ⟨rfl, rfl⟩ := trodVars_none hV
  obtain ⟨n0, i0, rfl, rfl⟩ := open_one flat22 agg22 (hval 0 22 v0 rfl rfl) h0
  obtain ⟨n1, i1, rfl, rfl⟩ := open_one flat22 agg22 (hval 1 22 v1 rfl rfl) h1
  clear hA0 hval0
  simp only [List.append_nil] at hW'
  refine (walk W hL n0 i0 n1 i1).mono fun e W' ⟨he, hg⟩ => ?_
  subst he
  exact ⟨_, rfl, post_of_below (pa := [] ++ ([] ++ ([]))) (pv := []) hW' (fun _ _ _ => (trodAll_cons_mk (shut_bool Tryd.underlying4 _) trodAll_mk0)) (fun sp hsp => (trodAll_cons_mk (shut_flat flat22 h0) (trodAll_cons_mk (shut_flat flat22 h1) trodAll_mk0))) (fun _ _ => rfl) (by simp)
    hg (ok_one (by kernel_rfl) rfl (okWide_bool_mk Tryd.underlying4 _))⟩

theorem over : Rows.wireOrderRow.holds Tryd.pinned (OpenSpec.ofChange Rows.wireOrderSpec) :=
  OpenClaim.holds_of_wide 3 Tryd.f3 rfl rfl rfl rfl rfl rfl rfl ⟨rfl, rfl, rfl, rfl, rfl⟩ rfl rfl rfl rfl rfl (by kernel_rfl) Tryd.func3 (by kernel_rfl)
    (of_decide_eq_true (by kernel_rfl)) (by unfold Func.isWrapper; first | (rw [if_pos (by decide +kernel)]; kernel_rfl) | (rw [if_neg (by decide +kernel)]; exact ⟨rfl, rfl⟩))
    (fun os started H enc _ => lifted os started H enc)

/-- THE STATEMENT: the row's, and what it lists tied to the program's text (the tie is given). -/
theorem proved : Rows.WireOrderCardSaid :=
  Claim7.holds_tied_plain_at .later [] [.handle] true (true, "c2838ca91c28a9fb7908c478833805ac40200ffe986e5b7931e25f0c134e5a5f") true
    over (fun _ h => by cases h) (by kernel_rfl) (fun _ h => by cases h) wireOrder_row_tie rfl ⟨rfl, rfl⟩ (by kernel_rfl) rfl
    (fun f fn hf hfn => by
      obtain rfl : f = 3 := Option.some.inj ((show Tryd.prog.funcNamed "plover/ploverlaw01.WireOrder" = some 3 by kernel_rfl).symm.trans hf) |>.symm
      obtain rfl : fn = Tryd.f3 := (Option.some.inj (Tryd.func3.symm.trans hfn)).symm
      exact ⟨by kernel_rfl, fun j t ht => by
        rw [Tryd.params3] at ht
        rcases j with _ | _ | j
        · obtain rfl : t = 22 := by simpa using ht.symm
          exact (show Tryd.prog.wantsStandIn 22 = false by kernel_rfl)
        · obtain rfl : t = 22 := by simpa using ht.symm
          exact (show Tryd.prog.wantsStandIn 22 = false by kernel_rfl)
        · simp at ht⟩)
    (by kernel_rfl)
#print axioms proved
end Go.Proofs.YtapfkgenachpgaaDoor.wireOrder
