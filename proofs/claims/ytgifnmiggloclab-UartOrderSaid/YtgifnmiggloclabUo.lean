/-
  UartOrder: the shapes, the operations, what is known ahead.
  No conditions.
-/
import Derived.Test.YtgifnmiggloclabChecked
import Derived.WalkKit
import Derived.ProofKit
import Derived.Test.YtgifnmiggloclabUs
namespace Go.Proofs.Ytgifnmiggloclab.uo
open Go.RowKit Go.Ev Go.Proofs.Ytgifnmiggloclab.fc Go.Proofs.Ytgifnmiggloclab.uc Go.Proofs.Ytgifnmiggloclab.us
set_option linter.unusedVariables false
set_option linter.unusedSimpArgs false

def uoTru : List Ent := [⟨19, [], [.one .b], 0⟩]
def uoSym : List SymE := [⟨54, q9, q9, fun _ => gMend⟩, ⟨46, q9b, pushO, fun _ => gPush⟩, ⟨50, q9, popO, fun _ => gPop⟩, ⟨25, [u21], [u21], gUMend⟩, ⟨24, peekI, peekO, gPeek⟩]
def uoB : Nat → Nat → List AVal
  | 0, _ => []
  | k + 1, i => .symi .u8 i :: uoB k (i + 1)
def uoZ : Nat → List AVal
  | 0 => []
  | k + 1 => .int .u8 0 :: uoZ k
def uoSl (blk : Nat) : Option Nat → AVal
  | none => .nilslice
  | some k => .slice blk 0 k k (some 1)
def uoN : Option Nat → Nat
  | none => 0
  | some k => k
def uoQ (k i : Nat) : List AVal := .int .i64 k :: (uoB k i ++ uoZ (8 - k))
def uoBlk (ty i : Nat) : Option Nat → List (List AVal × Nat)
  | none => []
  | some k => [(uoB k i, ty)]
def uoS (p q : Option Nat) : Shape :=
  ⟨[(0, .row 0), (3, .ptr 0 0), (4, uoSl 1 p), (5, uoSl (match p with | none => 1 | some _ => 2) q), (6, bif Nat.beq (uoN q) 0 then .int .i64 0 else .symi .i64 20), (7, .symi .u8 2), (8, .symb 3), (9, .symi .i64 0)],
   .cells (uoQ (uoN p) 4 ++ uoQ (uoN q) 12 ++ [.symb 3, .symi .u8 2, bif Nat.beq (uoN q) 0 then .int .u8 0 else .symi .u8 21]) 41 :: ((uoBlk 5 4 p ++ uoBlk 5 12 q).map fun x => .cells x.1 x.2)⟩
def uoS0 : Shape := ⟨argT 0 [.row 0], []⟩
def uoS2 : Shape := ⟨[], []⟩
def uoSE : Shape := ⟨[(2, .symb 0)], []⟩
def uoK : List (Option IntKind) := [some .i64, some .i64, some .u8, none, some .u8, some .u8, some .u8, some .u8, some .u8, some .u8, some .u8, some .u8, some .u8, some .u8, some .u8, some .u8, some .u8, some .u8, some .u8, some .u8, some .i64, some .u8]
set_option maxRecDepth 100000 in
def uoG : List SDef := [.bin .lss (.symi .i64 0) (.symi .i64 1),
  .bin .lss (.symi .i64 0) (.int .i64 200),
  .bin .leq (.int .i64 0) (.symi .i64 0),
  .bin .rem (.symi .u8 22) (.int .u8 13),
  .bin .geq (.symi .u8 21) (.int .u8 4),
  .bin .eql (.symi .u8 27) (.int .u8 0),
  .bin .eql (.symi .u8 27) (.int .u8 1),
  .bin .eql (.symi .u8 27) (.int .u8 2),
  .bin .eql (.symi .u8 27) (.int .u8 3),
  .bin .eql (.symi .u8 27) (.int .u8 4),
  .bin .eql (.symi .u8 27) (.int .u8 5),
  .bin .eql (.symi .u8 27) (.int .u8 11),
  .bin .eql (.symi .u8 27) (.int .u8 12),
  .bin .and (.symi .u8 2) (.int .u8 1),
  .bin .neq (.symi .u8 37) (.int .u8 0),
  .bin .eql (.symi .u8 37) (.int .u8 1),
  .bin .neq (.symb 38) (.symb 39),
  .ite (.symb 3) (.int .i32 5) (.int .i32 1),
  .bin .neq (.symi .i32 41) (.int .i32 5),
  .conv .i32 (.symi .u8 2),
  .bin .neq (.symi .i32 41) (.int .i32 1),
  .bin .add (.symi .i64 0) (.int .i64 1),
  .ite (.symb 3) (.int .i32 4) (.int .i32 0),
  .bin .neq (.symi .i32 46) (.int .i32 4),
  .bin .neq (.symi .i32 46) (.int .i32 0),
  .conv .i32 (.symi .u8 23),
  .bin .sub (.symi .i32 49) (.int .i32 256),
  .conv .u8 (.symi .i32 50),
  .conv .u8 (.symi .i32 49),
  .conv .i32 (.symi .u8 52),
  .bin .neq (.symi .i32 53) (.symi .i32 49),
  .conv .i64 (.symi .u8 21),
  .bin .neq (.symi .i64 55) (.symi .i64 20),
  .bin .and (.symi .u8 2) (.int .u8 2),
  .bin .neq (.symi .u8 57) (.int .u8 0),
  .bin .eql (.symi .u8 57) (.int .u8 2),
  .bin .neq (.symb 58) (.symb 59),
  .ite (.symb 3) (.int .i32 6) (.int .i32 2),
  .bin .neq (.symi .i32 61) (.int .i32 6),
  .bin .neq (.symi .i32 61) (.int .i32 2),
  .ite (.symb 3) (.int .i32 7) (.int .i32 3),
  .bin .neq (.symi .i32 64) (.int .i32 7),
  .bin .neq (.symi .i32 64) (.int .i32 3),
  .conv .i32 (.symi .u8 4)]

set_option maxRecDepth 100000 in
def uoT : LT := .n (.n (.n (.n (.n (.n (.e) 30227 26 (.bin .leq (.int .i64 0) (.symi .i64 0)) (.e)) 60352 45 (.bin .add (.symi .i64 0) (.int .i64 1)) (.e)) 10017408 25 (.bin .lss (.symi .i64 0) (.int .i64 200)) (.n (.n (.e) 15523167 55 (.conv .i64 (.symi .u8 21)) (.e)) 21728936 66 (.bin .neq (.symi .i32 64) (.int .i32 3)) (.e))) 21929076 65 (.bin .neq (.symi .i32 64) (.int .i32 7)) (.n (.n (.n (.e) 60826001 40 (.bin .neq (.symb 38) (.symb 39)) (.e)) 75183812 27 (.bin .rem (.symi .u8 22) (.int .u8 13)) (.e)) 202060993 37 (.bin .and (.symi .u8 2) (.int .u8 1)) (.n (.n (.e) 202111028 57 (.bin .and (.symi .u8 2) (.int .u8 2)) (.e)) 206000950 43 (.conv .i32 (.symi .u8 2)) (.e)))) 221523785 49 (.conv .i32 (.symi .u8 23)) (.n (.n (.n (.n (.e) 343384000 24 (.bin .lss (.symi .i64 0) (.symi .i64 1)) (.e)) 351057031 48 (.bin .neq (.symi .i32 46) (.int .i32 0)) (.e)) 351257171 47 (.bin .neq (.symi .i32 46) (.int .i32 4)) (.n (.n (.e) 364033805 60 (.bin .neq (.symb 58) (.symb 59)) (.e)) 388318537 58 (.bin .neq (.symi .u8 57) (.int .u8 0)) (.e))) 388418600 59 (.bin .eql (.symi .u8 57) (.int .u8 2)) (.n (.n (.n (.e) 412001568 67 (.conv .i32 (.symi .u8 4)) (.e)) 417018075 46 (.ite (.symb 3) (.int .i32 4) (.int .i32 0)) (.e)) 417019575 41 (.ite (.symb 3) (.int .i32 5) (.int .i32 1)) (.n (.e) 417021075 61 (.ite (.symb 3) (.int .i32 6) (.int .i32 2)) (.e))))) 417022575 64 (.ite (.symb 3) (.int .i32 7) (.int .i32 3)) (.n (.n (.n (.n (.n (.e) 515796131 38 (.bin .neq (.symi .u8 37) (.int .u8 0)) (.e)) 515846159 39 (.bin .eql (.symi .u8 37) (.int .u8 1)) (.e)) 579534921 29 (.bin .eql (.symi .u8 27) (.int .u8 0)) (.n (.n (.e) 579584956 30 (.bin .eql (.symi .u8 27) (.int .u8 1)) (.e)) 579634991 31 (.bin .eql (.symi .u8 27) (.int .u8 2)) (.e))) 579685026 32 (.bin .eql (.symi .u8 27) (.int .u8 3)) (.n (.n (.n (.e) 579735061 33 (.bin .eql (.symi .u8 27) (.int .u8 4)) (.e)) 579785096 34 (.bin .eql (.symi .u8 27) (.int .u8 5)) (.e)) 580085306 35 (.bin .eql (.symi .u8 27) (.int .u8 11)) (.n (.e) 580135341 36 (.bin .eql (.symi .u8 27) (.int .u8 12)) (.e)))) 610958543 56 (.bin .neq (.symi .i64 55) (.symi .i64 20)) (.n (.n (.n (.n (.e) 666866823 50 (.bin .sub (.symi .i32 49) (.int .i32 256)) (.e)) 702535256 54 (.bin .neq (.symi .i32 53) (.symi .i32 49)) (.e)) 752048165 52 (.conv .u8 (.symi .i32 49)) (.n (.n (.e) 792419819 63 (.bin .neq (.symi .i32 61) (.int .i32 2)) (.e)) 792619959 62 (.bin .neq (.symi .i32 61) (.int .i32 6)) (.e))) 855048474 51 (.conv .u8 (.symi .i32 50)) (.n (.n (.n (.e) 919847378 44 (.bin .neq (.symi .i32 41) (.int .i32 1)) (.e)) 920047518 42 (.bin .neq (.symi .i32 41) (.int .i32 5)) (.e)) 1047475105 28 (.bin .geq (.symi .u8 21) (.int .u8 4)) (.n (.e) 1061049092 53 (.conv .i32 (.symi .u8 52)) (.e)))))

def uoKd : KdT := .n (.n (.n (.n (.n (.n (.n .e none .e) none .e) (some .u8) (.n .e none .e)) (some .u8) (.n (.n .e none .e) (some .u8) (.n .e (some .i64) .e))) none (.n (.n (.n (.n .e (some .i32) .e) none .e) (some .u8) (.n .e (some .u8) .e)) (some .u8) (.n (.n .e (some .i32) .e) (some .u8) (.n .e none .e)))) (some .i64) (.n (.n (.n (.n (.n .e none .e) none .e) (some .u8) (.n .e (some .i32) .e)) (some .u8) (.n (.n .e (some .i32) .e) none (.n .e (some .u8) .e))) (some .u8) (.n (.n (.n .e (some .u8) .e) (some .u8) (.n .e (some .i32) .e)) (some .u8) (.n (.n .e (some .i64) .e) none (.n .e (some .i32) .e))))) (some .i64) (.n (.n (.n (.n (.n (.n .e (some .i32) .e) none .e) (some .u8) (.n .e none .e)) (some .u8) (.n (.n .e none .e) none (.n .e none .e))) (some .u8) (.n (.n (.n .e none .e) (some .i64) (.n .e (some .u8) .e)) (some .u8) (.n (.n .e none .e) none (.n .e none .e)))) (some .u8) (.n (.n (.n (.n (.n .e none .e) none .e) (some .u8) (.n .e (some .i32) .e)) (some .u8) (.n (.n .e none .e) none (.n .e none .e))) (some .u8) (.n (.n (.n .e none .e) (some .u8) (.n .e none .e)) (some .u8) (.n (.n .e (some .i32) .e) none (.n .e none .e)))))
def uoC : List Nat → Nat → Asg
  | [], _ => []
  | n :: r, i => (i, .symi .u8 n) :: uoC r (i + 1)
def uoA (p q : Option Nat) (t c ctl lost : AVal) (ins outs : List Nat) (ctl2 : AVal) (outs2 : List Nat) : Asg :=
  (bif Nat.beq (uoN q) 0 then [] else [(20, t)]) ++ ((2, ctl) :: (3, lost) :: (0, .symi .i64 45) :: (uoC ins 4 ++ (uoC outs 12 ++ ((3, lost) :: (2, ctl2) :: ((bif Nat.beq (uoN q) 0 then [] else [(21, c)]) ++ (uoC ins 4 ++ uoC outs2 12))))))
def uoO : Nat → Option Nat
  | 9 => none
  | k => some k
def u2 : AVal := .symi .u8 2
def u3 : AVal := .symb 3
def u20 : AVal := .symi .i64 20
def u21c : AVal := .symi .u8 21
def uz : AVal := .nilptr
def uM0 : Bm := [(0, 0), (5, 0), (2, 0)]
def uM1 : Bm := [(0, 0), (1, 0), (2, 0)]
def uM2 : Bm := [(0, 0), (1, 0), (4, 0)]
def uM3 : Bm := [(0, 0), (1, 0), (2, 1)]
def uM4 : Bm := [(0, 0), (4, 0)]
def uM5 : Bm := [(0, 0), (1, 0)]
def uM6 : Bm := [(0, 0), (1, 0), (3, 0)]
def uM7 : Bm := [(0, 0), (1, 1), (2, 0)]
def uM8 : Bm := [(0, 0), (1, 1)]
def uM9 : Bm := [(0, 0), (4, 0), (1, 0)]
def uM10 : Bm := [(0, 0), (3, 0)]
def uM11 : Bm := [(0, 0)]
def uM12 : Bm := [(0, 0), (2, 0)]
/-- What the ends come to, in short. -/
inductive Uv where
  | dead
  | node (i : Nat) (y n : Uv)
  | pick (i : Nat) (k : Int) (y n : Uv)
  | e (p q : Nat) (bm : Bm) (t c ctl lost : AVal) (ins outs : List Nat)
  | d (p q : Nat) (bm : Bm) (t c ctl lost : AVal) (ins outs : List Nat) (ctl2 : AVal) (outs2 : List Nat)
  | f
inductive Uw where
  | run (v : Uv)
  | dead
  | node (i : Nat) (y n : Uw)
  | pick (i : Nat) (k : Int) (y n : Uw)
def Uv.sv : Uv → Sv
  | .dead => .dead
  | .node i y n => .node i y.sv n.sv
  | .pick i k y n => .pick i k y.sv n.sv
  | .e p q bm t c ctl lost ins outs => .leaf .normal (uoS (uoO p) (uoO q)) bm (uoA (uoO p) (uoO q) t c ctl lost ins outs ctl outs) [(1, .symi .i64 1)]
  | .d p q bm t c ctl lost ins outs ctl2 outs2 => .leafE .normal (uoS (uoO p) (uoO q)) bm (uoA (uoO p) (uoO q) t c ctl lost ins outs ctl2 outs2) [(1, .symi .i64 1)]
  | .f => .leaf (.exit 0) uoS2 [] [] []
def Uw.sw : Uw → Sw
  | .run v => .run v.sv
  | .dead => .dead
  | .node i y n => .node i y.sw n.sw
  | .pick i k y n => .pick i k y.sw n.sw
def uoX : Ing := { kb := 68, kt := uoKd, m := 24, ins := uoK ++ [some .u8, some .u8], G := uoG, T := uoT, hook := orHook (symHook uoSym) (trueHook uoTru), rows := [⟨.symi .i64 1, [(.symi .i64 0, elCells 22 [.i .u8, .i .u8])]⟩] }
theorem uo_ok : okG uoG 24 = true := by kernel_rfl
theorem uo_lt : okLT 24 uoG uoT = true := by kernel_rfl
end Go.Proofs.Ytgifnmiggloclab.uo
