/-
  WireReads: the round of its loop, reckoned.
  No conditions.
-/
import Derived.Test.YtapfkgenachpgaaDoorChecked
import Derived.WalkKit
import Derived.Below
import Derived.ChangeSame
import Derived.Test.YtapfkgenachpgaaDoorWra
namespace Go.Proofs.YtapfkgenachpgaaDoor.wr
open Go.RowKit
open Go.Ev Go.Proofs.YtapfkgenachpgaaDoor.fa Go.Proofs.YtapfkgenachpgaaDoor.wn
set_option linter.unusedVariables false
set_option linter.unusedSimpArgs false

set_option maxRecDepth 100000 in
def wrB0V0 : Sv := .node 66 .dead (.node 67 (.node 76 .dead (.leaf .normal (wrS false) [(0, 0), (1, 0)] [(3, .syms 3), (0, .symi .i64 78), (3, .syms 3), (2, .symi .i64 29), (3, .syms 3), (2, .symi .i64 29)] [(1, .symi .i64 1), (4, .int .i64 0), (5, .int .i64 0)])) (.node 77 .dead (.leaf .normal (wrS false) [(0, 0), (1, 0)] [(3, .syms 3), (0, .symi .i64 78), (3, .syms 3), (2, .symi .i64 29), (3, .syms 3), (2, .symi .i64 29)] [(1, .symi .i64 1), (4, .int .i64 0), (5, .int .i64 0)])))
theorem wrB0_r0 : okS (runOf Tryd.prog wrB0X [loopOf (bodyOf Tryd.f5)] (wrS false) 76 [.isn 24 0, .tru 16 true, .tru 13 true, .tru 12 true, .tru 14 true, .tru 11 true, .tru 10 true, .tru 9 true]) wrB0V0 = true := by kernel_rfl
set_option maxRecDepth 100000 in
def wrB0V1 : Sv := .node 66 .dead (.leaf .normal (wrS true) [(0, 0), (1, 0), (3, 0)] [(3, .syms 3), (0, .symi .i64 78), (3, .syms 3), (2, .symi .i64 29), (3, .syms 3), (2, .symi .i64 29), (4, .int .i64 3), (5, .symi .i64 2), (4, .int .i64 3), (5, .symi .i64 2)] [(1, .symi .i64 1)])
theorem wrB0_r1 : okS (runOf Tryd.prog wrB0X [loopOf (bodyOf Tryd.f5)] (wrS false) 76 [.isn 24 3, .non 24 0, .tru 16 true, .tru 13 true, .tru 12 true, .tru 14 true, .tru 11 true, .tru 10 true, .tru 9 true]) wrB0V1 = true := by kernel_rfl
set_option maxRecDepth 100000 in
def wrB0V2 : Sv := .node 66 .dead (.leaf .normal (wrS true) [(0, 0), (1, 0), (3, 0)] [(3, .syms 3), (0, .symi .i64 78), (3, .syms 3), (2, .symi .i64 29), (3, .syms 3), (2, .symi .i64 29), (4, .int .i64 5), (5, .symi .i64 2), (4, .int .i64 5), (5, .symi .i64 2)] [(1, .symi .i64 1)])
theorem wrB0_r2 : okS (runOf Tryd.prog wrB0X [loopOf (bodyOf Tryd.f5)] (wrS false) 76 [.isn 24 5, .non 24 3, .non 24 0, .tru 16 true, .tru 13 true, .tru 12 true, .tru 14 true, .tru 11 true, .tru 10 true, .tru 9 true]) wrB0V2 = true := by kernel_rfl
set_option maxRecDepth 100000 in
def wrB0V3 : Sv := .node 79 .dead (.node 80 .dead (.node 81 (.node 82 (.node 93 .dead (.node 94 (.node 103 .dead (.leaf .normal (wrS false) [(0, 0), (1, 0)] [(3, .syms 3), (0, .symi .i64 78), (3, .syms 3), (2, .symi .i64 44), (3, .syms 3), (2, .symi .i64 44)] [(1, .symi .i64 1), (4, .int .i64 0), (5, .int .i64 0)])) (.node 104 .dead (.leaf .normal (wrS false) [(0, 0), (1, 0)] [(3, .syms 3), (0, .symi .i64 78), (3, .syms 3), (2, .symi .i64 44), (3, .syms 3), (2, .symi .i64 44)] [(1, .symi .i64 1), (4, .int .i64 0), (5, .int .i64 0)])))) .dead) .dead))
theorem wrB0_r3 : okS (runOf Tryd.prog wrB0X [loopOf (bodyOf Tryd.f5)] (wrS false) 76 [.tru 25 true, .tru 17 true, .tru 16 false, .tru 13 true, .tru 12 true, .tru 14 true, .tru 11 true, .tru 10 true, .tru 9 true]) wrB0V3 = true := by kernel_rfl
set_option maxRecDepth 100000 in
def wrB0V4 : Sv := .node 79 (.node 80 (.leaf .normal (wrS true) [(0, 0), (1, 0), (3, 0)] [(3, .syms 3), (0, .symi .i64 78), (3, .syms 3), (2, .symi .i64 2), (3, .syms 3), (2, .symi .i64 2), (4, .int .i64 3), (5, .symi .i64 2), (4, .int .i64 3), (5, .symi .i64 2)] [(1, .symi .i64 1)]) .dead) .dead
theorem wrB0_r4 : okS (runOf Tryd.prog wrB0X [loopOf (bodyOf Tryd.f5)] (wrS false) 76 [.tru 25 false, .tru 17 true, .tru 16 false, .tru 13 true, .tru 12 true, .tru 14 true, .tru 11 true, .tru 10 true, .tru 9 true]) wrB0V4 = true := by kernel_rfl
set_option maxRecDepth 100000 in
def wrB0V5 : Sv := .node 111 (.node 80 .dead (.node 81 (.node 82 (.node 117 .dead (.leaf .normal (wrS true) [(0, 0), (1, 0), (3, 0)] [(3, .syms 3), (0, .symi .i64 78), (3, .syms 3), (2, .symi .i64 2), (3, .syms 3), (2, .symi .i64 2), (4, .int .i64 5), (5, .symi .i64 2), (4, .int .i64 5), (5, .symi .i64 2)] [(1, .symi .i64 1)])) .dead) .dead)) .dead
theorem wrB0_r5 : okS (runOf Tryd.prog wrB0X [loopOf (bodyOf Tryd.f5)] (wrS false) 76 [.tru 47 true, .tru 43 true, .tru 25 true, .tru 18 true, .tru 17 false, .tru 16 false, .tru 13 true, .tru 12 true, .tru 14 true, .tru 11 true, .tru 10 true, .tru 9 true]) wrB0V5 = true := by kernel_rfl
set_option maxRecDepth 100000 in
def wrB0V6 : Sv := .node 111 (.node 79 .dead (.node 80 .dead (.node 81 (.node 82 (.node 119 .dead (.node 94 (.node 103 .dead (.leaf .normal (wrS false) [(0, 0), (1, 0)] [(3, .syms 3), (0, .symi .i64 78), (3, .syms 3), (2, .symi .i64 44), (3, .syms 3), (2, .symi .i64 44)] [(1, .symi .i64 1), (4, .int .i64 0), (5, .int .i64 0)])) (.node 104 .dead (.leaf .normal (wrS false) [(0, 0), (1, 0)] [(3, .syms 3), (0, .symi .i64 78), (3, .syms 3), (2, .symi .i64 44), (3, .syms 3), (2, .symi .i64 44)] [(1, .symi .i64 1), (4, .int .i64 0), (5, .int .i64 0)])))) .dead) .dead))) .dead
theorem wrB0_r6 : okS (runOf Tryd.prog wrB0X [loopOf (bodyOf Tryd.f5)] (wrS false) 76 [.tru 47 false, .tru 43 false, .tru 25 true, .tru 18 true, .tru 17 false, .tru 16 false, .tru 13 true, .tru 12 true, .tru 14 true, .tru 11 true, .tru 10 true, .tru 9 true]) wrB0V6 = true := by kernel_rfl
set_option maxRecDepth 100000 in
def wrB0V7 : Sv := .node 111 .dead (.node 79 (.node 80 (.leaf .normal (wrS true) [(0, 0), (1, 0), (3, 0)] [(3, .syms 3), (0, .symi .i64 78), (3, .syms 3), (2, .symi .i64 2), (3, .syms 3), (2, .symi .i64 2), (4, .int .i64 3), (5, .symi .i64 2), (4, .int .i64 3), (5, .symi .i64 2)] [(1, .symi .i64 1)]) .dead) .dead)
theorem wrB0_r7 : okS (runOf Tryd.prog wrB0X [loopOf (bodyOf Tryd.f5)] (wrS false) 76 [.tru 25 false, .tru 18 true, .tru 17 false, .tru 16 false, .tru 13 true, .tru 12 true, .tru 14 true, .tru 11 true, .tru 10 true, .tru 9 true]) wrB0V7 = true := by kernel_rfl
set_option maxRecDepth 100000 in
def wrB0V8 : Sv := .leaf .normal (wrS true) [(0, 0), (1, 0), (3, 0)] [(3, .syms 3), (0, .symi .i64 78), (3, .syms 3), (2, .symi .i64 2), (3, .syms 3), (2, .symi .i64 2), (4, .int .i64 4), (5, .symi .i64 2), (4, .int .i64 4), (5, .symi .i64 2)] [(1, .symi .i64 1)]
theorem wrB0_r8 : okS (runOf Tryd.prog wrB0X [loopOf (bodyOf Tryd.f5)] (wrS false) 76 [.tru 49 true, .isn 24 0, .tru 19 true, .tru 18 false, .tru 17 false, .tru 16 false, .tru 13 true, .tru 12 true, .tru 14 true, .tru 11 true, .tru 10 true, .tru 9 true]) wrB0V8 = true := by kernel_rfl
set_option maxRecDepth 100000 in
def wrB0V9 : Sv := .leaf .normal (wrS true) [(0, 0), (1, 0), (3, 0)] [(3, .syms 3), (0, .symi .i64 78), (3, .syms 3), (2, .symi .i64 2), (3, .syms 3), (2, .symi .i64 2), (4, .int .i64 4), (5, .symi .i64 2), (4, .int .i64 4), (5, .symi .i64 2)] [(1, .symi .i64 1)]
theorem wrB0_r9 : okS (runOf Tryd.prog wrB0X [loopOf (bodyOf Tryd.f5)] (wrS false) 76 [.tru 51 true, .tru 49 false, .isn 24 0, .tru 19 true, .tru 18 false, .tru 17 false, .tru 16 false, .tru 13 true, .tru 12 true, .tru 14 true, .tru 11 true, .tru 10 true, .tru 9 true]) wrB0V9 = true := by kernel_rfl
set_option maxRecDepth 100000 in
def wrB0V10 : Sv := .leaf .normal (wrS true) [(0, 0), (1, 0), (3, 0)] [(3, .syms 3), (0, .symi .i64 78), (3, .syms 3), (2, .symi .i64 2), (3, .syms 3), (2, .symi .i64 2), (4, .int .i64 3), (5, .symi .i64 2), (4, .int .i64 3), (5, .symi .i64 2)] [(1, .symi .i64 1)]
theorem wrB0_r10 : okS (runOf Tryd.prog wrB0X [loopOf (bodyOf Tryd.f5)] (wrS false) 76 [.tru 41 true, .tru 39 true, .tru 51 false, .tru 49 false, .isn 24 0, .tru 19 true, .tru 18 false, .tru 17 false, .tru 16 false, .tru 13 true, .tru 12 true, .tru 14 true, .tru 11 true, .tru 10 true, .tru 9 true]) wrB0V10 = true := by kernel_rfl
set_option maxRecDepth 100000 in
def wrB0V11 : Sv := .node 154 .dead (.node 155 .dead (.node 158 .dead (.node 159 (.node 168 .dead (.leafE .normal (wrS false) [(0, 0), (1, 0)] [(3, .syms 3), (0, .symi .i64 78), (3, .syms 3), (2, .symi .i64 151), (3, .syms 3), (2, .symi .i64 30)] [(1, .symi .i64 1), (4, .int .i64 0), (5, .int .i64 0)])) (.node 169 .dead (.leafE .normal (wrS false) [(0, 0), (1, 0)] [(3, .syms 3), (0, .symi .i64 78), (3, .syms 3), (2, .symi .i64 151), (3, .syms 3), (2, .symi .i64 30)] [(1, .symi .i64 1), (4, .int .i64 0), (5, .int .i64 0)])))))
theorem wrB0_r11 : okS (runOf Tryd.prog wrB0X [loopOf (bodyOf Tryd.f5)] (wrS false) 76 [.tru 36 true, .tru 35 true, .tru 33 true, .tru 32 true, .tru 31 true, .tru 41 false, .tru 39 false, .tru 51 false, .tru 49 false, .isn 24 0, .tru 19 true, .tru 18 false, .tru 17 false, .tru 16 false, .tru 13 true, .tru 12 true, .tru 14 true, .tru 11 true, .tru 10 true, .tru 9 true]) wrB0V11 = true := by kernel_rfl
end Go.Proofs.YtapfkgenachpgaaDoor.wr
