/-
  WireReads: the round of its loop, reckoned.
  No conditions.
-/
import Derived.Test.YtapfkgenachpgaaDoorChecked
import Derived.WalkKit
import Derived.Below
import Derived.ChangeSame
import Derived.Test.YtapfkgenachpgaaDoorWra
namespace Go.Proofs.YtapfkgenachpgaaDoor.wr
open Go.RowKit
open Go.Ev Go.Proofs.YtapfkgenachpgaaDoor.fa Go.Proofs.YtapfkgenachpgaaDoor.wn
set_option linter.unusedVariables false
set_option linter.unusedSimpArgs false

set_option maxRecDepth 100000 in
def wrB0V24 : Sv := .node 177 .dead (.node 178 .dead (.node 179 .dead (.leafE .normal (wrS true) [(0, 0), (1, 0), (3, 0)] [(3, .syms 3), (0, .symi .i64 78), (3, .syms 3), (2, .symi .i64 172), (3, .syms 3), (2, .symi .i64 29), (4, .int .i64 5), (5, .symi .i64 2), (4, .int .i64 5), (5, .symi .i64 2)] [(1, .symi .i64 1)])))
theorem wrB0_r24 : okS (runOf Tryd.prog wrB0X [loopOf (bodyOf Tryd.f5)] (wrS false) 76 [.isn 24 5, .non 24 3, .non 24 0, .tru 21 true, .tru 20 false, .tru 19 false, .tru 18 false, .tru 17 false, .tru 16 false, .tru 13 true, .tru 12 true, .tru 14 true, .tru 11 true, .tru 10 true, .tru 9 true]) wrB0V24 = true := by kernel_rfl
set_option maxRecDepth 100000 in
def wrB0V25 : Sv := .node 173 .dead (.node 175 .dead (.leafE .normal (wrS true) [(0, 0), (1, 0), (3, 0)] [(3, .syms 3), (0, .symi .i64 78), (3, .syms 3), (2, .symi .i64 172), (3, .syms 3), (2, .symi .i64 2), (4, .int .i64 4), (5, .symi .i64 2), (4, .int .i64 4), (5, .symi .i64 2)] [(1, .symi .i64 1)]))
theorem wrB0_r25 : okS (runOf Tryd.prog wrB0X [loopOf (bodyOf Tryd.f5)] (wrS false) 76 [.tru 49 true, .isn 24 0, .tru 22 true, .tru 21 false, .tru 20 false, .tru 19 false, .tru 18 false, .tru 17 false, .tru 16 false, .tru 13 true, .tru 12 true, .tru 14 true, .tru 11 true, .tru 10 true, .tru 9 true]) wrB0V25 = true := by kernel_rfl
set_option maxRecDepth 100000 in
def wrB0V26 : Sv := .node 173 .dead (.node 175 .dead (.leafE .normal (wrS true) [(0, 0), (1, 0), (3, 0)] [(3, .syms 3), (0, .symi .i64 78), (3, .syms 3), (2, .symi .i64 172), (3, .syms 3), (2, .symi .i64 2), (4, .int .i64 4), (5, .symi .i64 2), (4, .int .i64 4), (5, .symi .i64 2)] [(1, .symi .i64 1)]))
theorem wrB0_r26 : okS (runOf Tryd.prog wrB0X [loopOf (bodyOf Tryd.f5)] (wrS false) 76 [.tru 51 true, .tru 49 false, .isn 24 0, .tru 22 true, .tru 21 false, .tru 20 false, .tru 19 false, .tru 18 false, .tru 17 false, .tru 16 false, .tru 13 true, .tru 12 true, .tru 14 true, .tru 11 true, .tru 10 true, .tru 9 true]) wrB0V26 = true := by kernel_rfl
set_option maxRecDepth 100000 in
def wrB0V27 : Sv := .node 67 (.node 76 .dead (.leaf .normal (wrS false) [(0, 0), (1, 0)] [(3, .syms 3), (0, .symi .i64 78), (3, .syms 3), (2, .symi .i64 29), (3, .syms 3), (2, .symi .i64 29)] [(1, .symi .i64 1), (4, .int .i64 0), (5, .int .i64 0)])) (.node 77 .dead (.leaf .normal (wrS false) [(0, 0), (1, 0)] [(3, .syms 3), (0, .symi .i64 78), (3, .syms 3), (2, .symi .i64 29), (3, .syms 3), (2, .symi .i64 29)] [(1, .symi .i64 1), (4, .int .i64 0), (5, .int .i64 0)]))
theorem wrB0_r27 : okS (runOf Tryd.prog wrB0X [loopOf (bodyOf Tryd.f5)] (wrS false) 76 [.tru 51 false, .tru 49 false, .isn 24 0, .tru 22 true, .tru 21 false, .tru 20 false, .tru 19 false, .tru 18 false, .tru 17 false, .tru 16 false, .tru 13 true, .tru 12 true, .tru 14 true, .tru 11 true, .tru 10 true, .tru 9 true]) wrB0V27 = true := by kernel_rfl
set_option maxRecDepth 100000 in
def wrB0V28 : Sv := .node 177 .dead (.node 178 .dead (.node 179 .dead (.leafE .normal (wrS true) [(0, 0), (1, 0), (3, 0)] [(3, .syms 3), (0, .symi .i64 78), (3, .syms 3), (2, .symi .i64 172), (3, .syms 3), (2, .symi .i64 29), (4, .int .i64 3), (5, .symi .i64 2), (4, .int .i64 3), (5, .symi .i64 2)] [(1, .symi .i64 1)])))
theorem wrB0_r28 : okS (runOf Tryd.prog wrB0X [loopOf (bodyOf Tryd.f5)] (wrS false) 76 [.isn 24 3, .non 24 0, .tru 22 true, .tru 21 false, .tru 20 false, .tru 19 false, .tru 18 false, .tru 17 false, .tru 16 false, .tru 13 true, .tru 12 true, .tru 14 true, .tru 11 true, .tru 10 true, .tru 9 true]) wrB0V28 = true := by kernel_rfl
set_option maxRecDepth 100000 in
def wrB0V29 : Sv := .node 177 .dead (.node 178 .dead (.node 179 .dead (.leafE .normal (wrS true) [(0, 0), (1, 0), (3, 0)] [(3, .syms 3), (0, .symi .i64 78), (3, .syms 3), (2, .symi .i64 172), (3, .syms 3), (2, .symi .i64 29), (4, .int .i64 5), (5, .symi .i64 2), (4, .int .i64 5), (5, .symi .i64 2)] [(1, .symi .i64 1)])))
theorem wrB0_r29 : okS (runOf Tryd.prog wrB0X [loopOf (bodyOf Tryd.f5)] (wrS false) 76 [.isn 24 5, .non 24 3, .non 24 0, .tru 22 true, .tru 21 false, .tru 20 false, .tru 19 false, .tru 18 false, .tru 17 false, .tru 16 false, .tru 13 true, .tru 12 true, .tru 14 true, .tru 11 true, .tru 10 true, .tru 9 true]) wrB0V29 = true := by kernel_rfl
set_option maxRecDepth 100000 in
def wrB0V30 : Sv := .node 182 (.node 186 .dead (.node 196 .dead (.leaf .normal (wrS true) [(0, 0), (1, 0), (3, 0)] [(3, .syms 3), (0, .symi .i64 78), (3, .syms 3), (2, .symi .i64 2), (3, .syms 3), (2, .symi .i64 2), (4, .symi .i64 181), (5, .symi .i64 48), (4, .symi .i64 181), (5, .symi .i64 48)] [(1, .symi .i64 1)]))) (.node 111 (.node 204 .dead (.leaf .normal (wrS false) [(0, 0), (1, 0)] [(3, .syms 3), (0, .symi .i64 78), (3, .syms 3), (2, .symi .i64 2), (3, .syms 3), (2, .symi .i64 2)] [(1, .symi .i64 1), (4, .int .i64 0), (5, .int .i64 0)])) (.node 205 .dead (.leaf .normal (wrS false) [(0, 0), (1, 0)] [(3, .syms 3), (0, .symi .i64 78), (3, .syms 3), (2, .symi .i64 2), (3, .syms 3), (2, .symi .i64 2)] [(1, .symi .i64 1), (4, .int .i64 0), (5, .int .i64 0)])))
theorem wrB0_r30 : okS (runOf Tryd.prog wrB0X [loopOf (bodyOf Tryd.f5)] (wrS false) 76 [.tru 23 true, .tru 22 false, .tru 21 false, .tru 20 false, .tru 19 false, .tru 18 false, .tru 17 false, .tru 16 false, .tru 13 true, .tru 12 true, .tru 14 true, .tru 11 true, .tru 10 true, .tru 9 true]) wrB0V30 = true := by kernel_rfl
set_option maxRecDepth 100000 in
def wrB0V31 : Sv := .node 67 (.node 76 .dead (.leaf .normal (wrS false) [(0, 0), (1, 0)] [(3, .syms 3), (0, .symi .i64 78), (3, .syms 3), (2, .symi .i64 29), (3, .syms 3), (2, .symi .i64 29)] [(1, .symi .i64 1), (4, .int .i64 0), (5, .int .i64 0)])) (.node 77 .dead (.leaf .normal (wrS false) [(0, 0), (1, 0)] [(3, .syms 3), (0, .symi .i64 78), (3, .syms 3), (2, .symi .i64 29), (3, .syms 3), (2, .symi .i64 29)] [(1, .symi .i64 1), (4, .int .i64 0), (5, .int .i64 0)]))
theorem wrB0_r31 : okS (runOf Tryd.prog wrB0X [loopOf (bodyOf Tryd.f5)] (wrS false) 76 [.isn 24 0, .tru 23 false, .tru 22 false, .tru 21 false, .tru 20 false, .tru 19 false, .tru 18 false, .tru 17 false, .tru 16 false, .tru 13 true, .tru 12 true, .tru 14 true, .tru 11 true, .tru 10 true, .tru 9 true]) wrB0V31 = true := by kernel_rfl
set_option maxRecDepth 100000 in
def wrB0V32 : Sv := .leaf .normal (wrS true) [(0, 0), (1, 0), (3, 0)] [(3, .syms 3), (0, .symi .i64 78), (3, .syms 3), (2, .symi .i64 29), (3, .syms 3), (2, .symi .i64 29), (4, .int .i64 3), (5, .symi .i64 2), (4, .int .i64 3), (5, .symi .i64 2)] [(1, .symi .i64 1)]
theorem wrB0_r32 : okS (runOf Tryd.prog wrB0X [loopOf (bodyOf Tryd.f5)] (wrS false) 76 [.isn 24 3, .non 24 0, .tru 23 false, .tru 22 false, .tru 21 false, .tru 20 false, .tru 19 false, .tru 18 false, .tru 17 false, .tru 16 false, .tru 13 true, .tru 12 true, .tru 14 true, .tru 11 true, .tru 10 true, .tru 9 true]) wrB0V32 = true := by kernel_rfl
set_option maxRecDepth 100000 in
def wrB0V33 : Sv := .leaf .normal (wrS true) [(0, 0), (1, 0), (3, 0)] [(3, .syms 3), (0, .symi .i64 78), (3, .syms 3), (2, .symi .i64 29), (3, .syms 3), (2, .symi .i64 29), (4, .int .i64 5), (5, .symi .i64 2), (4, .int .i64 5), (5, .symi .i64 2)] [(1, .symi .i64 1)]
theorem wrB0_r33 : okS (runOf Tryd.prog wrB0X [loopOf (bodyOf Tryd.f5)] (wrS false) 76 [.isn 24 5, .non 24 3, .non 24 0, .tru 23 false, .tru 22 false, .tru 21 false, .tru 20 false, .tru 19 false, .tru 18 false, .tru 17 false, .tru 16 false, .tru 13 true, .tru 12 true, .tru 14 true, .tru 11 true, .tru 10 true, .tru 9 true]) wrB0V33 = true := by kernel_rfl
set_option maxRecDepth 100000 in
def wrB0V34 : Sv := .leaf (.exit 0) wrSe [] [] []
theorem wrB0_r34 : okS (runOf Tryd.prog wrB0X [loopOf (bodyOf Tryd.f5)] (wrS false) 76 [.tru 13 false, .tru 12 true, .tru 14 true, .tru 11 true, .tru 10 true, .tru 9 true]) wrB0V34 = true := by kernel_rfl
set_option maxRecDepth 100000 in
def wrB0V35 : Sv := .leaf (.exit 0) wrSe [] [] []
theorem wrB0_r35 : okS (runOf Tryd.prog wrB0X [loopOf (bodyOf Tryd.f5)] (wrS false) 76 [.tru 12 false, .tru 14 true, .tru 11 true, .tru 10 true, .tru 9 true]) wrB0V35 = true := by kernel_rfl
end Go.Proofs.YtapfkgenachpgaaDoor.wr
