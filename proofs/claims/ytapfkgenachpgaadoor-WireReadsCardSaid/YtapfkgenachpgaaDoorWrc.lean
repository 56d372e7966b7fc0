/-
  WireReads: the round of its loop, reckoned.
  No conditions.
-/
import Derived.Test.YtapfkgenachpgaaDoorChecked
import Derived.WalkKit
import Derived.Below
import Derived.ChangeSame
import Derived.Test.YtapfkgenachpgaaDoorWra
namespace Go.Proofs.YtapfkgenachpgaaDoor.wr
open Go.RowKit
open Go.Ev Go.Proofs.YtapfkgenachpgaaDoor.fa Go.Proofs.YtapfkgenachpgaaDoor.wn
set_option linter.unusedVariables false
set_option linter.unusedSimpArgs false

set_option maxRecDepth 100000 in
def wrB0V12 : Sv := .node 170 .dead (.node 171 .dead (.leafE .normal (wrS true) [(0, 0), (1, 0), (3, 0)] [(3, .syms 3), (0, .symi .i64 78), (3, .syms 3), (2, .symi .i64 2), (3, .syms 3), (2, .symi .i64 29), (4, .int .i64 3), (5, .symi .i64 2), (4, .int .i64 3), (5, .symi .i64 2)] [(1, .symi .i64 1)]))
theorem wrB0_r12 : okS (runOf Tryd.prog wrB0X [loopOf (bodyOf Tryd.f5)] (wrS false) 76 [.isn 24 3, .non 24 0, .tru 19 true, .tru 18 false, .tru 17 false, .tru 16 false, .tru 13 true, .tru 12 true, .tru 14 true, .tru 11 true, .tru 10 true, .tru 9 true]) wrB0V12 = true := by kernel_rfl
set_option maxRecDepth 100000 in
def wrB0V13 : Sv := .node 170 .dead (.node 171 .dead (.leafE .normal (wrS true) [(0, 0), (1, 0), (3, 0)] [(3, .syms 3), (0, .symi .i64 78), (3, .syms 3), (2, .symi .i64 2), (3, .syms 3), (2, .symi .i64 29), (4, .int .i64 5), (5, .symi .i64 2), (4, .int .i64 5), (5, .symi .i64 2)] [(1, .symi .i64 1)]))
theorem wrB0_r13 : okS (runOf Tryd.prog wrB0X [loopOf (bodyOf Tryd.f5)] (wrS false) 76 [.isn 24 5, .non 24 3, .non 24 0, .tru 19 true, .tru 18 false, .tru 17 false, .tru 16 false, .tru 13 true, .tru 12 true, .tru 14 true, .tru 11 true, .tru 10 true, .tru 9 true]) wrB0V13 = true := by kernel_rfl
set_option maxRecDepth 100000 in
def wrB0V14 : Sv := .leaf .normal (wrS true) [(0, 0), (1, 0), (3, 0)] [(3, .syms 3), (0, .symi .i64 78), (3, .syms 3), (2, .symi .i64 2), (3, .syms 3), (2, .symi .i64 2), (4, .int .i64 4), (5, .symi .i64 2), (4, .int .i64 4), (5, .symi .i64 2)] [(1, .symi .i64 1)]
theorem wrB0_r14 : okS (runOf Tryd.prog wrB0X [loopOf (bodyOf Tryd.f5)] (wrS false) 76 [.tru 49 true, .isn 24 0, .tru 20 true, .tru 19 false, .tru 18 false, .tru 17 false, .tru 16 false, .tru 13 true, .tru 12 true, .tru 14 true, .tru 11 true, .tru 10 true, .tru 9 true]) wrB0V14 = true := by kernel_rfl
set_option maxRecDepth 100000 in
def wrB0V15 : Sv := .leaf .normal (wrS true) [(0, 0), (1, 0), (3, 0)] [(3, .syms 3), (0, .symi .i64 78), (3, .syms 3), (2, .symi .i64 2), (3, .syms 3), (2, .symi .i64 2), (4, .int .i64 4), (5, .symi .i64 2), (4, .int .i64 4), (5, .symi .i64 2)] [(1, .symi .i64 1)]
theorem wrB0_r15 : okS (runOf Tryd.prog wrB0X [loopOf (bodyOf Tryd.f5)] (wrS false) 76 [.tru 51 true, .tru 49 false, .isn 24 0, .tru 20 true, .tru 19 false, .tru 18 false, .tru 17 false, .tru 16 false, .tru 13 true, .tru 12 true, .tru 14 true, .tru 11 true, .tru 10 true, .tru 9 true]) wrB0V15 = true := by kernel_rfl
set_option maxRecDepth 100000 in
def wrB0V16 : Sv := .leaf .normal (wrS true) [(0, 0), (1, 0), (3, 0)] [(3, .syms 3), (0, .symi .i64 78), (3, .syms 3), (2, .symi .i64 2), (3, .syms 3), (2, .symi .i64 2), (4, .int .i64 3), (5, .symi .i64 2), (4, .int .i64 3), (5, .symi .i64 2)] [(1, .symi .i64 1)]
theorem wrB0_r16 : okS (runOf Tryd.prog wrB0X [loopOf (bodyOf Tryd.f5)] (wrS false) 76 [.tru 41 true, .tru 39 true, .tru 51 false, .tru 49 false, .isn 24 0, .tru 20 true, .tru 19 false, .tru 18 false, .tru 17 false, .tru 16 false, .tru 13 true, .tru 12 true, .tru 14 true, .tru 11 true, .tru 10 true, .tru 9 true]) wrB0V16 = true := by kernel_rfl
set_option maxRecDepth 100000 in
def wrB0V17 : Sv := .node 154 .dead (.node 155 .dead (.node 158 .dead (.node 159 (.node 168 .dead (.leafE .normal (wrS false) [(0, 0), (1, 0)] [(3, .syms 3), (0, .symi .i64 78), (3, .syms 3), (2, .symi .i64 151), (3, .syms 3), (2, .symi .i64 30)] [(1, .symi .i64 1), (4, .int .i64 0), (5, .int .i64 0)])) (.node 169 .dead (.leafE .normal (wrS false) [(0, 0), (1, 0)] [(3, .syms 3), (0, .symi .i64 78), (3, .syms 3), (2, .symi .i64 151), (3, .syms 3), (2, .symi .i64 30)] [(1, .symi .i64 1), (4, .int .i64 0), (5, .int .i64 0)])))))
theorem wrB0_r17 : okS (runOf Tryd.prog wrB0X [loopOf (bodyOf Tryd.f5)] (wrS false) 76 [.tru 36 true, .tru 35 true, .tru 33 true, .tru 32 true, .tru 31 true, .tru 41 false, .tru 39 false, .tru 51 false, .tru 49 false, .isn 24 0, .tru 20 true, .tru 19 false, .tru 18 false, .tru 17 false, .tru 16 false, .tru 13 true, .tru 12 true, .tru 14 true, .tru 11 true, .tru 10 true, .tru 9 true]) wrB0V17 = true := by kernel_rfl
set_option maxRecDepth 100000 in
def wrB0V18 : Sv := .node 170 .dead (.node 171 .dead (.leafE .normal (wrS true) [(0, 0), (1, 0), (3, 0)] [(3, .syms 3), (0, .symi .i64 78), (3, .syms 3), (2, .symi .i64 2), (3, .syms 3), (2, .symi .i64 29), (4, .int .i64 3), (5, .symi .i64 2), (4, .int .i64 3), (5, .symi .i64 2)] [(1, .symi .i64 1)]))
theorem wrB0_r18 : okS (runOf Tryd.prog wrB0X [loopOf (bodyOf Tryd.f5)] (wrS false) 76 [.isn 24 3, .non 24 0, .tru 20 true, .tru 19 false, .tru 18 false, .tru 17 false, .tru 16 false, .tru 13 true, .tru 12 true, .tru 14 true, .tru 11 true, .tru 10 true, .tru 9 true]) wrB0V18 = true := by kernel_rfl
set_option maxRecDepth 100000 in
def wrB0V19 : Sv := .node 170 .dead (.node 171 .dead (.leafE .normal (wrS true) [(0, 0), (1, 0), (3, 0)] [(3, .syms 3), (0, .symi .i64 78), (3, .syms 3), (2, .symi .i64 2), (3, .syms 3), (2, .symi .i64 29), (4, .int .i64 5), (5, .symi .i64 2), (4, .int .i64 5), (5, .symi .i64 2)] [(1, .symi .i64 1)]))
theorem wrB0_r19 : okS (runOf Tryd.prog wrB0X [loopOf (bodyOf Tryd.f5)] (wrS false) 76 [.isn 24 5, .non 24 3, .non 24 0, .tru 20 true, .tru 19 false, .tru 18 false, .tru 17 false, .tru 16 false, .tru 13 true, .tru 12 true, .tru 14 true, .tru 11 true, .tru 10 true, .tru 9 true]) wrB0V19 = true := by kernel_rfl
set_option maxRecDepth 100000 in
def wrB0V20 : Sv := .node 173 .dead (.node 175 .dead (.leafE .normal (wrS true) [(0, 0), (1, 0), (3, 0)] [(3, .syms 3), (0, .symi .i64 78), (3, .syms 3), (2, .symi .i64 172), (3, .syms 3), (2, .symi .i64 2), (4, .int .i64 4), (5, .symi .i64 2), (4, .int .i64 4), (5, .symi .i64 2)] [(1, .symi .i64 1)]))
theorem wrB0_r20 : okS (runOf Tryd.prog wrB0X [loopOf (bodyOf Tryd.f5)] (wrS false) 76 [.tru 49 true, .isn 24 0, .tru 21 true, .tru 20 false, .tru 19 false, .tru 18 false, .tru 17 false, .tru 16 false, .tru 13 true, .tru 12 true, .tru 14 true, .tru 11 true, .tru 10 true, .tru 9 true]) wrB0V20 = true := by kernel_rfl
set_option maxRecDepth 100000 in
def wrB0V21 : Sv := .node 173 .dead (.node 175 .dead (.leafE .normal (wrS true) [(0, 0), (1, 0), (3, 0)] [(3, .syms 3), (0, .symi .i64 78), (3, .syms 3), (2, .symi .i64 172), (3, .syms 3), (2, .symi .i64 2), (4, .int .i64 4), (5, .symi .i64 2), (4, .int .i64 4), (5, .symi .i64 2)] [(1, .symi .i64 1)]))
theorem wrB0_r21 : okS (runOf Tryd.prog wrB0X [loopOf (bodyOf Tryd.f5)] (wrS false) 76 [.tru 51 true, .tru 49 false, .isn 24 0, .tru 21 true, .tru 20 false, .tru 19 false, .tru 18 false, .tru 17 false, .tru 16 false, .tru 13 true, .tru 12 true, .tru 14 true, .tru 11 true, .tru 10 true, .tru 9 true]) wrB0V21 = true := by kernel_rfl
set_option maxRecDepth 100000 in
def wrB0V22 : Sv := .node 67 (.node 76 .dead (.leaf .normal (wrS false) [(0, 0), (1, 0)] [(3, .syms 3), (0, .symi .i64 78), (3, .syms 3), (2, .symi .i64 29), (3, .syms 3), (2, .symi .i64 29)] [(1, .symi .i64 1), (4, .int .i64 0), (5, .int .i64 0)])) (.node 77 .dead (.leaf .normal (wrS false) [(0, 0), (1, 0)] [(3, .syms 3), (0, .symi .i64 78), (3, .syms 3), (2, .symi .i64 29), (3, .syms 3), (2, .symi .i64 29)] [(1, .symi .i64 1), (4, .int .i64 0), (5, .int .i64 0)]))
theorem wrB0_r22 : okS (runOf Tryd.prog wrB0X [loopOf (bodyOf Tryd.f5)] (wrS false) 76 [.tru 51 false, .tru 49 false, .isn 24 0, .tru 21 true, .tru 20 false, .tru 19 false, .tru 18 false, .tru 17 false, .tru 16 false, .tru 13 true, .tru 12 true, .tru 14 true, .tru 11 true, .tru 10 true, .tru 9 true]) wrB0V22 = true := by kernel_rfl
set_option maxRecDepth 100000 in
def wrB0V23 : Sv := .node 177 .dead (.node 178 .dead (.node 179 .dead (.leafE .normal (wrS true) [(0, 0), (1, 0), (3, 0)] [(3, .syms 3), (0, .symi .i64 78), (3, .syms 3), (2, .symi .i64 172), (3, .syms 3), (2, .symi .i64 29), (4, .int .i64 3), (5, .symi .i64 2), (4, .int .i64 3), (5, .symi .i64 2)] [(1, .symi .i64 1)])))
theorem wrB0_r23 : okS (runOf Tryd.prog wrB0X [loopOf (bodyOf Tryd.f5)] (wrS false) 76 [.isn 24 3, .non 24 0, .tru 21 true, .tru 20 false, .tru 19 false, .tru 18 false, .tru 17 false, .tru 16 false, .tru 13 true, .tru 12 true, .tru 14 true, .tru 11 true, .tru 10 true, .tru 9 true]) wrB0V23 = true := by kernel_rfl
end Go.Proofs.YtapfkgenachpgaaDoor.wr
