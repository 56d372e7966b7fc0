/- Calls over literal memory of ploverlaw27.RecordKnown, each reckoned once in the kernel: entries 3 to 4. -/
import Derived.Test.YtlhaklmnjdgjgacGreatRows
import Derived.WalkKit
import Derived.ProofKit
import Derived.OpenShut
import Derived.Below
import Derived.ChangeSame
import Derived.Laws.Externs
import Derived.Laws.LoneSync
import Derived.Test.YtlhaklmnjdgjgacGreatRka
namespace Go.Proofs.YtlhaklmnjdgjgacGreat.recordKnown
open Go.ChangeShapes Go.WideShapes Go.ChangeAt Go.RowKit
set_option linter.unusedVariables false

section
open Go.Ev
set_option linter.unusedSimpArgs false
set_option maxRecDepth 100000 in
def mf3 : MemF := ⟨42, [.agg [.nilslice, .int .i64 0, .slice 0 0 1 1 (.some 7), .int .i64 0]], [.cells [.str ⟨#[109, 97, 105, 110]⟩, .int .i64 (-1), .int .i64 0, .int .i64 0, .int .i64 0, .nilslice, .slice 1 0 2 2 (.some 11)] 207, .cells [.int .i64 3, .int .i64 1, .int .i64 (-1), .int .i64 (-1), .int .i64 0, .int .i64 0, .slice 2 0 1 1 (.some 8), .int .i64 0, .int .i64 0, .int .i64 1, .int .i64 (-1), .int .i64 10, .int .i64 1, .int .i64 (-1), .int .i64 (-1), .int .i64 0, .int .i64 0, .nilslice, .int .i64 0, .int .i64 0, .int .i64 (-1), .int .i64 (-1)] 212, .cells [.int .i64 0, .int .i64 27, .str ⟨#[]⟩, .str ⟨#[]⟩, .int .i64 1, .int .i64 2, .int .i64 0, .nilslice] 309], .tuple [.agg [.slice 3 0 7 7 (.some 5), .slice 4 0 2 2 (.some 3), .slice 5 0 1 1 (.some 9), .nilslice, .int .i64 0, .int .i64 0, .int .i64 3], .int .i64 0], [.cells [.str ⟨#[109, 97, 105, 110]⟩, .int .i64 (-1), .int .i64 0, .int .i64 0, .int .i64 0, .nilslice, .slice 1 0 2 2 (.some 11)] 207, .cells [.int .i64 3, .int .i64 1, .int .i64 (-1), .int .i64 (-1), .int .i64 0, .int .i64 0, .slice 2 0 1 1 (.some 8), .int .i64 0, .int .i64 0, .int .i64 1, .int .i64 (-1), .int .i64 10, .int .i64 1, .int .i64 (-1), .int .i64 (-1), .int .i64 0, .int .i64 0, .nilslice, .int .i64 0, .int .i64 0, .int .i64 (-1), .int .i64 (-1)] 212, .cells [.int .i64 0, .int .i64 27, .str ⟨#[]⟩, .str ⟨#[]⟩, .int .i64 1, .int .i64 2, .int .i64 0, .nilslice] 309, .cells [.int .u8 16, .int .u8 0, .int .u8 1, .int .u8 0, .int .i32 0, .int .u8 0, .int .u8 0, .int .u8 0, .int .u8 0, .int .i32 0, .int .u8 2, .int .u8 0, .int .u8 0, .int .u8 0, .int .i32 1, .int .u8 11, .int .u8 0, .int .u8 0, .int .u8 0, .int .i32 0, .int .u8 0, .int .u8 0, .int .u8 0, .int .u8 0, .int .i32 1, .int .u8 2, .int .u8 0, .int .u8 0, .int .u8 0, .int .i32 0, .int .u8 23, .int .u8 0, .int .u8 0, .int .u8 0, .int .i32 0] 137, .cells [.int .i64 0, .int .i64 0, .int .i64 1, .int .i64 0, .int .i64 1, .int .i64 1] 145, .cells [.str ⟨#[109, 97, 105, 110]⟩, .int .i64 (-1), .int .i64 0, .int .i64 0, .int .i64 0, .int .i64 1, .int .i64 0, .nilslice, .slice 6 0 0 2 .none] 125, .cells [.bool false, .int .i64 0, .bool false, .int .i64 0] 256]⟩
def bf3 : Bm := [(0, 0), (1, 0), (2, 0), (110, 0), (102, 0), (113, 0), (7, 0)]
theorem run3 : isMemF mf3 bf3 ((evD Tryz.prog (cxOf (ing tb3)) true 1000 40).1 [] mf3.f mf3.args ⟨mf3.pre, []⟩) = true := by kernel_rfl
theorem ok3 : MemFOk Tryz.prog (ing []).tab mf3 := closed_memF (X := ing tb3) bf3 ⟨rfl, rfl, rfl, rfl, rfl, rfl⟩ (fun _ h => h) mixed (hooks tb3 all3) (by kernel_rfl) run3
def tb4 : List MemF := mf3 :: tb3
theorem all4 : ∀ e, e ∈ tb4 → MemFOk Tryz.prog (ing []).tab e := fun e he => (List.mem_cons.1 he).elim (fun h => h ▸ ok3) (all3 e)
set_option maxRecDepth 100000 in
def mf4 : MemF := ⟨4, [.str ⟨#[102, 110, 32, 109, 97, 105, 110, 40, 41, 32, 123, 32, 111, 117, 116, 32, 103, 112, 105, 111, 46, 111, 117, 116, 32, 61, 32, 49, 59, 32, 125]⟩], [], .agg [.slice 0 0 7 7 (.some 5), .slice 1 0 2 2 (.some 3), .slice 2 0 1 1 (.some 9), .nilslice, .int .i64 0, .int .i64 0, .int .i64 3], [.cells [.int .u8 16, .int .u8 0, .int .u8 1, .int .u8 0, .int .i32 0, .int .u8 0, .int .u8 0, .int .u8 0, .int .u8 0, .int .i32 0, .int .u8 2, .int .u8 0, .int .u8 0, .int .u8 0, .int .i32 1, .int .u8 11, .int .u8 0, .int .u8 0, .int .u8 0, .int .i32 0, .int .u8 0, .int .u8 0, .int .u8 0, .int .u8 0, .int .i32 1, .int .u8 2, .int .u8 0, .int .u8 0, .int .u8 0, .int .i32 0, .int .u8 23, .int .u8 0, .int .u8 0, .int .u8 0, .int .i32 0] 137, .cells [.int .i64 0, .int .i64 0, .int .i64 1, .int .i64 0, .int .i64 1, .int .i64 1] 145, .cells [.str ⟨#[109, 97, 105, 110]⟩, .int .i64 (-1), .int .i64 0, .int .i64 0, .int .i64 0, .int .i64 1, .int .i64 0, .nilslice, .slice 3 0 0 2 .none] 125, .cells [.bool false, .int .i64 0, .bool false, .int .i64 0] 256]⟩
def bf4 : Bm := [(81, 0), (82, 0), (83, 0), (84, 0)]
theorem run4 : isMemF mf4 bf4 ((evD Tryz.prog (cxOf (ing tb4)) true 1000 40).1 [] mf4.f mf4.args ⟨mf4.pre, []⟩) = true := by kernel_rfl
theorem ok4 : MemFOk Tryz.prog (ing []).tab mf4 := closed_memF (X := ing tb4) bf4 ⟨rfl, rfl, rfl, rfl, rfl, rfl⟩ (fun _ h => h) mixed (hooks tb4 all4) (by kernel_rfl) run4
def tb5 : List MemF := mf4 :: tb4
theorem all5 : ∀ e, e ∈ tb5 → MemFOk Tryz.prog (ing []).tab e := fun e he => (List.mem_cons.1 he).elim (fun h => h ▸ ok4) (all4 e)
end
end Go.Proofs.YtlhaklmnjdgjgacGreat.recordKnown
