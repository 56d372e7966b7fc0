/- Calls over literal memory of ploverlaw27.RecordKnown, each reckoned once in the kernel: entries 0 to 2. -/
import Derived.Test.YtlhaklmnjdgjgacGreatRows
import Derived.WalkKit
import Derived.ProofKit
import Derived.OpenShut
import Derived.Below
import Derived.ChangeSame
import Derived.Laws.Externs
import Derived.Laws.LoneSync
import Derived.Test.YtlhaklmnjdgjgacGreatEwZs
namespace Go.Proofs.YtlhaklmnjdgjgacGreat.recordKnown
open Go.ChangeShapes Go.WideShapes Go.ChangeAt Go.RowKit
set_option linter.unusedVariables false

section
open Go.Ev
set_option linter.unusedSimpArgs false
theorem mixed : Tryz.prog.follows .mixedOrders = true := Checked.mixed Tryz.checked

theorem atm161 : AtomOk Tryz.prog 161 true := fun a x y w hc hz => run_call_add (f := 161) Tryz.func161 (by kernel_rfl) (by kernel_rfl) (by kernel_rfl) .u64 (by kernel_rfl) hc hz rfl
theorem ovl : OvlOk Tryz.prog 123 := ⟨45, 4, 42, 3, by kernel_rfl, fun w => by kernel_rfl, fun args w => run_callFunc_extern (f := 123) Tryz.func123 (by kernel_rfl) (by kernel_rfl) (by kernel_rfl) (by kernel_rfl) args w⟩
def ing (tbl : List MemF) : Ing := { m := 0, G := [], T := .e, inv := fun σ => σ.ext = fun _ => none, mh := memMf tbl, insf := some (63, 123), atoms := [(161, true)] }
theorem hooks (tbl : List MemF) (h : ∀ e, e ∈ tbl → MemFOk Tryz.prog (ing []).tab e) (F : List Fact) : Hooks Tryz.prog (cxOf (ing tbl) F) where
  val := fun f args v h => by simp only [ing, cxOf, noHook, reduceCtorEq] at h
  mem := fun f args hp v hp' hm => mem_memF (X := ing tbl) h ⟨rfl, rfl, rfl, rfl, rfl, rfl⟩ (fun _ h => h) (fun _ h => h) rfl F f args hp v hp' hm
  ovl := fun f k h => by simp only [ing, cxOf, Option.some.injEq, Prod.mk.injEq] at h; obtain ⟨_, rfl⟩ := h; exact ovl
  atm := fun k b h => by
    simp only [ing, cxOf, List.mem_cons, Prod.mk.injEq, List.not_mem_nil, or_false] at h
    rcases h with ⟨rfl, rfl⟩
    · exact atm161

def tb0 : List MemF := []
theorem all0 : ∀ e, e ∈ tb0 → MemFOk Tryz.prog (ing []).tab e := fun e he => by cases he
set_option maxRecDepth 100000 in
def mf0 : MemF := ⟨70, [.str ⟨#[102, 110, 32, 109, 97, 105, 110, 40, 41, 32, 123, 32, 111, 117, 116, 32, 103, 112, 105, 111, 46, 111, 117, 116, 32, 61, 32, 49, 59, 32, 125]⟩], [], .tuple [.slice 0 0 14 14 (.some 5), .agg [.int .i64 0, .int .i64 0]], [.cells [.int .i64 1, .int .i64 0, .int .i64 1, .str ⟨#[102, 110]⟩, .int .i64 0, .int .i64 1, .int .i64 3, .int .i64 1, .str ⟨#[109, 97, 105, 110]⟩, .int .i64 0, .int .i64 3, .int .i64 7, .int .i64 1, .str ⟨#[40]⟩, .int .i64 0, .int .i64 3, .int .i64 8, .int .i64 1, .str ⟨#[41]⟩, .int .i64 0, .int .i64 3, .int .i64 10, .int .i64 1, .str ⟨#[123]⟩, .int .i64 0, .int .i64 1, .int .i64 12, .int .i64 1, .str ⟨#[111, 117, 116]⟩, .int .i64 0, .int .i64 1, .int .i64 16, .int .i64 1, .str ⟨#[103, 112, 105, 111]⟩, .int .i64 0, .int .i64 3, .int .i64 20, .int .i64 1, .str ⟨#[46]⟩, .int .i64 0, .int .i64 1, .int .i64 21, .int .i64 1, .str ⟨#[111, 117, 116]⟩, .int .i64 0, .int .i64 3, .int .i64 25, .int .i64 1, .str ⟨#[61]⟩, .int .i64 0, .int .i64 2, .int .i64 27, .int .i64 1, .str ⟨#[49]⟩, .int .i64 1, .int .i64 3, .int .i64 28, .int .i64 1, .str ⟨#[59]⟩, .int .i64 0, .int .i64 3, .int .i64 30, .int .i64 1, .str ⟨#[125]⟩, .int .i64 0, .int .i64 0, .int .i64 31, .int .i64 1, .str ⟨#[]⟩, .int .i64 0] 180]⟩
def bf0 : Bm := [(54, 0)]
theorem run0 : isMemF mf0 bf0 ((evD Tryz.prog (cxOf (ing tb0)) true 1000 40).1 [] mf0.f mf0.args ⟨mf0.pre, []⟩) = true := by kernel_rfl
theorem ok0 : MemFOk Tryz.prog (ing []).tab mf0 := closed_memF (X := ing tb0) bf0 ⟨rfl, rfl, rfl, rfl, rfl, rfl⟩ (fun _ h => h) mixed (hooks tb0 all0) (by kernel_rfl) run0
def tb1 : List MemF := mf0 :: tb0
theorem all1 : ∀ e, e ∈ tb1 → MemFOk Tryz.prog (ing []).tab e := fun e he => (List.mem_cons.1 he).elim (fun h => h ▸ ok0) (all0 e)
set_option maxRecDepth 100000 in
def mf1 : MemF := ⟨36, [.str ⟨#[102, 110, 32, 109, 97, 105, 110, 40, 41, 32, 123, 32, 111, 117, 116, 32, 103, 112, 105, 111, 46, 111, 117, 116, 32, 61, 32, 49, 59, 32, 125]⟩], [], .tuple [.agg [.nilslice, .nilslice, .slice 0 0 1 1 (.some 9)], .agg [.int .i64 0, .int .i64 0]], [.cells [.str ⟨#[109, 97, 105, 110]⟩, .int .i64 0, .int .i64 1, .int .i64 1, .int .i64 (-1), .int .i64 0, .nilslice, .int .i64 0, .slice 1 0 1 1 (.some 12)] 195, .cells [.int .i64 6, .int .i64 12, .int .i64 1, .str ⟨#[]⟩, .str ⟨#[]⟩, .str ⟨#[]⟩, .int .i64 0, .int .i64 0, .int .i64 0, .slice 2 0 1 1 .none, .nilslice, .nilslice] 300, .cells [.int .i64 0, .int .i64 27, .str ⟨#[]⟩, .str ⟨#[]⟩, .int .i64 1, .int .i64 0, .int .i64 0, .nilslice] 309]⟩
def bf1 : Bm := [(33, 0), (31, 0), (29, 0)]
theorem run1 : isMemF mf1 bf1 ((evD Tryz.prog (cxOf (ing tb1)) true 1000 40).1 [] mf1.f mf1.args ⟨mf1.pre, []⟩) = true := by kernel_rfl
theorem ok1 : MemFOk Tryz.prog (ing []).tab mf1 := closed_memF (X := ing tb1) bf1 ⟨rfl, rfl, rfl, rfl, rfl, rfl⟩ (fun _ h => h) mixed (hooks tb1 all1) (by kernel_rfl) run1
def tb2 : List MemF := mf1 :: tb1
theorem all2 : ∀ e, e ∈ tb2 → MemFOk Tryz.prog (ing []).tab e := fun e he => (List.mem_cons.1 he).elim (fun h => h ▸ ok1) (all1 e)
set_option maxRecDepth 100000 in
def mf2 : MemF := ⟨90, [.agg [.str ⟨#[109, 97, 105, 110]⟩, .int .i64 (-1), .int .i64 0, .int .i64 0, .int .i64 0, .nilslice, .slice 0 0 2 2 (.some 11)]], [.cells [.int .i64 3, .int .i64 1, .int .i64 (-1), .int .i64 (-1), .int .i64 0, .int .i64 0, .slice 1 0 1 1 (.some 8), .int .i64 0, .int .i64 0, .int .i64 1, .int .i64 (-1), .int .i64 10, .int .i64 1, .int .i64 (-1), .int .i64 (-1), .int .i64 0, .int .i64 0, .nilslice, .int .i64 0, .int .i64 0, .int .i64 (-1), .int .i64 (-1)] 212, .cells [.int .i64 0, .int .i64 27, .str ⟨#[]⟩, .str ⟨#[]⟩, .int .i64 1, .int .i64 2, .int .i64 0, .nilslice] 309], .agg [.str ⟨#[109, 97, 105, 110]⟩, .int .i64 (-1), .int .i64 0, .int .i64 0, .int .i64 0, .nilslice, .slice 0 0 2 2 (.some 11), .slice 2 0 6 6 (.some 9), .slice 3 0 2 2 .none, .int .i64 1, .int .i64 0], [.cells [.int .i64 3, .int .i64 1, .int .i64 (-1), .int .i64 (-1), .int .i64 0, .int .i64 0, .slice 1 0 1 1 (.some 8), .int .i64 0, .int .i64 0, .int .i64 1, .int .i64 (-1), .int .i64 10, .int .i64 1, .int .i64 (-1), .int .i64 (-1), .int .i64 0, .int .i64 0, .nilslice, .int .i64 0, .int .i64 0, .int .i64 (-1), .int .i64 (-1)] 212, .cells [.int .i64 0, .int .i64 27, .str ⟨#[]⟩, .str ⟨#[]⟩, .int .i64 1, .int .i64 2, .int .i64 0, .nilslice] 309, .cells [.int .i64 0, .int .i64 0, .int .i64 0, .int .i64 0, .int .i64 0, .int .i64 0, .int .i64 0, .int .i64 0, .int .i64 0, .int .i64 1, .int .i64 0, .int .i64 0, .int .i64 0, .int .i64 0, .int .i64 0, .int .i64 1, .int .i64 0, .int .i64 0, .int .i64 10, .int .i64 0, .int .i64 0, .int .i64 0, .int .i64 0, .int .i64 0, .int .i64 0, .int .i64 0, .int .i64 0, .int .i64 0, .int .i64 0, .int .i64 0, .int .i64 0, .int .i64 0, .int .i64 0, .int .i64 1, .int .i64 0, .int .i64 1, .int .i64 1, .int .i64 0, .int .i64 0, .int .i64 1, .int .i64 0, .int .i64 0, .int .i64 0, .int .i64 0, .int .i64 1, .int .i64 14, .int .i64 0, .int .i64 0, .int .i64 0, .int .i64 1, .int .i64 0, .int .i64 0, .int .i64 0, .int .i64 1] 320, .cells [.bool false, .int .i64 0, .bool false, .int .i64 0] 256]⟩
def bf2 : Bm := [(0, 0), (1, 0), (29, 0), (42, 0)]
theorem run2 : isMemF mf2 bf2 ((evD Tryz.prog (cxOf (ing tb2)) true 1000 40).1 [] mf2.f mf2.args ⟨mf2.pre, []⟩) = true := by kernel_rfl
theorem ok2 : MemFOk Tryz.prog (ing []).tab mf2 := closed_memF (X := ing tb2) bf2 ⟨rfl, rfl, rfl, rfl, rfl, rfl⟩ (fun _ h => h) mixed (hooks tb2 all2) (by kernel_rfl) run2
def tb3 : List MemF := mf2 :: tb2
theorem all3 : ∀ e, e ∈ tb3 → MemFOk Tryz.prog (ing []).tab e := fun e he => (List.mem_cons.1 he).elim (fun h => h ▸ ok2) (all2 e)
end
end Go.Proofs.YtlhaklmnjdgjgacGreat.recordKnown
