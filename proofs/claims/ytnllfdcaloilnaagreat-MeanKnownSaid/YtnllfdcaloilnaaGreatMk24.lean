/- Calls over literal memory of ploverlaw17.MeanKnown, reckoned in the kernel: part 24. -/
import Derived.Test.YtnllfdcaloilnaaGreatRows
import Derived.WalkKit
import Derived.ProofKit
import Derived.OpenShut
import Derived.Below
import Derived.ChangeSame
import Derived.Laws.Externs
import Derived.Laws.LoneSync
import Derived.Test.YtnllfdcaloilnaaGreatMka
import Derived.Test.YtnllfdcaloilnaaGreatMk21
import Derived.Test.YtnllfdcaloilnaaGreatMk22
import Derived.Test.YtnllfdcaloilnaaGreatMk23
namespace Go.Proofs.YtnllfdcaloilnaaGreat.meanKnown
open Go.ChangeShapes Go.WideShapes Go.ChangeAt Go.RowKit
set_option linter.unusedVariables false

section
open Go.Ev
set_option linter.unusedSimpArgs false
def ing2 (tbl : List MemF) : Ing := { m := 0, G := [], T := .e, inv := fun σ => σ.ext = fun _ => none, mh := memMf tbl (fun f => match Nat.beq f 16 with | true => [5, 5] | false => []) }
theorem hooks2 (tbl : List MemF) (h : ∀ e, e ∈ tbl → MemFOk Tryz.prog (ing []).tab e) (F : List Fact) : Hooks Tryz.prog (cxOf (ing2 tbl) F) where
  val := fun f args v h => by simp only [ing2, cxOf, noHook, reduceCtorEq] at h
  mem := fun f args hp v hp' hm => mem_memF (X := ing2 tbl) h ⟨rfl, rfl, rfl, rfl, rfl, rfl⟩ (fun _ h => h) (fun _ h => h) rfl F f args hp v hp' hm
  ovl := fun f k h => by simp only [ing2, cxOf, reduceCtorEq] at h
  atm := fun k b h => by
    simp only [ing2, cxOf, List.mem_cons, Prod.mk.injEq, List.not_mem_nil, or_false] at h
theorem batch2 (tbl : List MemF) (h : AllT tbl) (l : List (MemF × Bm)) (hb : batchB Tryz.prog (ing2 tbl) l = true) : AllT (fstsF l) := closed_batch (X := ing2 tbl) ⟨rfl, rfl, rfl, rfl, rfl, rfl⟩ (fun _ h => h) mixed (hooks2 tbl h) rfl l hb
set_option maxRecDepth 100000 in
def g134 : List (MemF × Bm) := [(⟨18, [.ptr 0 0, .int .i64 50], [h219, h173, .cells [.int .i64 1, .int .i64 0, .int .u8 1] 25, h220, .cells [] 21, h111, h169, h170, .cells [.int .i64 1, .int .i64 0, .int .u8 1] 25, .cells [] 21], .int .i64 50, [h172, h173, .cells [.int .i64 1, .int .i64 0, .int .u8 1] 25, h218, .cells [] 21, h175, h169, h170, .cells [.int .i64 1, .int .i64 0, .int .u8 1] 25, .cells [] 21]⟩, [(0, 0), (1, 0), (2, 0), (3, 0), (4, 0), (5, 0), (6, 0), (7, 0), (8, 0), (9, 0)])]
theorem k134 : AllT (fstsF g134) := batch2 (fstsF g91 ++ (fstsF g92 ++ (fstsF g93 ++ (fstsF g94 ++ (fstsF g95 ++ (fstsF g96 ++ (fstsF g97 ++ (fstsF g98 ++ (fstsF g99 ++ (fstsF g100 ++ (fstsF g101 ++ (fstsF g102 ++ (fstsF g103 ++ (fstsF g104 ++ (fstsF g105 ++ (fstsF g106 ++ (fstsF g107 ++ (fstsF g108 ++ (fstsF g109 ++ (fstsF g110 ++ (fstsF g111 ++ (fstsF g112 ++ (fstsF g113 ++ (fstsF g114 ++ (fstsF g115 ++ (fstsF g116 ++ (fstsF g117 ++ (fstsF g118 ++ (fstsF g119 ++ (fstsF g120 ++ (fstsF g121 ++ (fstsF g122 ++ (fstsF g123 ++ (fstsF g124 ++ (fstsF g125 ++ (fstsF g126 ++ (fstsF g127 ++ (fstsF g128 ++ (fstsF g129 ++ (fstsF g130 ++ (fstsF g131 ++ (fstsF g132 ++ (fstsF g133 ++ ([])))))))))))))))))))))))))))))))))))))))))))) (AllF.append k91 (AllF.append k92 (AllF.append k93 (AllF.append k94 (AllF.append k95 (AllF.append k96 (AllF.append k97 (AllF.append k98 (AllF.append k99 (AllF.append k100 (AllF.append k101 (AllF.append k102 (AllF.append k103 (AllF.append k104 (AllF.append k105 (AllF.append k106 (AllF.append k107 (AllF.append k108 (AllF.append k109 (AllF.append k110 (AllF.append k111 (AllF.append k112 (AllF.append k113 (AllF.append k114 (AllF.append k115 (AllF.append k116 (AllF.append k117 (AllF.append k118 (AllF.append k119 (AllF.append k120 (AllF.append k121 (AllF.append k122 (AllF.append k123 (AllF.append k124 (AllF.append k125 (AllF.append k126 (AllF.append k127 (AllF.append k128 (AllF.append k129 (AllF.append k130 (AllF.append k131 (AllF.append k132 (AllF.append k133 (AllF.nil)))))))))))))))))))))))))))))))))))))))))))) g134 (by kernel_rfl)
end
end Go.Proofs.YtnllfdcaloilnaaGreat.meanKnown
