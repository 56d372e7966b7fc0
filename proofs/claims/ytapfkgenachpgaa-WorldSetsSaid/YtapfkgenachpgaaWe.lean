/-
 Contracts of the world's functions: over lists of inputs.
 No conditions.
-/
import Derived.Test.YtapfkgenachpgaaWd
import Derived.WalkKit
namespace Go.Proofs.Ytapfkgenachpgaa.wc
open Go.Ev Go.RowKit Go.Wpl Go.Wt
set_option linter.unusedVariables false
set_option linter.unusedSimpArgs false
theorem tab202 (C : ByteArray) : wTab 202 [encB C] = b01 (decide ((check (decL (encB C))).2 = 0 ∧ (decL (encB C)).length ≤ 1000000)) := rfl
theorem pc202 {σ : Sig} {i N : Nat} {C : ByteArray} (ht : σ.tab = wTab) (hs : σ.sval i = C) (hC : C.data.toList.length = N * 17) (h : evalS σ (.fnb 202 [.syms i]) = some (.bool true)) : Script (lstE C N) ∧ (N : Int) ≤ 1000000 := by
 have h : (AVal.bool (!(σ.tab 202 [encB (σ.sval i)] == 0))) = .bool true := Option.some.inj h
 rw [ht, hs, tab202, b01_ne, decL_of hC] at h
 simp only [AVal.bool.injEq, decide_eq_true_eq, lstE_len] at h
 exact ⟨check_zero.1 h.1, by omega⟩
theorem tabS {σ : Sig} {l : Asg} {t : TabF} (h : σ.tab = t) : (asgS σ l).tab = t := h
theorem extS {σ : Sig} {l : Asg} {t : Nat → Option Fz} (h : σ.ext = t) : (asgS σ l).ext = t := h
theorem encX_row {σ : Sig} {a b c : Nat} {x : E3} (h1 : σ.ival a = x.t) (h2 : σ.ival b = x.k) (h3 : σ.ival c = x.v) : (⟨(rowB cl3 ([.symi .i64 a, .symi .i64 b, .symi .u8 c].map (den σ))).toArray⟩ : ByteArray) = encX x := by
 simp only [List.map, den, h1, h2, h3, encX]
end Go.Proofs.Ytapfkgenachpgaa.wc
