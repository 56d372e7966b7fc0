/-
  The queue's functions, where the length is known: answers made of the arguments' own cells.
  No conditions.
-/
import Derived.Test.YtgifnmiggloclabChecked
import Derived.Test.YtgifnmiggloclabUcb
import Derived.Test.YtgifnmiggloclabEwZp
import Derived.ProofKit
namespace Go.Proofs.Ytgifnmiggloclab.us
open Go.RowKit Go.Ev Go.Proofs.Ytgifnmiggloclab.fc Go.Proofs.Ytgifnmiggloclab.uc
set_option linter.unusedVariables false
set_option linter.unusedSimpArgs false

/-- the cells of a queue whose length is known: those that are there -/
def upTo (k : Int) : Int → List AVal → List AVal
  | _, [] => []
  | i, a :: r => (bif decide (i < k) then a else .int .u8 0) :: upTo k (i + 1) r
def putAt (k : Int) (b : AVal) : Int → List AVal → List AVal
  | _, [] => []
  | i, a :: r => (bif decide (i = k) then b else bif decide (i < k) then a else .int .u8 0) :: putAt k b (i + 1) r
def gMend : List AVal → Option (List AVal)
  | [.int .i64 k, a0, a1, a2, a3, a4, a5, a6, a7] => bif decide (0 ≤ k) && decide (k ≤ 8) then some (.int .i64 k :: upTo k 0 [a0, a1, a2, a3, a4, a5, a6, a7]) else none
  | _ => none
def gPush : List AVal → Option (List AVal)
  | [.int .i64 k, a0, a1, a2, a3, a4, a5, a6, a7, b] => bif decide (0 ≤ k) && decide (k ≤ 8) then
      (bif decide (k = 8) then some [.int .i64 8, a0, a1, a2, a3, a4, a5, a6, a7, .bool false] else some (.int .i64 (k + 1) :: (putAt k b 0 [a0, a1, a2, a3, a4, a5, a6, a7] ++ [.bool true]))) else none
  | _ => none
def gPop : List AVal → Option (List AVal)
  | [.int .i64 k, a0, a1, a2, a3, a4, a5, a6, a7] => bif decide (0 ≤ k) && decide (k ≤ 8) then
      (bif decide (k = 0) then some [.int .u8 0, .int .i64 0, .int .u8 0, .int .u8 0, .int .u8 0, .int .u8 0, .int .u8 0, .int .u8 0, .int .u8 0, .int .u8 0, .bool false] else some (a0 :: .int .i64 (k - 1) :: (upTo k 1 [a1, a2, a3, a4, a5, a6, a7] ++ [.int .u8 0, .bool true]))) else none
  | _ => none

theorem num_bif (σ : Sig) (p : Prop) [Decidable p] (a b : AVal) : numS (den σ (bif decide p then a else b)) = if p then numS (den σ a) else numS (den σ b) := by
  by_cases h : p <;> simp [h]
theorem clamp_id {k : Int} (h0 : 0 ≤ k) (h8 : k ≤ 8) : clamp k = k := by
  unfold clamp
  split
  · omega
  · split <;> omega
theorem lit0 (σ : Sig) : numS (den σ (.int .u8 0)) = 0 := rfl

theorem gMend_ok (σ : Sig) (cs rs : List AVal) (h : gMend cs = some rs) : numsOf σ rs = mendF (numsOf σ cs) := by
  unfold gMend at h
  split at h
  · rename_i k a0 a1 a2 a3 a4 a5 a6 a7
    cases hc : (decide (0 ≤ k) && decide (k ≤ 8)) with
    | false => rw [hc] at h; cases h
    | true =>
      rw [hc] at h
      cases h
      simp only [Bool.and_eq_true, decide_eq_true_eq] at hc
      have hk := clamp_id hc.1 hc.2
      have hq : qk (numsOf σ [.int .i64 k, a0, a1, a2, a3, a4, a5, a6, a7]) = k := hk
      unfold mendF qb
      rw [hq]
      simp only [numsOf, upTo, List.map_cons, List.map_nil, num_bif, lit0]
      rfl
  · cases h

theorem mend_sym : SymOk Try.prog ⟨54, q9, q9, fun _ => gMend⟩ := ⟨mendF, fmend_contract, fun σ _ cs rs _ _ h => gMend_ok σ cs rs h⟩

theorem gPush_ok (σ : Sig) (cs rs : List AVal) (h : gPush cs = some rs) : numsOf σ rs = pushF (numsOf σ cs) := by
  unfold gPush at h
  split at h
  · rename_i k a0 a1 a2 a3 a4 a5 a6 a7 b
    cases hc : (decide (0 ≤ k) && decide (k ≤ 8)) with
    | false => rw [hc] at h; cases h
    | true =>
      rw [hc] at h
      simp only [Bool.and_eq_true, decide_eq_true_eq] at hc
      have hk := clamp_id hc.1 hc.2
      have hq : qk (numsOf σ [.int .i64 k, a0, a1, a2, a3, a4, a5, a6, a7, b]) = k := hk
      unfold pushF qp qb
      rw [hq]
      by_cases h8 : k = 8
      · subst h8
        simp only [decide_true, cond_true, Option.some.injEq] at h
        subst h
        rfl
      · simp only [h8, decide_false, cond_false, cond_true, Option.some.injEq] at h
        subst h
        rw [if_neg h8]
        simp only [numsOf, putAt, List.map_cons, List.map_nil, List.cons_append, List.nil_append, num_bif, lit0]
        rfl
  · cases h

theorem push_sym : SymOk Try.prog ⟨46, q9b, pushO, fun _ => gPush⟩ := ⟨pushF, fpush_contract, fun σ _ cs rs _ _ h => gPush_ok σ cs rs h⟩

theorem gPop_ok (σ : Sig) (cs rs : List AVal) (h : gPop cs = some rs) : numsOf σ rs = popF (numsOf σ cs) := by
  unfold gPop at h
  split at h
  · rename_i k a0 a1 a2 a3 a4 a5 a6 a7
    cases hc : (decide (0 ≤ k) && decide (k ≤ 8)) with
    | false => rw [hc] at h; cases h
    | true =>
      rw [hc] at h
      simp only [Bool.and_eq_true, decide_eq_true_eq] at hc
      have hk := clamp_id hc.1 hc.2
      have hq : qk (numsOf σ [.int .i64 k, a0, a1, a2, a3, a4, a5, a6, a7]) = k := hk
      unfold popF qb
      rw [hq]
      by_cases h8 : k = 0
      · subst h8
        simp only [decide_true, cond_true, Option.some.injEq] at h
        subst h
        rfl
      · simp only [h8, decide_false, cond_false, cond_true, Option.some.injEq] at h
        subst h
        rw [if_neg h8, if_pos (show ((0 : Nat) : Int) < k by omega)]
        simp only [numsOf, upTo, List.map_cons, List.map_nil, List.cons_append, List.nil_append, num_bif, lit0]
        rfl
  · cases h

theorem pop_sym : SymOk Try.prog ⟨50, q9, popO, fun _ => gPop⟩ := ⟨popF, fpop_contract, fun σ _ cs rs _ _ h => gPop_ok σ cs rs h⟩

/-! ### uart.Mend -/

set_option maxRecDepth 100000 in
def umendG : List SDef := [.fn 0 .i64 [.symi .i64 0, .symi .u8 1, .symi .u8 2, .symi .u8 3, .symi .u8 4, .symi .u8 5, .symi .u8 6, .symi .u8 7, .symi .u8 8],
  .fn 1 .u8 [.symi .i64 0, .symi .u8 1, .symi .u8 2, .symi .u8 3, .symi .u8 4, .symi .u8 5, .symi .u8 6, .symi .u8 7, .symi .u8 8],
  .fn 2 .u8 [.symi .i64 0, .symi .u8 1, .symi .u8 2, .symi .u8 3, .symi .u8 4, .symi .u8 5, .symi .u8 6, .symi .u8 7, .symi .u8 8],
  .fn 3 .u8 [.symi .i64 0, .symi .u8 1, .symi .u8 2, .symi .u8 3, .symi .u8 4, .symi .u8 5, .symi .u8 6, .symi .u8 7, .symi .u8 8],
  .fn 4 .u8 [.symi .i64 0, .symi .u8 1, .symi .u8 2, .symi .u8 3, .symi .u8 4, .symi .u8 5, .symi .u8 6, .symi .u8 7, .symi .u8 8],
  .fn 5 .u8 [.symi .i64 0, .symi .u8 1, .symi .u8 2, .symi .u8 3, .symi .u8 4, .symi .u8 5, .symi .u8 6, .symi .u8 7, .symi .u8 8],
  .fn 6 .u8 [.symi .i64 0, .symi .u8 1, .symi .u8 2, .symi .u8 3, .symi .u8 4, .symi .u8 5, .symi .u8 6, .symi .u8 7, .symi .u8 8],
  .fn 7 .u8 [.symi .i64 0, .symi .u8 1, .symi .u8 2, .symi .u8 3, .symi .u8 4, .symi .u8 5, .symi .u8 6, .symi .u8 7, .symi .u8 8],
  .fn 8 .u8 [.symi .i64 0, .symi .u8 1, .symi .u8 2, .symi .u8 3, .symi .u8 4, .symi .u8 5, .symi .u8 6, .symi .u8 7, .symi .u8 8],
  .fn 0 .i64 [.symi .i64 9, .symi .u8 10, .symi .u8 11, .symi .u8 12, .symi .u8 13, .symi .u8 14, .symi .u8 15, .symi .u8 16, .symi .u8 17],
  .fn 1 .u8 [.symi .i64 9, .symi .u8 10, .symi .u8 11, .symi .u8 12, .symi .u8 13, .symi .u8 14, .symi .u8 15, .symi .u8 16, .symi .u8 17],
  .fn 2 .u8 [.symi .i64 9, .symi .u8 10, .symi .u8 11, .symi .u8 12, .symi .u8 13, .symi .u8 14, .symi .u8 15, .symi .u8 16, .symi .u8 17],
  .fn 3 .u8 [.symi .i64 9, .symi .u8 10, .symi .u8 11, .symi .u8 12, .symi .u8 13, .symi .u8 14, .symi .u8 15, .symi .u8 16, .symi .u8 17],
  .fn 4 .u8 [.symi .i64 9, .symi .u8 10, .symi .u8 11, .symi .u8 12, .symi .u8 13, .symi .u8 14, .symi .u8 15, .symi .u8 16, .symi .u8 17],
  .fn 5 .u8 [.symi .i64 9, .symi .u8 10, .symi .u8 11, .symi .u8 12, .symi .u8 13, .symi .u8 14, .symi .u8 15, .symi .u8 16, .symi .u8 17],
  .fn 6 .u8 [.symi .i64 9, .symi .u8 10, .symi .u8 11, .symi .u8 12, .symi .u8 13, .symi .u8 14, .symi .u8 15, .symi .u8 16, .symi .u8 17],
  .fn 7 .u8 [.symi .i64 9, .symi .u8 10, .symi .u8 11, .symi .u8 12, .symi .u8 13, .symi .u8 14, .symi .u8 15, .symi .u8 16, .symi .u8 17],
  .fn 8 .u8 [.symi .i64 9, .symi .u8 10, .symi .u8 11, .symi .u8 12, .symi .u8 13, .symi .u8 14, .symi .u8 15, .symi .u8 16, .symi .u8 17],
  .bin .eql (.symi .i64 30) (.int .i64 0),
  .bin .geq (.symi .u8 20) (.int .u8 4),
  .ite (.symb 40) (.int .u8 0) (.symi .u8 20),
  .ite (.symb 39) (.int .u8 0) (.symi .u8 41)]

set_option maxRecDepth 100000 in
def umendT : LT := .n (.n (.n (.n (.n (.e) 375727183 30 (.fn 0 .i64 [.symi .i64 9, .symi .u8 10, .symi .u8 11, .symi .u8 12, .symi .u8 13, .symi .u8 14, .symi .u8 15, .symi .u8 16, .symi .u8 17]) (.e)) 375727226 31 (.fn 1 .u8 [.symi .i64 9, .symi .u8 10, .symi .u8 11, .symi .u8 12, .symi .u8 13, .symi .u8 14, .symi .u8 15, .symi .u8 16, .symi .u8 17]) (.e)) 375727269 32 (.fn 2 .u8 [.symi .i64 9, .symi .u8 10, .symi .u8 11, .symi .u8 12, .symi .u8 13, .symi .u8 14, .symi .u8 15, .symi .u8 16, .symi .u8 17]) (.n (.n (.e) 375727312 33 (.fn 3 .u8 [.symi .i64 9, .symi .u8 10, .symi .u8 11, .symi .u8 12, .symi .u8 13, .symi .u8 14, .symi .u8 15, .symi .u8 16, .symi .u8 17]) (.e)) 375727355 34 (.fn 4 .u8 [.symi .i64 9, .symi .u8 10, .symi .u8 11, .symi .u8 12, .symi .u8 13, .symi .u8 14, .symi .u8 15, .symi .u8 16, .symi .u8 17]) (.e))) 375727398 35 (.fn 5 .u8 [.symi .i64 9, .symi .u8 10, .symi .u8 11, .symi .u8 12, .symi .u8 13, .symi .u8 14, .symi .u8 15, .symi .u8 16, .symi .u8 17]) (.n (.n (.n (.e) 375727441 36 (.fn 6 .u8 [.symi .i64 9, .symi .u8 10, .symi .u8 11, .symi .u8 12, .symi .u8 13, .symi .u8 14, .symi .u8 15, .symi .u8 16, .symi .u8 17]) (.e)) 375727484 37 (.fn 7 .u8 [.symi .i64 9, .symi .u8 10, .symi .u8 11, .symi .u8 12, .symi .u8 13, .symi .u8 14, .symi .u8 15, .symi .u8 16, .symi .u8 17]) (.e)) 375727527 38 (.fn 8 .u8 [.symi .i64 9, .symi .u8 10, .symi .u8 11, .symi .u8 12, .symi .u8 13, .symi .u8 14, .symi .u8 15, .symi .u8 16, .symi .u8 17]) (.n (.n (.e) 485560756 21 (.fn 0 .i64 [.symi .i64 0, .symi .u8 1, .symi .u8 2, .symi .u8 3, .symi .u8 4, .symi .u8 5, .symi .u8 6, .symi .u8 7, .symi .u8 8]) (.e)) 485560799 22 (.fn 1 .u8 [.symi .i64 0, .symi .u8 1, .symi .u8 2, .symi .u8 3, .symi .u8 4, .symi .u8 5, .symi .u8 6, .symi .u8 7, .symi .u8 8]) (.e)))) 485560842 23 (.fn 2 .u8 [.symi .i64 0, .symi .u8 1, .symi .u8 2, .symi .u8 3, .symi .u8 4, .symi .u8 5, .symi .u8 6, .symi .u8 7, .symi .u8 8]) (.n (.n (.n (.n (.e) 485560885 24 (.fn 3 .u8 [.symi .i64 0, .symi .u8 1, .symi .u8 2, .symi .u8 3, .symi .u8 4, .symi .u8 5, .symi .u8 6, .symi .u8 7, .symi .u8 8]) (.e)) 485560928 25 (.fn 4 .u8 [.symi .i64 0, .symi .u8 1, .symi .u8 2, .symi .u8 3, .symi .u8 4, .symi .u8 5, .symi .u8 6, .symi .u8 7, .symi .u8 8]) (.e)) 485560971 26 (.fn 5 .u8 [.symi .i64 0, .symi .u8 1, .symi .u8 2, .symi .u8 3, .symi .u8 4, .symi .u8 5, .symi .u8 6, .symi .u8 7, .symi .u8 8]) (.n (.n (.e) 485561014 27 (.fn 6 .u8 [.symi .i64 0, .symi .u8 1, .symi .u8 2, .symi .u8 3, .symi .u8 4, .symi .u8 5, .symi .u8 6, .symi .u8 7, .symi .u8 8]) (.e)) 485561057 28 (.fn 7 .u8 [.symi .i64 0, .symi .u8 1, .symi .u8 2, .symi .u8 3, .symi .u8 4, .symi .u8 5, .symi .u8 6, .symi .u8 7, .symi .u8 8]) (.e))) 485561100 29 (.fn 8 .u8 [.symi .i64 0, .symi .u8 1, .symi .u8 2, .symi .u8 3, .symi .u8 4, .symi .u8 5, .symi .u8 6, .symi .u8 7, .symi .u8 8]) (.n (.n (.n (.e) 874780832 42 (.ite (.symb 39) (.int .u8 0) (.symi .u8 41)) (.e)) 882535830 39 (.bin .eql (.symi .i64 30) (.int .i64 0)) (.e)) 946474802 40 (.bin .geq (.symi .u8 20) (.int .u8 4)) (.n (.e) 1064001387 41 (.ite (.symb 40) (.int .u8 0) (.symi .u8 20)) (.e))))

def umendX : Ing := { m := 21, ins := (cellsOf [u21]).map kindC, G := umendG, T := umendT, hook := tblHook (tabOf ucFs) ucTbl, tab := tabOf ucFs }
def umendA : List AVal := [.symi .i64 21, .symi .u8 22, .symi .u8 23, .symi .u8 24, .symi .u8 25, .symi .u8 26, .symi .u8 27, .symi .u8 28, .symi .u8 29, .symi .i64 30, .symi .u8 31, .symi .u8 32, .symi .u8 33, .symi .u8 34, .symi .u8 35, .symi .u8 36, .symi .u8 37, .symi .u8 38, .symb 18, .symi .u8 19, .symi .u8 42]
def umendF : List Int → List Int := dagF (tabOf ucFs) 21 umendG umendA
theorem umend_ok : okG umendG 21 = true := by kernel_rfl
theorem umend_lt : okLT 21 umendG umendT = true := by kernel_rfl
theorem umend_run : okW (fun F => (evD Try.prog (cxOf umendX) true 1000 40).1 F 25 (symSh [u21] 0) ⟨[], []⟩) (.run (.leaf (.agg [.symi .i64 21, .symi .u8 22, .symi .u8 23, .symi .u8 24, .symi .u8 25, .symi .u8 26, .symi .u8 27, .symi .u8 28, .symi .u8 29, .symi .i64 30, .symi .u8 31, .symi .u8 32, .symi .u8 33, .symi .u8 34, .symi .u8 35, .symi .u8 36, .symi .u8 37, .symi .u8 38, .symb 18, .symi .u8 19, .symi .u8 42]))) [] = true := by kernel_rfl
set_option maxRecDepth 100000 in
theorem umend_contract : FnOk Try.prog 25 [u21] [u21] umendF :=
  dag_contract (X := umendX) (cs := umendA) (cs1 := umendA) 12 mixed ⟨rfl, rfl, rfl, rfl, rfl⟩ umend_ok umend_lt (fun F => tbl_hooks umend_lt rfl rfl uc_all F) umend_run (by kernel_rfl) (by kernel_rfl) (fun σ _ _ _ => rfl)
set_option maxRecDepth 100000 in
theorem umend_nums (σ : Sig) (e : Eqs σ 21 umendG) (ht : σ.tab = tabOf ucFs) (hin : InsOk σ 21 ((cellsOf [u21]).map kindC)) : numsOf σ umendA = [qk [σ.ival 0, σ.ival 1, σ.ival 2, σ.ival 3, σ.ival 4, σ.ival 5, σ.ival 6, σ.ival 7, σ.ival 8], qb [σ.ival 0, σ.ival 1, σ.ival 2, σ.ival 3, σ.ival 4, σ.ival 5, σ.ival 6, σ.ival 7, σ.ival 8] 0, qb [σ.ival 0, σ.ival 1, σ.ival 2, σ.ival 3, σ.ival 4, σ.ival 5, σ.ival 6, σ.ival 7, σ.ival 8] 1, qb [σ.ival 0, σ.ival 1, σ.ival 2, σ.ival 3, σ.ival 4, σ.ival 5, σ.ival 6, σ.ival 7, σ.ival 8] 2, qb [σ.ival 0, σ.ival 1, σ.ival 2, σ.ival 3, σ.ival 4, σ.ival 5, σ.ival 6, σ.ival 7, σ.ival 8] 3, qb [σ.ival 0, σ.ival 1, σ.ival 2, σ.ival 3, σ.ival 4, σ.ival 5, σ.ival 6, σ.ival 7, σ.ival 8] 4, qb [σ.ival 0, σ.ival 1, σ.ival 2, σ.ival 3, σ.ival 4, σ.ival 5, σ.ival 6, σ.ival 7, σ.ival 8] 5, qb [σ.ival 0, σ.ival 1, σ.ival 2, σ.ival 3, σ.ival 4, σ.ival 5, σ.ival 6, σ.ival 7, σ.ival 8] 6, qb [σ.ival 0, σ.ival 1, σ.ival 2, σ.ival 3, σ.ival 4, σ.ival 5, σ.ival 6, σ.ival 7, σ.ival 8] 7, qk [σ.ival 9, σ.ival 10, σ.ival 11, σ.ival 12, σ.ival 13, σ.ival 14, σ.ival 15, σ.ival 16, σ.ival 17], qb [σ.ival 9, σ.ival 10, σ.ival 11, σ.ival 12, σ.ival 13, σ.ival 14, σ.ival 15, σ.ival 16, σ.ival 17] 0, qb [σ.ival 9, σ.ival 10, σ.ival 11, σ.ival 12, σ.ival 13, σ.ival 14, σ.ival 15, σ.ival 16, σ.ival 17] 1, qb [σ.ival 9, σ.ival 10, σ.ival 11, σ.ival 12, σ.ival 13, σ.ival 14, σ.ival 15, σ.ival 16, σ.ival 17] 2, qb [σ.ival 9, σ.ival 10, σ.ival 11, σ.ival 12, σ.ival 13, σ.ival 14, σ.ival 15, σ.ival 16, σ.ival 17] 3, qb [σ.ival 9, σ.ival 10, σ.ival 11, σ.ival 12, σ.ival 13, σ.ival 14, σ.ival 15, σ.ival 16, σ.ival 17] 4, qb [σ.ival 9, σ.ival 10, σ.ival 11, σ.ival 12, σ.ival 13, σ.ival 14, σ.ival 15, σ.ival 16, σ.ival 17] 5, qb [σ.ival 9, σ.ival 10, σ.ival 11, σ.ival 12, σ.ival 13, σ.ival 14, σ.ival 15, σ.ival 16, σ.ival 17] 6, qb [σ.ival 9, σ.ival 10, σ.ival 11, σ.ival 12, σ.ival 13, σ.ival 14, σ.ival 15, σ.ival 16, σ.ival 17] 7, (if σ.bval 18 then 1 else 0), σ.ival 19, (if qk [σ.ival 9, σ.ival 10, σ.ival 11, σ.ival 12, σ.ival 13, σ.ival 14, σ.ival 15, σ.ival 16, σ.ival 17] = 0 then 0 else if 4 ≤ σ.ival 20 then 0 else σ.ival 20)] := by
  have e21 : σ.ival 21 = IntKind.i64.wrap (σ.tab 0 [σ.ival 0, σ.ival 1, σ.ival 2, σ.ival 3, σ.ival 4, σ.ival 5, σ.ival 6, σ.ival 7, σ.ival 8]) := eqI (e.at 0 _ rfl rfl) rfl
  have e22 : σ.ival 22 = IntKind.u8.wrap (σ.tab 1 [σ.ival 0, σ.ival 1, σ.ival 2, σ.ival 3, σ.ival 4, σ.ival 5, σ.ival 6, σ.ival 7, σ.ival 8]) := eqI (e.at 1 _ rfl rfl) rfl
  have e23 : σ.ival 23 = IntKind.u8.wrap (σ.tab 2 [σ.ival 0, σ.ival 1, σ.ival 2, σ.ival 3, σ.ival 4, σ.ival 5, σ.ival 6, σ.ival 7, σ.ival 8]) := eqI (e.at 2 _ rfl rfl) rfl
  have e24 : σ.ival 24 = IntKind.u8.wrap (σ.tab 3 [σ.ival 0, σ.ival 1, σ.ival 2, σ.ival 3, σ.ival 4, σ.ival 5, σ.ival 6, σ.ival 7, σ.ival 8]) := eqI (e.at 3 _ rfl rfl) rfl
  have e25 : σ.ival 25 = IntKind.u8.wrap (σ.tab 4 [σ.ival 0, σ.ival 1, σ.ival 2, σ.ival 3, σ.ival 4, σ.ival 5, σ.ival 6, σ.ival 7, σ.ival 8]) := eqI (e.at 4 _ rfl rfl) rfl
  have e26 : σ.ival 26 = IntKind.u8.wrap (σ.tab 5 [σ.ival 0, σ.ival 1, σ.ival 2, σ.ival 3, σ.ival 4, σ.ival 5, σ.ival 6, σ.ival 7, σ.ival 8]) := eqI (e.at 5 _ rfl rfl) rfl
  have e27 : σ.ival 27 = IntKind.u8.wrap (σ.tab 6 [σ.ival 0, σ.ival 1, σ.ival 2, σ.ival 3, σ.ival 4, σ.ival 5, σ.ival 6, σ.ival 7, σ.ival 8]) := eqI (e.at 6 _ rfl rfl) rfl
  have e28 : σ.ival 28 = IntKind.u8.wrap (σ.tab 7 [σ.ival 0, σ.ival 1, σ.ival 2, σ.ival 3, σ.ival 4, σ.ival 5, σ.ival 6, σ.ival 7, σ.ival 8]) := eqI (e.at 7 _ rfl rfl) rfl
  have e29 : σ.ival 29 = IntKind.u8.wrap (σ.tab 8 [σ.ival 0, σ.ival 1, σ.ival 2, σ.ival 3, σ.ival 4, σ.ival 5, σ.ival 6, σ.ival 7, σ.ival 8]) := eqI (e.at 8 _ rfl rfl) rfl
  have e30 : σ.ival 30 = IntKind.i64.wrap (σ.tab 0 [σ.ival 9, σ.ival 10, σ.ival 11, σ.ival 12, σ.ival 13, σ.ival 14, σ.ival 15, σ.ival 16, σ.ival 17]) := eqI (e.at 9 _ rfl rfl) rfl
  have e31 : σ.ival 31 = IntKind.u8.wrap (σ.tab 1 [σ.ival 9, σ.ival 10, σ.ival 11, σ.ival 12, σ.ival 13, σ.ival 14, σ.ival 15, σ.ival 16, σ.ival 17]) := eqI (e.at 10 _ rfl rfl) rfl
  have e32 : σ.ival 32 = IntKind.u8.wrap (σ.tab 2 [σ.ival 9, σ.ival 10, σ.ival 11, σ.ival 12, σ.ival 13, σ.ival 14, σ.ival 15, σ.ival 16, σ.ival 17]) := eqI (e.at 11 _ rfl rfl) rfl
  have e33 : σ.ival 33 = IntKind.u8.wrap (σ.tab 3 [σ.ival 9, σ.ival 10, σ.ival 11, σ.ival 12, σ.ival 13, σ.ival 14, σ.ival 15, σ.ival 16, σ.ival 17]) := eqI (e.at 12 _ rfl rfl) rfl
  have e34 : σ.ival 34 = IntKind.u8.wrap (σ.tab 4 [σ.ival 9, σ.ival 10, σ.ival 11, σ.ival 12, σ.ival 13, σ.ival 14, σ.ival 15, σ.ival 16, σ.ival 17]) := eqI (e.at 13 _ rfl rfl) rfl
  have e35 : σ.ival 35 = IntKind.u8.wrap (σ.tab 5 [σ.ival 9, σ.ival 10, σ.ival 11, σ.ival 12, σ.ival 13, σ.ival 14, σ.ival 15, σ.ival 16, σ.ival 17]) := eqI (e.at 14 _ rfl rfl) rfl
  have e36 : σ.ival 36 = IntKind.u8.wrap (σ.tab 6 [σ.ival 9, σ.ival 10, σ.ival 11, σ.ival 12, σ.ival 13, σ.ival 14, σ.ival 15, σ.ival 16, σ.ival 17]) := eqI (e.at 15 _ rfl rfl) rfl
  have e37 : σ.ival 37 = IntKind.u8.wrap (σ.tab 7 [σ.ival 9, σ.ival 10, σ.ival 11, σ.ival 12, σ.ival 13, σ.ival 14, σ.ival 15, σ.ival 16, σ.ival 17]) := eqI (e.at 16 _ rfl rfl) rfl
  have e38 : σ.ival 38 = IntKind.u8.wrap (σ.tab 8 [σ.ival 9, σ.ival 10, σ.ival 11, σ.ival 12, σ.ival 13, σ.ival 14, σ.ival 15, σ.ival 16, σ.ival 17]) := eqI (e.at 17 _ rfl rfl) rfl
  have e39 : σ.bval 39 = (σ.ival 30 == 0) := eqB (e.at 18 _ rfl rfl) rfl
  have e40 : σ.bval 40 = decide (σ.ival 20 ≥ 4) := eqB (e.at 19 _ rfl rfl) rfl
  have e41 : σ.ival 41 = (bif σ.bval 40 then 0 else σ.ival 20) := eqIteI (e.at 20 _ rfl rfl) rfl rfl rfl
  have e42 : σ.ival 42 = (bif σ.bval 39 then 0 else σ.ival 41) := eqIteI (e.at 21 _ rfl rfl) rfl rfl rfl
  have w1 : IntKind.u8.wrap (σ.ival 1) = σ.ival 1 := hin 1 .u8 (by decide) rfl
  have w2 : IntKind.u8.wrap (σ.ival 2) = σ.ival 2 := hin 2 .u8 (by decide) rfl
  have w3 : IntKind.u8.wrap (σ.ival 3) = σ.ival 3 := hin 3 .u8 (by decide) rfl
  have w4 : IntKind.u8.wrap (σ.ival 4) = σ.ival 4 := hin 4 .u8 (by decide) rfl
  have w5 : IntKind.u8.wrap (σ.ival 5) = σ.ival 5 := hin 5 .u8 (by decide) rfl
  have w6 : IntKind.u8.wrap (σ.ival 6) = σ.ival 6 := hin 6 .u8 (by decide) rfl
  have w7 : IntKind.u8.wrap (σ.ival 7) = σ.ival 7 := hin 7 .u8 (by decide) rfl
  have w8 : IntKind.u8.wrap (σ.ival 8) = σ.ival 8 := hin 8 .u8 (by decide) rfl
  have w10 : IntKind.u8.wrap (σ.ival 10) = σ.ival 10 := hin 10 .u8 (by decide) rfl
  have w11 : IntKind.u8.wrap (σ.ival 11) = σ.ival 11 := hin 11 .u8 (by decide) rfl
  have w12 : IntKind.u8.wrap (σ.ival 12) = σ.ival 12 := hin 12 .u8 (by decide) rfl
  have w13 : IntKind.u8.wrap (σ.ival 13) = σ.ival 13 := hin 13 .u8 (by decide) rfl
  have w14 : IntKind.u8.wrap (σ.ival 14) = σ.ival 14 := hin 14 .u8 (by decide) rfl
  have w15 : IntKind.u8.wrap (σ.ival 15) = σ.ival 15 := hin 15 .u8 (by decide) rfl
  have w16 : IntKind.u8.wrap (σ.ival 16) = σ.ival 16 := hin 16 .u8 (by decide) rfl
  have w17 : IntKind.u8.wrap (σ.ival 17) = σ.ival 17 := hin 17 .u8 (by decide) rfl
  have m21 : σ.ival 21 = qk [σ.ival 0, σ.ival 1, σ.ival 2, σ.ival 3, σ.ival 4, σ.ival 5, σ.ival 6, σ.ival 7, σ.ival 8] := by rw [e21, ht]; exact qk_w [σ.ival 0, σ.ival 1, σ.ival 2, σ.ival 3, σ.ival 4, σ.ival 5, σ.ival 6, σ.ival 7, σ.ival 8]
  have m22 : σ.ival 22 = qb [σ.ival 0, σ.ival 1, σ.ival 2, σ.ival 3, σ.ival 4, σ.ival 5, σ.ival 6, σ.ival 7, σ.ival 8] 0 := by rw [e22, ht]; exact qb_w (l := [σ.ival 0, σ.ival 1, σ.ival 2, σ.ival 3, σ.ival 4, σ.ival 5, σ.ival 6, σ.ival 7, σ.ival 8]) 0 w1
  have m23 : σ.ival 23 = qb [σ.ival 0, σ.ival 1, σ.ival 2, σ.ival 3, σ.ival 4, σ.ival 5, σ.ival 6, σ.ival 7, σ.ival 8] 1 := by rw [e23, ht]; exact qb_w (l := [σ.ival 0, σ.ival 1, σ.ival 2, σ.ival 3, σ.ival 4, σ.ival 5, σ.ival 6, σ.ival 7, σ.ival 8]) 1 w2
  have m24 : σ.ival 24 = qb [σ.ival 0, σ.ival 1, σ.ival 2, σ.ival 3, σ.ival 4, σ.ival 5, σ.ival 6, σ.ival 7, σ.ival 8] 2 := by rw [e24, ht]; exact qb_w (l := [σ.ival 0, σ.ival 1, σ.ival 2, σ.ival 3, σ.ival 4, σ.ival 5, σ.ival 6, σ.ival 7, σ.ival 8]) 2 w3
  have m25 : σ.ival 25 = qb [σ.ival 0, σ.ival 1, σ.ival 2, σ.ival 3, σ.ival 4, σ.ival 5, σ.ival 6, σ.ival 7, σ.ival 8] 3 := by rw [e25, ht]; exact qb_w (l := [σ.ival 0, σ.ival 1, σ.ival 2, σ.ival 3, σ.ival 4, σ.ival 5, σ.ival 6, σ.ival 7, σ.ival 8]) 3 w4
  have m26 : σ.ival 26 = qb [σ.ival 0, σ.ival 1, σ.ival 2, σ.ival 3, σ.ival 4, σ.ival 5, σ.ival 6, σ.ival 7, σ.ival 8] 4 := by rw [e26, ht]; exact qb_w (l := [σ.ival 0, σ.ival 1, σ.ival 2, σ.ival 3, σ.ival 4, σ.ival 5, σ.ival 6, σ.ival 7, σ.ival 8]) 4 w5
  have m27 : σ.ival 27 = qb [σ.ival 0, σ.ival 1, σ.ival 2, σ.ival 3, σ.ival 4, σ.ival 5, σ.ival 6, σ.ival 7, σ.ival 8] 5 := by rw [e27, ht]; exact qb_w (l := [σ.ival 0, σ.ival 1, σ.ival 2, σ.ival 3, σ.ival 4, σ.ival 5, σ.ival 6, σ.ival 7, σ.ival 8]) 5 w6
  have m28 : σ.ival 28 = qb [σ.ival 0, σ.ival 1, σ.ival 2, σ.ival 3, σ.ival 4, σ.ival 5, σ.ival 6, σ.ival 7, σ.ival 8] 6 := by rw [e28, ht]; exact qb_w (l := [σ.ival 0, σ.ival 1, σ.ival 2, σ.ival 3, σ.ival 4, σ.ival 5, σ.ival 6, σ.ival 7, σ.ival 8]) 6 w7
  have m29 : σ.ival 29 = qb [σ.ival 0, σ.ival 1, σ.ival 2, σ.ival 3, σ.ival 4, σ.ival 5, σ.ival 6, σ.ival 7, σ.ival 8] 7 := by rw [e29, ht]; exact qb_w (l := [σ.ival 0, σ.ival 1, σ.ival 2, σ.ival 3, σ.ival 4, σ.ival 5, σ.ival 6, σ.ival 7, σ.ival 8]) 7 w8
  have m30 : σ.ival 30 = qk [σ.ival 9, σ.ival 10, σ.ival 11, σ.ival 12, σ.ival 13, σ.ival 14, σ.ival 15, σ.ival 16, σ.ival 17] := by rw [e30, ht]; exact qk_w [σ.ival 9, σ.ival 10, σ.ival 11, σ.ival 12, σ.ival 13, σ.ival 14, σ.ival 15, σ.ival 16, σ.ival 17]
  have m31 : σ.ival 31 = qb [σ.ival 9, σ.ival 10, σ.ival 11, σ.ival 12, σ.ival 13, σ.ival 14, σ.ival 15, σ.ival 16, σ.ival 17] 0 := by rw [e31, ht]; exact qb_w (l := [σ.ival 9, σ.ival 10, σ.ival 11, σ.ival 12, σ.ival 13, σ.ival 14, σ.ival 15, σ.ival 16, σ.ival 17]) 0 w10
  have m32 : σ.ival 32 = qb [σ.ival 9, σ.ival 10, σ.ival 11, σ.ival 12, σ.ival 13, σ.ival 14, σ.ival 15, σ.ival 16, σ.ival 17] 1 := by rw [e32, ht]; exact qb_w (l := [σ.ival 9, σ.ival 10, σ.ival 11, σ.ival 12, σ.ival 13, σ.ival 14, σ.ival 15, σ.ival 16, σ.ival 17]) 1 w11
  have m33 : σ.ival 33 = qb [σ.ival 9, σ.ival 10, σ.ival 11, σ.ival 12, σ.ival 13, σ.ival 14, σ.ival 15, σ.ival 16, σ.ival 17] 2 := by rw [e33, ht]; exact qb_w (l := [σ.ival 9, σ.ival 10, σ.ival 11, σ.ival 12, σ.ival 13, σ.ival 14, σ.ival 15, σ.ival 16, σ.ival 17]) 2 w12
  have m34 : σ.ival 34 = qb [σ.ival 9, σ.ival 10, σ.ival 11, σ.ival 12, σ.ival 13, σ.ival 14, σ.ival 15, σ.ival 16, σ.ival 17] 3 := by rw [e34, ht]; exact qb_w (l := [σ.ival 9, σ.ival 10, σ.ival 11, σ.ival 12, σ.ival 13, σ.ival 14, σ.ival 15, σ.ival 16, σ.ival 17]) 3 w13
  have m35 : σ.ival 35 = qb [σ.ival 9, σ.ival 10, σ.ival 11, σ.ival 12, σ.ival 13, σ.ival 14, σ.ival 15, σ.ival 16, σ.ival 17] 4 := by rw [e35, ht]; exact qb_w (l := [σ.ival 9, σ.ival 10, σ.ival 11, σ.ival 12, σ.ival 13, σ.ival 14, σ.ival 15, σ.ival 16, σ.ival 17]) 4 w14
  have m36 : σ.ival 36 = qb [σ.ival 9, σ.ival 10, σ.ival 11, σ.ival 12, σ.ival 13, σ.ival 14, σ.ival 15, σ.ival 16, σ.ival 17] 5 := by rw [e36, ht]; exact qb_w (l := [σ.ival 9, σ.ival 10, σ.ival 11, σ.ival 12, σ.ival 13, σ.ival 14, σ.ival 15, σ.ival 16, σ.ival 17]) 5 w15
  have m37 : σ.ival 37 = qb [σ.ival 9, σ.ival 10, σ.ival 11, σ.ival 12, σ.ival 13, σ.ival 14, σ.ival 15, σ.ival 16, σ.ival 17] 6 := by rw [e37, ht]; exact qb_w (l := [σ.ival 9, σ.ival 10, σ.ival 11, σ.ival 12, σ.ival 13, σ.ival 14, σ.ival 15, σ.ival 16, σ.ival 17]) 6 w16
  have m38 : σ.ival 38 = qb [σ.ival 9, σ.ival 10, σ.ival 11, σ.ival 12, σ.ival 13, σ.ival 14, σ.ival 15, σ.ival 16, σ.ival 17] 7 := by rw [e38, ht]; exact qb_w (l := [σ.ival 9, σ.ival 10, σ.ival 11, σ.ival 12, σ.ival 13, σ.ival 14, σ.ival 15, σ.ival 16, σ.ival 17]) 7 w17
  have c42 : σ.ival 42 = (if qk [σ.ival 9, σ.ival 10, σ.ival 11, σ.ival 12, σ.ival 13, σ.ival 14, σ.ival 15, σ.ival 16, σ.ival 17] = 0 then 0 else if 4 ≤ σ.ival 20 then 0 else σ.ival 20) := by
    rw [e42, e41, e40, e39, m30]
    generalize qk [σ.ival 9, σ.ival 10, σ.ival 11, σ.ival 12, σ.ival 13, σ.ival 14, σ.ival 15, σ.ival 16, σ.ival 17] = z
    generalize σ.ival 20 = y
    by_cases h1 : z = 0
    · rw [if_pos h1, h1]; rfl
    · rw [if_neg h1, beq_eq_false_iff_ne.2 h1]
      by_cases h2 : 4 ≤ y
      · rw [if_pos h2, decide_eq_true (show y ≥ 4 from h2)]; rfl
      · rw [if_neg h2, decide_eq_false (show ¬ y ≥ 4 from h2)]; rfl
  unfold numsOf umendA
  simp only [List.map_cons, List.map_nil, den, numS, m21, m22, m23, m24, m25, m26, m27, m28, m29, m30, m31, m32, m33, m34, m35, m36, m37, m38, c42]
def cntOf (look : SDef → Option AVal) (m : Int) (c : AVal) : Option AVal :=
  bif decide (m = 0) then some (.int .u8 0) else match c with
    | .int _ n => some (.int .u8 (bif decide (4 ≤ n) then 0 else n))
    | _ => match look (.bin .geq c (.int .u8 4)) with
      | some (.bool b) => some (bif b then .int .u8 0 else c)
      | _ => none
def gUMend (look : SDef → Option AVal) : List AVal → Option (List AVal)
  | [.int .i64 k, a0, a1, a2, a3, a4, a5, a6, a7, .int .i64 m, b0, b1, b2, b3, b4, b5, b6, b7, l, t, c] => bif decide (0 ≤ k) && decide (k ≤ 8) && decide (0 ≤ m) && decide (m ≤ 8) then
      (match cntOf look m c with
       | some c' => some (.int .i64 k :: (upTo k 0 [a0, a1, a2, a3, a4, a5, a6, a7] ++ .int .i64 m :: (upTo m 0 [b0, b1, b2, b3, b4, b5, b6, b7] ++ [l, t, c'])))
       | none => none) else none
  | _ => none

theorem cntOf_ok {σ : Sig} {look : SDef → Option AVal} (hl : ∀ d r, look d = some r → evalS σ d = some (den σ r)) {m : Int} {c r : AVal} (h : cntOf look m c = some r) : numS (den σ r) = (if m = 0 then 0 else if 4 ≤ numS (den σ c) then 0 else numS (den σ c)) := by
  unfold cntOf at h
  by_cases h1 : m = 0
  · rw [decide_eq_true h1] at h
    cases h
    rw [if_pos h1]; rfl
  · rw [decide_eq_false h1] at h
    rw [if_neg h1]
    simp only [cond_false] at h
    split at h
    · rename_i k n
      cases h
      show (bif decide (4 ≤ n) then (0 : Int) else n) = if 4 ≤ n then 0 else n
      by_cases h2 : 4 ≤ n
      · rw [if_pos h2, decide_eq_true h2]; rfl
      · rw [if_neg h2, decide_eq_false h2]; rfl
    · split at h
      · rename_i b hb
        cases h
        have this : binS .geq (den σ c) (.int .u8 4) = some (.bool b) := hl _ _ hb
        have key : b = decide (4 ≤ numS (den σ c)) := by
          generalize den σ c = q at this ⊢
          cases q with
          | int k n =>
            have h := this.symm
            simp [binS, intA] at h
            exact h.2
          | _ => simp [binS] at this
        rw [key]
        by_cases h2 : 4 ≤ numS (den σ c)
        · rw [if_pos h2, decide_eq_true h2]; rfl
        · rw [if_neg h2, decide_eq_false h2]; rfl
      · cases h

theorem gUMend_ok (σ : Sig) (look : SDef → Option AVal) (cs rs : List AVal) (hlk : ∀ d r, look d = some r → evalS σ d = some (den σ r)) (hr : InR (cellsOf [u21]) (numsOf σ cs)) (h : gUMend look cs = some rs) : numsOf σ rs = umendF (numsOf σ cs) := by
  unfold gUMend at h
  split at h
  · rename_i k a0 a1 a2 a3 a4 a5 a6 a7 m b0 b1 b2 b3 b4 b5 b6 b7 l t c
    cases hc : (decide (0 ≤ k) && decide (k ≤ 8) && decide (0 ≤ m) && decide (m ≤ 8)) with
    | false => rw [hc] at h; cases h
    | true =>
      rw [hc] at h
      simp only [cond_true] at h
      cases hcn : cntOf look m c with
      | none => rw [hcn] at h; cases h
      | some c' =>
      rw [hcn] at h
      cases h
      have hcnt := cntOf_ok hlk hcn
      simp only [Bool.and_eq_true, decide_eq_true_eq] at hc
      obtain ⟨⟨⟨k0, k8⟩, m0⟩, m8⟩ := hc
      generalize hL : numsOf σ [.int .i64 k, a0, a1, a2, a3, a4, a5, a6, a7, .int .i64 m, b0, b1, b2, b3, b4, b5, b6, b7, l, t, c] = L at hr
      have e := eqs_solve (σ := sigL (tabOf ucFs) L) umend_ok
      have ag := agree_solve umendG 21 (sigL (tabOf ucFs) L)
      show _ = numsOf (solve umendG 21 (sigL (tabOf ucFs) L)) umendA
      generalize solve umendG 21 (sigL (tabOf ucFs) L) = τ at e ag ⊢
      have hi : ∀ i, i < 21 → τ.ival i = L.getD i 0 := fun i hi => (ag.val i hi).1.symm
      have hins : InsOk τ 21 ((cellsOf [u21]).map kindC) := by
        intro i kk him hk
        rw [hi i him]
        refine inR_get hr i kk ?_
        rw [List.getElem?_map] at hk
        cases hc : (cellsOf [u21])[i]? with
        | none => rw [hc] at hk; simp at hk
        | some c =>
          rw [hc] at hk
          cases c with
          | i k' => simp [kindC] at hk; rw [hk]
          | b => simp [kindC] at hk
      rw [umend_nums τ e ag.tab.symm hins]
      have hb : τ.bval 18 = !(numS (den σ l) == 0) := by
        rw [← (ag.val 18 (by decide)).2.1, ← hL]; rfl
      have hl : (if τ.bval 18 then 1 else 0) = numS (den σ l) := by
        rw [hb]
        have : numS (den σ l) = 0 ∨ numS (den σ l) = 1 := by
          subst hL
          obtain ⟨_, _, _, _, _, _, _, _, _, _, _, _, _, _, _, _, _, _, h18, _⟩ := hr
          exact h18
        rcases this with h | h <;> rw [h] <;> rfl
      have hq0 : qk [τ.ival 0, τ.ival 1, τ.ival 2, τ.ival 3, τ.ival 4, τ.ival 5, τ.ival 6, τ.ival 7, τ.ival 8] = k := by
        show clamp (τ.ival 0) = k
        rw [hi 0 (by decide), ← hL]; exact clamp_id k0 k8
      have hq9 : qk [τ.ival 9, τ.ival 10, τ.ival 11, τ.ival 12, τ.ival 13, τ.ival 14, τ.ival 15, τ.ival 16, τ.ival 17] = m := by
        show clamp (τ.ival 9) = m
        rw [hi 9 (by decide), ← hL]; exact clamp_id m0 m8
      unfold qb
      rw [hq0, hq9, hl]
      subst hL
      have h1 := hi 1 (by decide)
      have h2 := hi 2 (by decide)
      have h3 := hi 3 (by decide)
      have h4 := hi 4 (by decide)
      have h5 := hi 5 (by decide)
      have h6 := hi 6 (by decide)
      have h7 := hi 7 (by decide)
      have h8 := hi 8 (by decide)
      have h10 := hi 10 (by decide)
      have h11 := hi 11 (by decide)
      have h12 := hi 12 (by decide)
      have h13 := hi 13 (by decide)
      have h14 := hi 14 (by decide)
      have h15 := hi 15 (by decide)
      have h16 := hi 16 (by decide)
      have h17 := hi 17 (by decide)
      have h19 := hi 19 (by decide)
      have h20 := hi 20 (by decide)
      simp only [List.getD_cons_zero, List.getD_cons_succ, h1, h2, h3, h4, h5, h6, h7, h8, h10, h11, h12, h13, h14, h15, h16, h17, h19, h20]
      simp only [numsOf, upTo, List.map_cons, List.map_nil, List.cons_append, List.nil_append, num_bif, lit0]
      rw [hcnt]
      rfl
  · cases h

theorem umend_sym : SymOk Try.prog ⟨25, [u21], [u21], gUMend⟩ := ⟨umendF, umend_contract, gUMend_ok⟩

/-! ### uart.Peek -/

def toI32 (look : SDef → Option AVal) (a : AVal) : Option AVal :=
  match a with
  | .int _ n => some (.int .i32 (IntKind.i32.wrap n))
  | _ => look (.conv .i32 a)
def statN (k m : Int) : Int := (bif decide (0 < k) then 1 else 0) + (bif decide (m = 8) then 2 else 0)
def one? (o : Option AVal) : Option (List AVal) :=
  match o with
  | some a => some [a]
  | none => none
def gPeek (look : SDef → Option AVal) : List AVal → Option (List AVal)
  | [.int .i64 k, a0, _, _, _, _, _, _, _, .int .i64 m, _, _, _, _, _, _, _, _, l, t, _, .int .i64 r] => bif decide (0 ≤ k) && decide (k ≤ 8) && decide (0 ≤ m) && decide (m ≤ 8) then
      (bif decide (r = 3) then one? (toI32 look (bif decide (0 < k) then a0 else .int .u8 0))
       else bif decide (r = 4) then one? (match l with
         | .bool b => some (.int .i32 (bif b then statN k m + 4 else statN k m))
         | _ => look (.ite l (.int .i32 (statN k m + 4)) (.int .i32 (statN k m))))
       else bif decide (r = 5) then one? (toI32 look t) else none) else none
  | _ => none

theorem toI32_ok {σ : Sig} {look : SDef → Option AVal} (hl : ∀ d r, look d = some r → evalS σ d = some (den σ r)) {a r : AVal} (h : toI32 look a = some r) (hw : IntKind.u8.wrap (numS (den σ a)) = numS (den σ a)) : numS (den σ r) = numS (den σ a) := by
  have hi : ∀ n : Int, IntKind.u8.wrap n = n → IntKind.i32.wrap n = n := by
    intro n h
    simp [IntKind.wrap, IntKind.bits, IntKind.signed] at h ⊢; omega
  unfold toI32 at h
  split at h
  · cases h; exact hi _ hw
  · have := hl _ _ h
    simp only [evalS] at this
    unfold convS at this
    split at this
    · rename_i k n hd
      rw [hd] at hw ⊢
      have hr : den σ r = .int .i32 (IntKind.i32.wrap n) := by simpa using this.symm
      rw [hr]
      exact hi n hw
    · cases this

theorem gPeek_ok (σ : Sig) (look : SDef → Option AVal) (cs rs : List AVal) (hlk : ∀ d r, look d = some r → evalS σ d = some (den σ r)) (hr : InR (cellsOf peekI) (numsOf σ cs)) (h : gPeek look cs = some rs) : numsOf σ rs = peekF (numsOf σ cs) := by
  unfold gPeek at h
  split at h
  · rename_i k a0 a1 a2 a3 a4 a5 a6 a7 m b0 b1 b2 b3 b4 b5 b6 b7 l t c r
    cases hc : (decide (0 ≤ k) && decide (k ≤ 8) && decide (0 ≤ m) && decide (m ≤ 8)) with
    | false => rw [hc] at h; cases h
    | true =>
      rw [hc] at h
      simp only [Bool.and_eq_true, decide_eq_true_eq, cond_true] at hc h
      obtain ⟨⟨⟨k0, k8⟩, m0⟩, m8⟩ := hc
      have hw1 : IntKind.u8.wrap (numS (den σ a0)) = numS (den σ a0) := hr.2.1
      have hw19 : IntKind.u8.wrap (numS (den σ t)) = numS (den σ t) := by
        obtain ⟨_, _, _, _, _, _, _, _, _, _, _, _, _, _, _, _, _, _, _, h19, _⟩ := hr
        exact h19
      have h18 : numS (den σ l) = 0 ∨ numS (den σ l) = 1 := by
        obtain ⟨_, _, _, _, _, _, _, _, _, _, _, _, _, _, _, _, _, _, h18, _⟩ := hr
        exact h18
      have hq0 : qk (numsOf σ [.int .i64 k, a0, a1, a2, a3, a4, a5, a6, a7, .int .i64 m, b0, b1, b2, b3, b4, b5, b6, b7, l, t, c, .int .i64 r]) = k := clamp_id k0 k8
      have hq9 : qk ((numsOf σ [.int .i64 k, a0, a1, a2, a3, a4, a5, a6, a7, .int .i64 m, b0, b1, b2, b3, b4, b5, b6, b7, l, t, c, .int .i64 r]).drop 9) = m := clamp_id m0 m8
      unfold peekF qb
      rw [hq0, hq9]
      show _ = if r = 3 then [if (0 : Int) < k then numS (den σ a0) else 0] else if r = 4 then [statF k m (numS (den σ l))] else if r = 5 then [numS (den σ t)] else [0]
      by_cases r3 : r = 3
      · rw [decide_eq_true r3] at h
        rw [if_pos r3]
        simp only [cond_true] at h
        unfold one? at h
        split at h
        · rename_i x hx
          cases h
          have := toI32_ok hlk hx (by rw [num_bif]; split; exact hw1; rfl)
          rw [num_bif] at this
          show [numS (den σ x)] = _
          rw [this]; rfl
        · cases h
      · rw [decide_eq_false r3] at h
        rw [if_neg r3]
        simp only [cond_false] at h
        by_cases r4 : r = 4
        · rw [decide_eq_true r4] at h
          rw [if_pos r4]
          simp only [cond_true] at h
          have hs : ∀ b : Bool, (bif b then statN k m + 4 else statN k m) = statF k m (if b then 1 else 0) := by
            intro b
            unfold statN statF
            by_cases c1 : 0 < k <;> by_cases c2 : m = 8 <;> cases b <;> simp [c1, c2]
          unfold one? at h
          split at h
          · rename_i x hx
            cases h
            show [numS (den σ x)] = _
            congr 1
            split at hx
            · rename_i b
              cases hx
              show (bif b then statN k m + 4 else statN k m) = statF k m (numS (.bool b))
              rw [hs]; cases b <;> rfl
            · have := hlk _ _ hx
              simp only [evalS] at this
              split at this
              · rename_i b hd
                rw [hd]
                have hx2 : den σ x = bif b then .int .i32 (statN k m + 4) else .int .i32 (statN k m) := by
                  have := (Option.some.inj this).symm
                  exact this
                rw [hx2]
                have := hs b
                cases b <;> simpa [numS] using this
              · cases this
          · cases h
        · rw [decide_eq_false r4] at h
          rw [if_neg r4]
          simp only [cond_false] at h
          by_cases r5 : r = 5
          · rw [decide_eq_true r5] at h
            rw [if_pos r5]
            simp only [cond_true] at h
            unfold one? at h
            split at h
            · rename_i x hx
              cases h
              show [numS (den σ x)] = _
              rw [toI32_ok hlk hx hw19]
            · cases h
          · rw [decide_eq_false r5] at h
            simp at h
  · cases h

theorem peek_sym : SymOk Try.prog ⟨24, peekI, peekO, gPeek⟩ := ⟨peekF, upeek_contract, gPeek_ok⟩
end Go.Proofs.Ytgifnmiggloclab.us
