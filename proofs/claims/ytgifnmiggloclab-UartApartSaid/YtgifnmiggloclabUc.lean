/-
  The contracts of uart.Peek and ploverref12.Peek, and of alike. No conditions.
-/
import Derived.Test.YtgifnmiggloclabChecked
import Derived.Test.YtgifnmiggloclabEwY
import Derived.Test.YtgifnmiggloclabFc
import Derived.ProofKit
namespace Go.Proofs.Ytgifnmiggloclab.uc
open Go.RowKit Go.Ev Go.Proofs.Ytgifnmiggloclab.fc
set_option linter.unusedVariables false
set_option linter.unusedSimpArgs false

def ucFs : Nat → List Int → List Int
  | 0 => mendF
  | 1 => pushF
  | 2 => popF
  | _ => fun _ => [1]
def ucTbl : List Ent := [⟨54, q9, q9, 0⟩, ⟨84, q9, q9, 0⟩, ⟨46, q9b, pushO, 1⟩, ⟨83, q9b, pushO, 1⟩, ⟨50, q9, popO, 2⟩, ⟨82, q9, popO, 2⟩]
def u21 : Sh := .agg [.i .i64, .i .u8, .i .u8, .i .u8, .i .u8, .i .u8, .i .u8, .i .u8, .i .u8, .i .i64, .i .u8, .i .u8, .i .u8, .i .u8, .i .u8, .i .u8, .i .u8, .i .u8, .b, .i .u8, .i .u8]
def peekI : List Sh := [u21, .one (.i .i64)]
def peekO : List Sh := [.one (.i .i32)]
/-- what stands in a register -/
def statF (rx tx lost : Int) : Int := (if 0 < rx then 1 else 0) + (if tx = 8 then 2 else 0) + (if lost = 0 then 0 else 4)
def peekF (l : List Int) : List Int :=
  if l.getD 21 0 = 3 then [qb l 0] else if l.getD 21 0 = 4 then [statF (qk l) (qk (l.drop 9)) (l.getD 18 0)] else if l.getD 21 0 = 5 then [l.getD 19 0] else [0]
def upFs : Nat → List Int → List Int
  | 0 => mendF
  | 1 => pushF
  | 2 => popF
  | 3 => peekF
  | _ => fun _ => [1]
def upTbl : List Ent := [⟨54, q9, q9, 0⟩, ⟨84, q9, q9, 0⟩, ⟨46, q9b, pushO, 1⟩, ⟨83, q9b, pushO, 1⟩, ⟨50, q9, popO, 2⟩, ⟨82, q9, popO, 2⟩, ⟨24, peekI, peekO, 3⟩, ⟨59, peekI, peekO, 3⟩]

def stB (a b c : Bool) : Int := (bif a then 1 else 0) + (bif b then 2 else 0) + (bif c then 0 else 4)
theorem statF_eq (r t d : Int) : statF r t d = stB (decide (r > 0)) (t == 8) (d == 0) := by
  show _ = stB (decide (r > 0)) (decide (t = 8)) (decide (d = 0))
  unfold statF stB
  by_cases a : 0 < r <;> by_cases b : t = 8 <;> by_cases c : d = 0 <;> simp [a, b, c]
theorem u8w {n : Int} (h0 : 0 ≤ n) (h1 : n ≤ 255) : IntKind.u8.wrap n = n := by simp [IntKind.wrap, IntKind.bits, IntKind.signed]; omega
theorem i64w {n : Int} (h0 : 0 ≤ n) (h1 : n ≤ 255) : IntKind.i64.wrap n = n := by simp [IntKind.wrap, IntKind.bits, IntKind.signed]; omega
theorem i32w {n : Int} (h0 : 0 ≤ n) (h1 : n ≤ 255) : IntKind.i32.wrap n = n := by simp [IntKind.wrap, IntKind.bits, IntKind.signed]; omega
theorem u8_range {n : Int} (h : IntKind.u8.wrap n = n) : 0 ≤ n ∧ n ≤ 255 := by
  simp [IntKind.wrap, IntKind.bits, IntKind.signed] at h; omega
theorem clamp_clamp (n : Int) : clamp (clamp n) = clamp n := by unfold clamp; split <;> (try split) <;> (try split) <;> (try split) <;> omega
theorem qk_in (l : List Int) : 0 ≤ qk l ∧ qk l ≤ 8 := clamp_in _
theorem qk_w (l : List Int) : IntKind.i64.wrap (qk l) = qk l := i64w (qk_in l).1 (by have := (qk_in l).2; omega)
theorem qb_w {l : List Int} (i : Nat) (h : IntKind.u8.wrap (l.getD (i + 1) 0) = l.getD (i + 1) 0) : IntKind.u8.wrap (qb l i) = qb l i := by
  unfold qb; split
  · exact h
  · rfl
/-- a queue whose cells are the mended ones of another -/
theorem qk_of {l L : List Int} (h : L.getD 0 0 = qk l) : qk L = qk l := by unfold qk; rw [h]; exact clamp_clamp _
theorem qb_of {l L : List Int} (i : Nat) (h0 : L.getD 0 0 = qk l) (h : L.getD (i + 1) 0 = qb l i) : qb L i = qb l i := by
  unfold qb; rw [qk_of h0, h]; unfold qb; split <;> rfl
theorem bif_out {σ : Sig} {i : Nat} {n : Int} {c : Bool} (h : n = 0 ∨ n = 1) (hb : c = !(n == 0)) : (if c then 1 else 0 : Int) = n := by
  subst hb; rcases h with rfl | rfl <;> rfl
theorem and1 (y : Int) : IntKind.u8.wrap (BitVec.ofInt IntKind.u8.bits y &&& BitVec.ofInt IntKind.u8.bits 1).toNat = y % 2 := by
  have h : (BitVec.ofInt 8 y &&& BitVec.ofInt 8 1).toNat = (y % 2).toNat := by
    rw [BitVec.toNat_and, BitVec.toNat_ofInt, show (BitVec.ofInt 8 1).toNat = 1 from rfl, Nat.and_one_is_mod]
    omega
  show IntKind.u8.wrap (((BitVec.ofInt 8 y &&& BitVec.ofInt 8 1).toNat : Nat) : Int) = y % 2
  rw [h]
  simp [IntKind.wrap, IntKind.bits, IntKind.signed]
  omega
theorem and2 : ∀ c : Fin 256, (IntKind.u8.wrap (BitVec.ofInt IntKind.u8.bits (c.val : Int) &&& BitVec.ofInt IntKind.u8.bits 2).toNat != 0) = ((IntKind.u8.wrap ((c.val : Int).tdiv 2)).tmod 2 == 1) := by decide +kernel
theorem and2' {n : Int} (h : 0 ≤ n ∧ n ≤ 255) : (IntKind.u8.wrap (BitVec.ofInt IntKind.u8.bits n &&& BitVec.ofInt IntKind.u8.bits 2).toNat != 0) = ((IntKind.u8.wrap (n.tdiv 2)).tmod 2 == 1) := by
  have := and2 ⟨n.toNat, by omega⟩
  simpa [Int.toNat_of_nonneg h.1] using this

theorem uc_all : ∀ e, e ∈ ucTbl → (cellsOf e.outs).length ≤ 64 ∧ FnOk Try.prog e.f e.ins e.outs (ucFs e.id) := by
  intro e he
  simp only [ucTbl, List.mem_cons, List.not_mem_nil, or_false] at he
  rcases he with rfl | rfl | rfl | rfl | rfl | rfl
  · exact ⟨by decide, fmend_contract⟩
  · exact ⟨by decide, rmend_contract⟩
  · exact ⟨by decide, fpush_contract⟩
  · exact ⟨by decide, rpush_contract⟩
  · exact ⟨by decide, fpop_contract⟩
  · exact ⟨by decide, rpop_contract⟩

set_option maxRecDepth 100000 in
def rpeekG : List SDef := [.fn 0 .i64 [.symi .i64 0, .symi .u8 1, .symi .u8 2, .symi .u8 3, .symi .u8 4, .symi .u8 5, .symi .u8 6, .symi .u8 7, .symi .u8 8],
  .fn 1 .u8 [.symi .i64 0, .symi .u8 1, .symi .u8 2, .symi .u8 3, .symi .u8 4, .symi .u8 5, .symi .u8 6, .symi .u8 7, .symi .u8 8],
  .fn 2 .u8 [.symi .i64 0, .symi .u8 1, .symi .u8 2, .symi .u8 3, .symi .u8 4, .symi .u8 5, .symi .u8 6, .symi .u8 7, .symi .u8 8],
  .fn 3 .u8 [.symi .i64 0, .symi .u8 1, .symi .u8 2, .symi .u8 3, .symi .u8 4, .symi .u8 5, .symi .u8 6, .symi .u8 7, .symi .u8 8],
  .fn 4 .u8 [.symi .i64 0, .symi .u8 1, .symi .u8 2, .symi .u8 3, .symi .u8 4, .symi .u8 5, .symi .u8 6, .symi .u8 7, .symi .u8 8],
  .fn 5 .u8 [.symi .i64 0, .symi .u8 1, .symi .u8 2, .symi .u8 3, .symi .u8 4, .symi .u8 5, .symi .u8 6, .symi .u8 7, .symi .u8 8],
  .fn 6 .u8 [.symi .i64 0, .symi .u8 1, .symi .u8 2, .symi .u8 3, .symi .u8 4, .symi .u8 5, .symi .u8 6, .symi .u8 7, .symi .u8 8],
  .fn 7 .u8 [.symi .i64 0, .symi .u8 1, .symi .u8 2, .symi .u8 3, .symi .u8 4, .symi .u8 5, .symi .u8 6, .symi .u8 7, .symi .u8 8],
  .fn 8 .u8 [.symi .i64 0, .symi .u8 1, .symi .u8 2, .symi .u8 3, .symi .u8 4, .symi .u8 5, .symi .u8 6, .symi .u8 7, .symi .u8 8],
  .fn 0 .i64 [.symi .i64 9, .symi .u8 10, .symi .u8 11, .symi .u8 12, .symi .u8 13, .symi .u8 14, .symi .u8 15, .symi .u8 16, .symi .u8 17],
  .fn 1 .u8 [.symi .i64 9, .symi .u8 10, .symi .u8 11, .symi .u8 12, .symi .u8 13, .symi .u8 14, .symi .u8 15, .symi .u8 16, .symi .u8 17],
  .fn 2 .u8 [.symi .i64 9, .symi .u8 10, .symi .u8 11, .symi .u8 12, .symi .u8 13, .symi .u8 14, .symi .u8 15, .symi .u8 16, .symi .u8 17],
  .fn 3 .u8 [.symi .i64 9, .symi .u8 10, .symi .u8 11, .symi .u8 12, .symi .u8 13, .symi .u8 14, .symi .u8 15, .symi .u8 16, .symi .u8 17],
  .fn 4 .u8 [.symi .i64 9, .symi .u8 10, .symi .u8 11, .symi .u8 12, .symi .u8 13, .symi .u8 14, .symi .u8 15, .symi .u8 16, .symi .u8 17],
  .fn 5 .u8 [.symi .i64 9, .symi .u8 10, .symi .u8 11, .symi .u8 12, .symi .u8 13, .symi .u8 14, .symi .u8 15, .symi .u8 16, .symi .u8 17],
  .fn 6 .u8 [.symi .i64 9, .symi .u8 10, .symi .u8 11, .symi .u8 12, .symi .u8 13, .symi .u8 14, .symi .u8 15, .symi .u8 16, .symi .u8 17],
  .fn 7 .u8 [.symi .i64 9, .symi .u8 10, .symi .u8 11, .symi .u8 12, .symi .u8 13, .symi .u8 14, .symi .u8 15, .symi .u8 16, .symi .u8 17],
  .fn 8 .u8 [.symi .i64 9, .symi .u8 10, .symi .u8 11, .symi .u8 12, .symi .u8 13, .symi .u8 14, .symi .u8 15, .symi .u8 16, .symi .u8 17],
  .bin .geq (.symi .u8 20) (.int .u8 4),
  .bin .eql (.symi .i64 31) (.int .i64 0),
  .bin .eql (.symi .i64 21) (.int .i64 3),
  .conv .i32 (.symi .u8 23),
  .bin .eql (.symi .i64 21) (.int .i64 4),
  .bin .gtr (.symi .i64 22) (.int .i64 0),
  .bin .eql (.symi .i64 31) (.int .i64 8),
  .bin .eql (.symi .i64 21) (.int .i64 5),
  .conv .i32 (.symi .u8 19),
  .ite (.symb 18) (.int .i32 7) (.int .i32 3),
  .ite (.symb 18) (.int .i32 5) (.int .i32 1),
  .ite (.symb 46) (.symi .i32 49) (.symi .i32 50),
  .ite (.symb 18) (.int .i32 6) (.int .i32 2),
  .ite (.symb 18) (.int .i32 4) (.int .i32 0),
  .ite (.symb 46) (.symi .i32 52) (.symi .i32 53),
  .ite (.symb 45) (.symi .i32 51) (.symi .i32 54),
  .ite (.symb 47) (.symi .i32 48) (.int .i32 0),
  .ite (.symb 44) (.symi .i32 55) (.symi .i32 56),
  .ite (.symb 42) (.symi .i32 43) (.symi .i32 57)]

set_option maxRecDepth 100000 in
def rpeekT : LT := .n (.n (.n (.n (.n (.n (.e) 74533434 45 (.bin .gtr (.symi .i64 22) (.int .i64 0)) (.e)) 218675348 57 (.ite (.symb 44) (.symi .i32 55) (.symi .i32 56)) (.e)) 221523785 43 (.conv .i32 (.symi .u8 23)) (.n (.e) 354603226 53 (.ite (.symb 18) (.int .i32 4) (.int .i32 0)) (.e))) 354604726 50 (.ite (.symb 18) (.int .i32 5) (.int .i32 1)) (.n (.n (.n (.e) 354606226 52 (.ite (.symb 18) (.int .i32 6) (.int .i32 2)) (.e)) 354607726 49 (.ite (.symb 18) (.int .i32 7) (.int .i32 3)) (.e)) 375727183 31 (.fn 0 .i64 [.symi .i64 9, .symi .u8 10, .symi .u8 11, .symi .u8 12, .symi .u8 13, .symi .u8 14, .symi .u8 15, .symi .u8 16, .symi .u8 17]) (.n (.e) 375727226 32 (.fn 1 .u8 [.symi .i64 9, .symi .u8 10, .symi .u8 11, .symi .u8 12, .symi .u8 13, .symi .u8 14, .symi .u8 15, .symi .u8 16, .symi .u8 17]) (.e)))) 375727269 33 (.fn 2 .u8 [.symi .i64 9, .symi .u8 10, .symi .u8 11, .symi .u8 12, .symi .u8 13, .symi .u8 14, .symi .u8 15, .symi .u8 16, .symi .u8 17]) (.n (.n (.n (.n (.e) 375727312 34 (.fn 3 .u8 [.symi .i64 9, .symi .u8 10, .symi .u8 11, .symi .u8 12, .symi .u8 13, .symi .u8 14, .symi .u8 15, .symi .u8 16, .symi .u8 17]) (.e)) 375727355 35 (.fn 4 .u8 [.symi .i64 9, .symi .u8 10, .symi .u8 11, .symi .u8 12, .symi .u8 13, .symi .u8 14, .symi .u8 15, .symi .u8 16, .symi .u8 17]) (.e)) 375727398 36 (.fn 5 .u8 [.symi .i64 9, .symi .u8 10, .symi .u8 11, .symi .u8 12, .symi .u8 13, .symi .u8 14, .symi .u8 15, .symi .u8 16, .symi .u8 17]) (.n (.e) 375727441 37 (.fn 6 .u8 [.symi .i64 9, .symi .u8 10, .symi .u8 11, .symi .u8 12, .symi .u8 13, .symi .u8 14, .symi .u8 15, .symi .u8 16, .symi .u8 17]) (.e))) 375727484 38 (.fn 7 .u8 [.symi .i64 9, .symi .u8 10, .symi .u8 11, .symi .u8 12, .symi .u8 13, .symi .u8 14, .symi .u8 15, .symi .u8 16, .symi .u8 17]) (.n (.n (.e) 375727527 39 (.fn 8 .u8 [.symi .i64 9, .symi .u8 10, .symi .u8 11, .symi .u8 12, .symi .u8 13, .symi .u8 14, .symi .u8 15, .symi .u8 16, .symi .u8 17]) (.e)) 451144917 58 (.ite (.symb 42) (.symi .i32 43) (.symi .i32 57)) (.n (.e) 485560756 22 (.fn 0 .i64 [.symi .i64 0, .symi .u8 1, .symi .u8 2, .symi .u8 3, .symi .u8 4, .symi .u8 5, .symi .u8 6, .symi .u8 7, .symi .u8 8]) (.e))))) 485560799 23 (.fn 1 .u8 [.symi .i64 0, .symi .u8 1, .symi .u8 2, .symi .u8 3, .symi .u8 4, .symi .u8 5, .symi .u8 6, .symi .u8 7, .symi .u8 8]) (.n (.n (.n (.n (.n (.e) 485560842 24 (.fn 2 .u8 [.symi .i64 0, .symi .u8 1, .symi .u8 2, .symi .u8 3, .symi .u8 4, .symi .u8 5, .symi .u8 6, .symi .u8 7, .symi .u8 8]) (.e)) 485560885 25 (.fn 3 .u8 [.symi .i64 0, .symi .u8 1, .symi .u8 2, .symi .u8 3, .symi .u8 4, .symi .u8 5, .symi .u8 6, .symi .u8 7, .symi .u8 8]) (.e)) 485560928 26 (.fn 4 .u8 [.symi .i64 0, .symi .u8 1, .symi .u8 2, .symi .u8 3, .symi .u8 4, .symi .u8 5, .symi .u8 6, .symi .u8 7, .symi .u8 8]) (.n (.e) 485560971 27 (.fn 5 .u8 [.symi .i64 0, .symi .u8 1, .symi .u8 2, .symi .u8 3, .symi .u8 4, .symi .u8 5, .symi .u8 6, .symi .u8 7, .symi .u8 8]) (.e))) 485561014 28 (.fn 6 .u8 [.symi .i64 0, .symi .u8 1, .symi .u8 2, .symi .u8 3, .symi .u8 4, .symi .u8 5, .symi .u8 6, .symi .u8 7, .symi .u8 8]) (.n (.n (.n (.e) 485561057 29 (.fn 7 .u8 [.symi .i64 0, .symi .u8 1, .symi .u8 2, .symi .u8 3, .symi .u8 4, .symi .u8 5, .symi .u8 6, .symi .u8 7, .symi .u8 8]) (.e)) 485561100 30 (.fn 8 .u8 [.symi .i64 0, .symi .u8 1, .symi .u8 2, .symi .u8 3, .symi .u8 4, .symi .u8 5, .symi .u8 6, .symi .u8 7, .symi .u8 8]) (.e)) 533419068 55 (.ite (.symb 45) (.symi .i32 51) (.symi .i32 54)) (.n (.e) 670423649 54 (.ite (.symb 46) (.symi .i32 52) (.symi .i32 53)) (.e)))) 800336753 56 (.ite (.symb 47) (.symi .i32 48) (.int .i32 0)) (.n (.n (.n (.n (.e) 844162776 51 (.ite (.symb 46) (.symi .i32 49) (.symi .i32 50)) (.e)) 883264376 48 (.conv .i32 (.symi .u8 19)) (.e)) 946474802 40 (.bin .geq (.symi .u8 20) (.int .u8 4)) (.n (.e) 983536133 41 (.bin .eql (.symi .i64 31) (.int .i64 0)) (.e))) 983936413 46 (.bin .eql (.symi .i64 31) (.int .i64 8)) (.n (.n (.e) 1047425035 42 (.bin .eql (.symi .i64 21) (.int .i64 3)) (.e)) 1047475070 44 (.bin .eql (.symi .i64 21) (.int .i64 4)) (.n (.e) 1047525105 47 (.bin .eql (.symi .i64 21) (.int .i64 5)) (.e)))))

set_option maxRecDepth 100000 in
def rpeekW : Wr' := .run (.leaf (.symi .i32 58))
def rpeekX : Ing := { m := 22, ins := (cellsOf peekI).map kindC, G := rpeekG, T := rpeekT, hook := tblHook (tabOf ucFs) ucTbl, tab := tabOf ucFs }
theorem rpeek_ok : okG rpeekG 22 = true := by kernel_rfl
theorem rpeek_lt : okLT 22 rpeekG rpeekT = true := by kernel_rfl
theorem rpeek_run : okW (fun F => (evD Try.prog (cxOf rpeekX) true 1000 40).1 F 59 (symSh peekI 0) ⟨[], []⟩) rpeekW [] = true := by kernel_rfl
set_option maxRecDepth 100000 in
theorem rpeek_contract : FnOk Try.prog 59 peekI peekO peekF :=
  fn_of_run (X := rpeekX) (W := rpeekW) mixed ⟨rfl, rfl, rfl, rfl, rfl⟩ rpeek_ok rpeek_lt (fun F => tbl_hooks rpeek_lt rfl rfl uc_all F) rpeek_run (fun l σ hl e ht hi hb => by
    have w1 : IntKind.u8.wrap (σ.ival 1) = σ.ival 1 := by rw [hi 1 (by decide)]; exact inR_get hl 1 .u8 rfl
    have w19 : IntKind.u8.wrap (σ.ival 19) = σ.ival 19 := by rw [hi 19 (by decide)]; exact inR_get hl 19 .u8 rfl
    have r19 := u8_range w19
    have e22 : σ.ival 22 = IntKind.i64.wrap (σ.tab 0 [σ.ival 0, σ.ival 1, σ.ival 2, σ.ival 3, σ.ival 4, σ.ival 5, σ.ival 6, σ.ival 7, σ.ival 8]) := eqI (e.at 0 _ rfl rfl) rfl
    have e23 : σ.ival 23 = IntKind.u8.wrap (σ.tab 1 [σ.ival 0, σ.ival 1, σ.ival 2, σ.ival 3, σ.ival 4, σ.ival 5, σ.ival 6, σ.ival 7, σ.ival 8]) := eqI (e.at 1 _ rfl rfl) rfl
    have e31 : σ.ival 31 = IntKind.i64.wrap (σ.tab 0 [σ.ival 9, σ.ival 10, σ.ival 11, σ.ival 12, σ.ival 13, σ.ival 14, σ.ival 15, σ.ival 16, σ.ival 17]) := eqI (e.at 9 _ rfl rfl) rfl
    have e40 : σ.bval 40 = decide (σ.ival 20 ≥ 4) := eqB (e.at 18 _ rfl rfl) rfl
    have e41 : σ.bval 41 = (σ.ival 31 == 0) := eqB (e.at 19 _ rfl rfl) rfl
    have e42 : σ.bval 42 = (σ.ival 21 == 3) := eqB (e.at 20 _ rfl rfl) rfl
    have e43 : σ.ival 43 = IntKind.i32.wrap (σ.ival 23) := eqI (e.at 21 _ rfl rfl) rfl
    have e44 : σ.bval 44 = (σ.ival 21 == 4) := eqB (e.at 22 _ rfl rfl) rfl
    have e45 : σ.bval 45 = decide (σ.ival 22 > 0) := eqB (e.at 23 _ rfl rfl) rfl
    have e46 : σ.bval 46 = (σ.ival 31 == 8) := eqB (e.at 24 _ rfl rfl) rfl
    have e47 : σ.bval 47 = (σ.ival 21 == 5) := eqB (e.at 25 _ rfl rfl) rfl
    have e48 : σ.ival 48 = IntKind.i32.wrap (σ.ival 19) := eqI (e.at 26 _ rfl rfl) rfl
    have e49 : σ.ival 49 = (bif σ.bval 18 then 7 else 3) := eqIteI (e.at 27 _ rfl rfl) rfl rfl rfl
    have e50 : σ.ival 50 = (bif σ.bval 18 then 5 else 1) := eqIteI (e.at 28 _ rfl rfl) rfl rfl rfl
    have e51 : σ.ival 51 = (bif σ.bval 46 then σ.ival 49 else σ.ival 50) := eqIteI (e.at 29 _ rfl rfl) rfl rfl rfl
    have e52 : σ.ival 52 = (bif σ.bval 18 then 6 else 2) := eqIteI (e.at 30 _ rfl rfl) rfl rfl rfl
    have e53 : σ.ival 53 = (bif σ.bval 18 then 4 else 0) := eqIteI (e.at 31 _ rfl rfl) rfl rfl rfl
    have e54 : σ.ival 54 = (bif σ.bval 46 then σ.ival 52 else σ.ival 53) := eqIteI (e.at 32 _ rfl rfl) rfl rfl rfl
    have e55 : σ.ival 55 = (bif σ.bval 45 then σ.ival 51 else σ.ival 54) := eqIteI (e.at 33 _ rfl rfl) rfl rfl rfl
    have e56 : σ.ival 56 = (bif σ.bval 47 then σ.ival 48 else 0) := eqIteI (e.at 34 _ rfl rfl) rfl rfl rfl
    have e57 : σ.ival 57 = (bif σ.bval 44 then σ.ival 55 else σ.ival 56) := eqIteI (e.at 35 _ rfl rfl) rfl rfl rfl
    have e58 : σ.ival 58 = (bif σ.bval 42 then σ.ival 43 else σ.ival 57) := eqIteI (e.at 36 _ rfl rfl) rfl rfl rfl
    have m0 : σ.ival 22 = qk l := by
      rw [e22, ht]
      have : qk l = clamp (σ.ival 0) := by unfold qk; rw [hi 0 (by decide)]
      rw [this]; exact qk_w [σ.ival 0]
    have m9 : σ.ival 31 = qk (l.drop 9) := by
      rw [e31, ht]
      have : qk (l.drop 9) = clamp (σ.ival 9) := by unfold qk; rw [hi 9 (by decide)]; simp [List.getD]
      rw [this]; exact qk_w [σ.ival 9]
    have m1 : σ.ival 23 = qb l 0 := by
      rw [e23, ht]
      have : qb l 0 = qb [σ.ival 0, σ.ival 1] 0 := by unfold qb qk; rw [hi 0 (by decide), hi 1 (by decide)]; rfl
      rw [this]; exact qb_w (l := [σ.ival 0, σ.ival 1]) 0 w1
    have r1 : 0 ≤ qb l 0 ∧ qb l 0 ≤ 255 := by rw [← m1, e23]; exact u8_range (wrap_wrap _ _)
    have k0 := qk_in l
    have k9 := qk_in (l.drop 9)
    have h18 := hb 18 (by decide)
    have h19 := hi 19 (by decide)
    have h21 := hi 21 (by decide)
    intro _
    refine ⟨?_, trivial⟩
    show AVal.int .i32 (σ.ival 58) = .int .i32 (IntKind.i32.wrap ((peekF l).headD 0))
    congr 1
    by_cases c3 : l.getD 21 0 = 3
    · rw [show peekF l = [qb l 0] from if_pos c3, e58, e42, h21, c3, e43, m1]; rfl
    · rw [show peekF l = (if l.getD 21 0 = 4 then [statF (qk l) (qk (l.drop 9)) (l.getD 18 0)] else if l.getD 21 0 = 5 then [l.getD 19 0] else [0]) from if_neg c3, e58, e42, h21, show (l.getD 21 0 == 3) = false by simpa using c3]
      by_cases c4 : l.getD 21 0 = 4
      · rw [if_pos c4, e57, e44, h21, c4]
        show σ.ival 55 = IntKind.i32.wrap (statF _ _ _)
        rw [e55, e51, e54, e49, e50, e52, e53, e45, e46, h18, m0, m9]
        rw [statF_eq]
        generalize decide (qk l > 0) = a
        generalize (qk (l.drop 9) == 8) = b
        generalize (l.getD 18 0 == 0) = d
        cases a <;> cases b <;> cases d <;> rfl
      · rw [if_neg c4, e57, e44, h21, show (l.getD 21 0 == 4) = false by simpa using c4, e56, e47, e48, h21, h19]
        by_cases c5 : l.getD 21 0 = 5
        · rw [if_pos c5, c5]; rfl
        · rw [if_neg c5, show (l.getD 21 0 == 5) = false by simpa using c5]; rfl
)

set_option maxRecDepth 100000 in
def upeekG : List SDef := [.fn 0 .i64 [.symi .i64 0, .symi .u8 1, .symi .u8 2, .symi .u8 3, .symi .u8 4, .symi .u8 5, .symi .u8 6, .symi .u8 7, .symi .u8 8],
  .fn 1 .u8 [.symi .i64 0, .symi .u8 1, .symi .u8 2, .symi .u8 3, .symi .u8 4, .symi .u8 5, .symi .u8 6, .symi .u8 7, .symi .u8 8],
  .fn 2 .u8 [.symi .i64 0, .symi .u8 1, .symi .u8 2, .symi .u8 3, .symi .u8 4, .symi .u8 5, .symi .u8 6, .symi .u8 7, .symi .u8 8],
  .fn 3 .u8 [.symi .i64 0, .symi .u8 1, .symi .u8 2, .symi .u8 3, .symi .u8 4, .symi .u8 5, .symi .u8 6, .symi .u8 7, .symi .u8 8],
  .fn 4 .u8 [.symi .i64 0, .symi .u8 1, .symi .u8 2, .symi .u8 3, .symi .u8 4, .symi .u8 5, .symi .u8 6, .symi .u8 7, .symi .u8 8],
  .fn 5 .u8 [.symi .i64 0, .symi .u8 1, .symi .u8 2, .symi .u8 3, .symi .u8 4, .symi .u8 5, .symi .u8 6, .symi .u8 7, .symi .u8 8],
  .fn 6 .u8 [.symi .i64 0, .symi .u8 1, .symi .u8 2, .symi .u8 3, .symi .u8 4, .symi .u8 5, .symi .u8 6, .symi .u8 7, .symi .u8 8],
  .fn 7 .u8 [.symi .i64 0, .symi .u8 1, .symi .u8 2, .symi .u8 3, .symi .u8 4, .symi .u8 5, .symi .u8 6, .symi .u8 7, .symi .u8 8],
  .fn 8 .u8 [.symi .i64 0, .symi .u8 1, .symi .u8 2, .symi .u8 3, .symi .u8 4, .symi .u8 5, .symi .u8 6, .symi .u8 7, .symi .u8 8],
  .fn 0 .i64 [.symi .i64 9, .symi .u8 10, .symi .u8 11, .symi .u8 12, .symi .u8 13, .symi .u8 14, .symi .u8 15, .symi .u8 16, .symi .u8 17],
  .fn 1 .u8 [.symi .i64 9, .symi .u8 10, .symi .u8 11, .symi .u8 12, .symi .u8 13, .symi .u8 14, .symi .u8 15, .symi .u8 16, .symi .u8 17],
  .fn 2 .u8 [.symi .i64 9, .symi .u8 10, .symi .u8 11, .symi .u8 12, .symi .u8 13, .symi .u8 14, .symi .u8 15, .symi .u8 16, .symi .u8 17],
  .fn 3 .u8 [.symi .i64 9, .symi .u8 10, .symi .u8 11, .symi .u8 12, .symi .u8 13, .symi .u8 14, .symi .u8 15, .symi .u8 16, .symi .u8 17],
  .fn 4 .u8 [.symi .i64 9, .symi .u8 10, .symi .u8 11, .symi .u8 12, .symi .u8 13, .symi .u8 14, .symi .u8 15, .symi .u8 16, .symi .u8 17],
  .fn 5 .u8 [.symi .i64 9, .symi .u8 10, .symi .u8 11, .symi .u8 12, .symi .u8 13, .symi .u8 14, .symi .u8 15, .symi .u8 16, .symi .u8 17],
  .fn 6 .u8 [.symi .i64 9, .symi .u8 10, .symi .u8 11, .symi .u8 12, .symi .u8 13, .symi .u8 14, .symi .u8 15, .symi .u8 16, .symi .u8 17],
  .fn 7 .u8 [.symi .i64 9, .symi .u8 10, .symi .u8 11, .symi .u8 12, .symi .u8 13, .symi .u8 14, .symi .u8 15, .symi .u8 16, .symi .u8 17],
  .fn 8 .u8 [.symi .i64 9, .symi .u8 10, .symi .u8 11, .symi .u8 12, .symi .u8 13, .symi .u8 14, .symi .u8 15, .symi .u8 16, .symi .u8 17],
  .bin .eql (.symi .i64 31) (.int .i64 0),
  .bin .geq (.symi .u8 20) (.int .u8 4),
  .ite (.symb 41) (.int .u8 0) (.symi .u8 20),
  .ite (.symb 40) (.int .u8 0) (.symi .u8 42),
  .bin .eql (.symi .i64 21) (.int .i64 3),
  .bin .eql (.symi .i64 21) (.int .i64 4),
  .bin .eql (.symi .i64 21) (.int .i64 5),
  .conv .i32 (.symi .u8 23),
  .bin .gtr (.symi .i64 22) (.int .i64 0),
  .bin .eql (.symi .i64 31) (.int .i64 8),
  .ite (.symb 48) (.int .i32 1) (.int .i32 0),
  .ite (.symb 49) (.int .i32 2) (.int .i32 0),
  .ite (.symb 18) (.int .i32 4) (.int .i32 0),
  .bin .or (.symi .i32 50) (.int .i32 2),
  .ite (.symb 49) (.symi .i32 53) (.symi .i32 50),
  .bin .or (.symi .i32 50) (.int .i32 4),
  .ite (.symb 18) (.symi .i32 55) (.symi .i32 50),
  .bin .or (.symi .i32 54) (.int .i32 4),
  .ite (.symb 18) (.symi .i32 57) (.symi .i32 54),
  .bin .or (.symi .i32 56) (.int .i32 2),
  .ite (.symb 49) (.symi .i32 59) (.symi .i32 56),
  .bin .or (.symi .i32 51) (.int .i32 1),
  .ite (.symb 48) (.symi .i32 61) (.symi .i32 51),
  .bin .or (.symi .i32 51) (.int .i32 4),
  .ite (.symb 18) (.symi .i32 63) (.symi .i32 51),
  .bin .or (.symi .i32 62) (.int .i32 4),
  .ite (.symb 18) (.symi .i32 65) (.symi .i32 62),
  .bin .or (.symi .i32 64) (.int .i32 1),
  .ite (.symb 48) (.symi .i32 67) (.symi .i32 64),
  .bin .or (.symi .i32 52) (.int .i32 1),
  .ite (.symb 48) (.symi .i32 69) (.symi .i32 52),
  .bin .or (.symi .i32 52) (.int .i32 2),
  .ite (.symb 49) (.symi .i32 71) (.symi .i32 52),
  .bin .or (.symi .i32 70) (.int .i32 2),
  .ite (.symb 49) (.symi .i32 73) (.symi .i32 70),
  .bin .or (.symi .i32 72) (.int .i32 1),
  .ite (.symb 48) (.symi .i32 75) (.symi .i32 72),
  .conv .i32 (.symi .u8 19),
  .ite (.symb 46) (.symi .i32 77) (.int .i32 0)]

set_option maxRecDepth 100000 in
def upeekT : LT := .n (.n (.n (.n (.n (.n (.e) 21628824 67 (.bin .or (.symi .i32 64) (.int .i32 1)) (.e)) 74305101 66 (.ite (.symb 18) (.symi .i32 65) (.symi .i32 62)) (.n (.e) 74533434 48 (.bin .gtr (.symi .i64 22) (.int .i64 0)) (.e))) 85517726 57 (.bin .or (.symi .i32 54) (.int .i32 4)) (.n (.n (.e) 91044045 43 (.ite (.symb 40) (.int .u8 0) (.symi .u8 42)) (.e)) 109214488 70 (.ite (.symb 48) (.symi .i32 69) (.symi .i32 52)) (.n (.e) 129264147 42 (.ite (.symb 41) (.int .u8 0) (.symi .u8 20)) (.e)))) 221523785 47 (.conv .i32 (.symi .u8 23)) (.n (.n (.n (.e) 229771293 50 (.ite (.symb 48) (.int .i32 1) (.int .i32 0)) (.e)) 262782878 64 (.ite (.symb 18) (.symi .i32 63) (.symi .i32 51)) (.n (.e) 287418262 59 (.bin .or (.symi .i32 56) (.int .i32 2)) (.e))) 341003536 74 (.ite (.symb 49) (.symi .i32 73) (.symi .i32 70)) (.n (.n (.e) 354603226 52 (.ite (.symb 18) (.int .i32 4) (.int .i32 0)) (.e)) 368776625 51 (.ite (.symb 49) (.int .i32 2) (.int .i32 0)) (.e)))) 375727183 31 (.fn 0 .i64 [.symi .i64 9, .symi .u8 10, .symi .u8 11, .symi .u8 12, .symi .u8 13, .symi .u8 14, .symi .u8 15, .symi .u8 16, .symi .u8 17]) (.n (.n (.n (.n (.e) 375727226 32 (.fn 1 .u8 [.symi .i64 9, .symi .u8 10, .symi .u8 11, .symi .u8 12, .symi .u8 13, .symi .u8 14, .symi .u8 15, .symi .u8 16, .symi .u8 17]) (.e)) 375727269 33 (.fn 2 .u8 [.symi .i64 9, .symi .u8 10, .symi .u8 11, .symi .u8 12, .symi .u8 13, .symi .u8 14, .symi .u8 15, .symi .u8 16, .symi .u8 17]) (.n (.e) 375727312 34 (.fn 3 .u8 [.symi .i64 9, .symi .u8 10, .symi .u8 11, .symi .u8 12, .symi .u8 13, .symi .u8 14, .symi .u8 15, .symi .u8 16, .symi .u8 17]) (.e))) 375727355 35 (.fn 4 .u8 [.symi .i64 9, .symi .u8 10, .symi .u8 11, .symi .u8 12, .symi .u8 13, .symi .u8 14, .symi .u8 15, .symi .u8 16, .symi .u8 17]) (.n (.n (.e) 375727398 36 (.fn 5 .u8 [.symi .i64 9, .symi .u8 10, .symi .u8 11, .symi .u8 12, .symi .u8 13, .symi .u8 14, .symi .u8 15, .symi .u8 16, .symi .u8 17]) (.e)) 375727441 37 (.fn 6 .u8 [.symi .i64 9, .symi .u8 10, .symi .u8 11, .symi .u8 12, .symi .u8 13, .symi .u8 14, .symi .u8 15, .symi .u8 16, .symi .u8 17]) (.e))) 375727484 38 (.fn 7 .u8 [.symi .i64 9, .symi .u8 10, .symi .u8 11, .symi .u8 12, .symi .u8 13, .symi .u8 14, .symi .u8 15, .symi .u8 16, .symi .u8 17]) (.n (.n (.n (.e) 375727527 39 (.fn 8 .u8 [.symi .i64 9, .symi .u8 10, .symi .u8 11, .symi .u8 12, .symi .u8 13, .symi .u8 14, .symi .u8 15, .symi .u8 16, .symi .u8 17]) (.e)) 435958244 60 (.ite (.symb 49) (.symi .i32 59) (.symi .i32 56)) (.n (.e) 485560756 22 (.fn 0 .i64 [.symi .i64 0, .symi .u8 1, .symi .u8 2, .symi .u8 3, .symi .u8 4, .symi .u8 5, .symi .u8 6, .symi .u8 7, .symi .u8 8]) (.e))) 485560799 23 (.fn 1 .u8 [.symi .i64 0, .symi .u8 1, .symi .u8 2, .symi .u8 3, .symi .u8 4, .symi .u8 5, .symi .u8 6, .symi .u8 7, .symi .u8 8]) (.n (.n (.e) 485560842 24 (.fn 2 .u8 [.symi .i64 0, .symi .u8 1, .symi .u8 2, .symi .u8 3, .symi .u8 4, .symi .u8 5, .symi .u8 6, .symi .u8 7, .symi .u8 8]) (.e)) 485560885 25 (.fn 3 .u8 [.symi .i64 0, .symi .u8 1, .symi .u8 2, .symi .u8 3, .symi .u8 4, .symi .u8 5, .symi .u8 6, .symi .u8 7, .symi .u8 8]) (.e))))) 485560928 26 (.fn 4 .u8 [.symi .i64 0, .symi .u8 1, .symi .u8 2, .symi .u8 3, .symi .u8 4, .symi .u8 5, .symi .u8 6, .symi .u8 7, .symi .u8 8]) (.n (.n (.n (.n (.n (.e) 485560971 27 (.fn 5 .u8 [.symi .i64 0, .symi .u8 1, .symi .u8 2, .symi .u8 3, .symi .u8 4, .symi .u8 5, .symi .u8 6, .symi .u8 7, .symi .u8 8]) (.e)) 485561014 28 (.fn 6 .u8 [.symi .i64 0, .symi .u8 1, .symi .u8 2, .symi .u8 3, .symi .u8 4, .symi .u8 5, .symi .u8 6, .symi .u8 7, .symi .u8 8]) (.n (.e) 485561057 29 (.fn 7 .u8 [.symi .i64 0, .symi .u8 1, .symi .u8 2, .symi .u8 3, .symi .u8 4, .symi .u8 5, .symi .u8 6, .symi .u8 7, .symi .u8 8]) (.e))) 485561100 30 (.fn 8 .u8 [.symi .i64 0, .symi .u8 1, .symi .u8 2, .symi .u8 3, .symi .u8 4, .symi .u8 5, .symi .u8 6, .symi .u8 7, .symi .u8 8]) (.n (.n (.e) 546219969 72 (.ite (.symb 49) (.symi .i32 71) (.symi .i32 52)) (.e)) 549477203 68 (.ite (.symb 48) (.symi .i32 67) (.symi .i32 64)) (.n (.e) 627680677 73 (.bin .or (.symi .i32 70) (.int .i32 2)) (.e)))) 687377821 78 (.ite (.symb 46) (.symi .i32 77) (.int .i32 0)) (.n (.n (.n (.e) 755158271 53 (.bin .or (.symi .i32 50) (.int .i32 2)) (.e)) 755258341 55 (.bin .or (.symi .i32 50) (.int .i32 4)) (.n (.e) 783436498 54 (.ite (.symb 49) (.symi .i32 53) (.symi .i32 50)) (.e))) 802000749 76 (.ite (.symb 48) (.symi .i32 75) (.symi .i32 72)) (.n (.n (.e) 829631248 75 (.bin .or (.symi .i32 72) (.int .i32 1)) (.e)) 856108539 61 (.bin .or (.symi .i32 51) (.int .i32 1)) (.e)))) 856258644 63 (.bin .or (.symi .i32 51) (.int .i32 4)) (.n (.n (.n (.n (.e) 883264376 77 (.conv .i32 (.symi .u8 19)) (.e)) 893520150 65 (.bin .or (.symi .i32 62) (.int .i32 4)) (.n (.e) 895523382 58 (.ite (.symb 18) (.symi .i32 57) (.symi .i32 54)) (.e))) 913694113 62 (.ite (.symb 48) (.symi .i32 61) (.symi .i32 51)) (.n (.n (.e) 946474802 41 (.bin .geq (.symi .u8 20) (.int .u8 4)) (.e)) 957108842 69 (.bin .or (.symi .i32 52) (.int .i32 1)) (.e))) 957158877 71 (.bin .or (.symi .i32 52) (.int .i32 2)) (.n (.n (.n (.e) 983536133 40 (.bin .eql (.symi .i64 31) (.int .i64 0)) (.e)) 983936413 49 (.bin .eql (.symi .i64 31) (.int .i64 8)) (.n (.e) 1047425035 44 (.bin .eql (.symi .i64 21) (.int .i64 3)) (.e))) 1047475070 45 (.bin .eql (.symi .i64 21) (.int .i64 4)) (.n (.n (.e) 1047525105 46 (.bin .eql (.symi .i64 21) (.int .i64 5)) (.e)) 1067262503 56 (.ite (.symb 18) (.symi .i32 55) (.symi .i32 50)) (.e)))))

set_option maxRecDepth 100000 in
def upeekW : Wr' := .run (.node 44 (.leaf (.symi .i32 47)) (.node 45 (.or (.or (.leaf (.symi .i32 58)) (.leaf (.symi .i32 60))) (.or (.or (.leaf (.symi .i32 66)) (.leaf (.symi .i32 68))) (.or (.leaf (.symi .i32 74)) (.leaf (.symi .i32 76))))) (.leaf (.symi .i32 78))))
def upeekX : Ing := { m := 22, ins := (cellsOf peekI).map kindC, G := upeekG, T := upeekT, hook := tblHook (tabOf ucFs) ucTbl, tab := tabOf ucFs }
theorem upeek_ok : okG upeekG 22 = true := by kernel_rfl
theorem upeek_lt : okLT 22 upeekG upeekT = true := by kernel_rfl
theorem upeek_run : okW (fun F => (evD Try.prog (cxOf upeekX) true 1000 40).1 F 24 (symSh peekI 0) ⟨[], []⟩) upeekW [] = true := by kernel_rfl
set_option maxRecDepth 100000 in
theorem upeek_contract : FnOk Try.prog 24 peekI peekO peekF :=
  fn_of_run (X := upeekX) (W := upeekW) mixed ⟨rfl, rfl, rfl, rfl, rfl⟩ upeek_ok upeek_lt (fun F => tbl_hooks upeek_lt rfl rfl uc_all F) upeek_run (fun l σ hl e ht hi hb => by
    have w1 : IntKind.u8.wrap (σ.ival 1) = σ.ival 1 := by rw [hi 1 (by decide)]; exact inR_get hl 1 .u8 rfl
    have w19 : IntKind.u8.wrap (σ.ival 19) = σ.ival 19 := by rw [hi 19 (by decide)]; exact inR_get hl 19 .u8 rfl
    have r19 := u8_range w19
    have e22 : σ.ival 22 = IntKind.i64.wrap (σ.tab 0 [σ.ival 0, σ.ival 1, σ.ival 2, σ.ival 3, σ.ival 4, σ.ival 5, σ.ival 6, σ.ival 7, σ.ival 8]) := eqI (e.at 0 _ rfl rfl) rfl
    have e23 : σ.ival 23 = IntKind.u8.wrap (σ.tab 1 [σ.ival 0, σ.ival 1, σ.ival 2, σ.ival 3, σ.ival 4, σ.ival 5, σ.ival 6, σ.ival 7, σ.ival 8]) := eqI (e.at 1 _ rfl rfl) rfl
    have e31 : σ.ival 31 = IntKind.i64.wrap (σ.tab 0 [σ.ival 9, σ.ival 10, σ.ival 11, σ.ival 12, σ.ival 13, σ.ival 14, σ.ival 15, σ.ival 16, σ.ival 17]) := eqI (e.at 9 _ rfl rfl) rfl
    have e40 : σ.bval 40 = (σ.ival 31 == 0) := eqB (e.at 18 _ rfl rfl) rfl
    have e41 : σ.bval 41 = decide (σ.ival 20 ≥ 4) := eqB (e.at 19 _ rfl rfl) rfl
    have e42 : σ.ival 42 = (bif σ.bval 41 then 0 else σ.ival 20) := eqIteI (e.at 20 _ rfl rfl) rfl rfl rfl
    have e43 : σ.ival 43 = (bif σ.bval 40 then 0 else σ.ival 42) := eqIteI (e.at 21 _ rfl rfl) rfl rfl rfl
    have e44 : σ.bval 44 = (σ.ival 21 == 3) := eqB (e.at 22 _ rfl rfl) rfl
    have e45 : σ.bval 45 = (σ.ival 21 == 4) := eqB (e.at 23 _ rfl rfl) rfl
    have e46 : σ.bval 46 = (σ.ival 21 == 5) := eqB (e.at 24 _ rfl rfl) rfl
    have e47 : σ.ival 47 = IntKind.i32.wrap (σ.ival 23) := eqI (e.at 25 _ rfl rfl) rfl
    have e48 : σ.bval 48 = decide (σ.ival 22 > 0) := eqB (e.at 26 _ rfl rfl) rfl
    have e49 : σ.bval 49 = (σ.ival 31 == 8) := eqB (e.at 27 _ rfl rfl) rfl
    have e50 : σ.ival 50 = (bif σ.bval 48 then 1 else 0) := eqIteI (e.at 28 _ rfl rfl) rfl rfl rfl
    have e51 : σ.ival 51 = (bif σ.bval 49 then 2 else 0) := eqIteI (e.at 29 _ rfl rfl) rfl rfl rfl
    have e52 : σ.ival 52 = (bif σ.bval 18 then 4 else 0) := eqIteI (e.at 30 _ rfl rfl) rfl rfl rfl
    have e53 : σ.ival 53 = IntKind.i32.wrap (BitVec.ofInt IntKind.i32.bits (σ.ival 50) ||| BitVec.ofInt IntKind.i32.bits (2)).toNat := eqI (e.at 31 _ rfl rfl) rfl
    have e54 : σ.ival 54 = (bif σ.bval 49 then σ.ival 53 else σ.ival 50) := eqIteI (e.at 32 _ rfl rfl) rfl rfl rfl
    have e55 : σ.ival 55 = IntKind.i32.wrap (BitVec.ofInt IntKind.i32.bits (σ.ival 50) ||| BitVec.ofInt IntKind.i32.bits (4)).toNat := eqI (e.at 33 _ rfl rfl) rfl
    have e56 : σ.ival 56 = (bif σ.bval 18 then σ.ival 55 else σ.ival 50) := eqIteI (e.at 34 _ rfl rfl) rfl rfl rfl
    have e57 : σ.ival 57 = IntKind.i32.wrap (BitVec.ofInt IntKind.i32.bits (σ.ival 54) ||| BitVec.ofInt IntKind.i32.bits (4)).toNat := eqI (e.at 35 _ rfl rfl) rfl
    have e58 : σ.ival 58 = (bif σ.bval 18 then σ.ival 57 else σ.ival 54) := eqIteI (e.at 36 _ rfl rfl) rfl rfl rfl
    have e59 : σ.ival 59 = IntKind.i32.wrap (BitVec.ofInt IntKind.i32.bits (σ.ival 56) ||| BitVec.ofInt IntKind.i32.bits (2)).toNat := eqI (e.at 37 _ rfl rfl) rfl
    have e60 : σ.ival 60 = (bif σ.bval 49 then σ.ival 59 else σ.ival 56) := eqIteI (e.at 38 _ rfl rfl) rfl rfl rfl
    have e61 : σ.ival 61 = IntKind.i32.wrap (BitVec.ofInt IntKind.i32.bits (σ.ival 51) ||| BitVec.ofInt IntKind.i32.bits (1)).toNat := eqI (e.at 39 _ rfl rfl) rfl
    have e62 : σ.ival 62 = (bif σ.bval 48 then σ.ival 61 else σ.ival 51) := eqIteI (e.at 40 _ rfl rfl) rfl rfl rfl
    have e63 : σ.ival 63 = IntKind.i32.wrap (BitVec.ofInt IntKind.i32.bits (σ.ival 51) ||| BitVec.ofInt IntKind.i32.bits (4)).toNat := eqI (e.at 41 _ rfl rfl) rfl
    have e64 : σ.ival 64 = (bif σ.bval 18 then σ.ival 63 else σ.ival 51) := eqIteI (e.at 42 _ rfl rfl) rfl rfl rfl
    have e65 : σ.ival 65 = IntKind.i32.wrap (BitVec.ofInt IntKind.i32.bits (σ.ival 62) ||| BitVec.ofInt IntKind.i32.bits (4)).toNat := eqI (e.at 43 _ rfl rfl) rfl
    have e66 : σ.ival 66 = (bif σ.bval 18 then σ.ival 65 else σ.ival 62) := eqIteI (e.at 44 _ rfl rfl) rfl rfl rfl
    have e67 : σ.ival 67 = IntKind.i32.wrap (BitVec.ofInt IntKind.i32.bits (σ.ival 64) ||| BitVec.ofInt IntKind.i32.bits (1)).toNat := eqI (e.at 45 _ rfl rfl) rfl
    have e68 : σ.ival 68 = (bif σ.bval 48 then σ.ival 67 else σ.ival 64) := eqIteI (e.at 46 _ rfl rfl) rfl rfl rfl
    have e69 : σ.ival 69 = IntKind.i32.wrap (BitVec.ofInt IntKind.i32.bits (σ.ival 52) ||| BitVec.ofInt IntKind.i32.bits (1)).toNat := eqI (e.at 47 _ rfl rfl) rfl
    have e70 : σ.ival 70 = (bif σ.bval 48 then σ.ival 69 else σ.ival 52) := eqIteI (e.at 48 _ rfl rfl) rfl rfl rfl
    have e71 : σ.ival 71 = IntKind.i32.wrap (BitVec.ofInt IntKind.i32.bits (σ.ival 52) ||| BitVec.ofInt IntKind.i32.bits (2)).toNat := eqI (e.at 49 _ rfl rfl) rfl
    have e72 : σ.ival 72 = (bif σ.bval 49 then σ.ival 71 else σ.ival 52) := eqIteI (e.at 50 _ rfl rfl) rfl rfl rfl
    have e73 : σ.ival 73 = IntKind.i32.wrap (BitVec.ofInt IntKind.i32.bits (σ.ival 70) ||| BitVec.ofInt IntKind.i32.bits (2)).toNat := eqI (e.at 51 _ rfl rfl) rfl
    have e74 : σ.ival 74 = (bif σ.bval 49 then σ.ival 73 else σ.ival 70) := eqIteI (e.at 52 _ rfl rfl) rfl rfl rfl
    have e75 : σ.ival 75 = IntKind.i32.wrap (BitVec.ofInt IntKind.i32.bits (σ.ival 72) ||| BitVec.ofInt IntKind.i32.bits (1)).toNat := eqI (e.at 53 _ rfl rfl) rfl
    have e76 : σ.ival 76 = (bif σ.bval 48 then σ.ival 75 else σ.ival 72) := eqIteI (e.at 54 _ rfl rfl) rfl rfl rfl
    have e77 : σ.ival 77 = IntKind.i32.wrap (σ.ival 19) := eqI (e.at 55 _ rfl rfl) rfl
    have e78 : σ.ival 78 = (bif σ.bval 46 then σ.ival 77 else 0) := eqIteI (e.at 56 _ rfl rfl) rfl rfl rfl
    have m0 : σ.ival 22 = qk l := by
      rw [e22, ht]
      have : qk l = clamp (σ.ival 0) := by unfold qk; rw [hi 0 (by decide)]
      rw [this]; exact qk_w [σ.ival 0]
    have m9 : σ.ival 31 = qk (l.drop 9) := by
      rw [e31, ht]
      have : qk (l.drop 9) = clamp (σ.ival 9) := by unfold qk; rw [hi 9 (by decide)]; simp [List.getD]
      rw [this]; exact qk_w [σ.ival 9]
    have m1 : σ.ival 23 = qb l 0 := by
      rw [e23, ht]
      have : qb l 0 = qb [σ.ival 0, σ.ival 1] 0 := by unfold qb qk; rw [hi 0 (by decide), hi 1 (by decide)]; rfl
      rw [this]; exact qb_w (l := [σ.ival 0, σ.ival 1]) 0 w1
    have r1 : 0 ≤ qb l 0 ∧ qb l 0 ≤ 255 := by rw [← m1, e23]; exact u8_range (wrap_wrap _ _)
    have k0 := qk_in l
    have k9 := qk_in (l.drop 9)
    have h18 := hb 18 (by decide)
    have h19 := hi 19 (by decide)
    have h21 := hi 21 (by decide)
    have out : ∀ i n, σ.ival i = n → IntKind.i32.wrap ((peekF l).headD 0) = n → OutOk σ peekO (.symi .i32 i) (peekF l) := fun i n h1 h2 => ⟨by show AVal.int .i32 (σ.ival i) = .int .i32 _; rw [h1, h2], trivial⟩
    refine ⟨fun hF => ?_, ⟨⟨fun hF => ?_, fun hF => ?_⟩, ⟨fun hF => ?_, fun hF => ?_⟩, ⟨fun hF => ?_, fun hF => ?_⟩⟩, fun hF => ?_⟩
    all_goals simp only [Holds, Fact.holds, e44, e45, h21, beq_iff_eq, beq_eq_false_iff_ne, and_true] at hF
    · refine out 47 _ (e47.trans (by rw [m1])) (by rw [show peekF l = [qb l 0] from if_pos hF]; rfl)
    · have hp : peekF l = [statF (qk l) (qk (l.drop 9)) (l.getD 18 0)] := (if_neg hF.2).trans (if_pos hF.1)
      refine out 58 _ rfl (by
        rw [hp]
        show IntKind.i32.wrap (statF _ _ _) = _
        simp only [e76, e75, e74, e73, e72, e71, e70, e69, e68, e67, e66, e65, e64, e63, e62, e61, e60, e59, e58, e57, e56, e55, e54, e53, e52, e51, e50, e49, e48, h18, m0, m9]
        rw [statF_eq]
        generalize decide (qk l > 0) = a
        generalize (qk (l.drop 9) == 8) = b
        generalize (l.getD 18 0 == 0) = d
        cases a <;> cases b <;> cases d <;> rfl)
    · have hp : peekF l = [statF (qk l) (qk (l.drop 9)) (l.getD 18 0)] := (if_neg hF.2).trans (if_pos hF.1)
      refine out 60 _ rfl (by
        rw [hp]
        show IntKind.i32.wrap (statF _ _ _) = _
        simp only [e76, e75, e74, e73, e72, e71, e70, e69, e68, e67, e66, e65, e64, e63, e62, e61, e60, e59, e58, e57, e56, e55, e54, e53, e52, e51, e50, e49, e48, h18, m0, m9]
        rw [statF_eq]
        generalize decide (qk l > 0) = a
        generalize (qk (l.drop 9) == 8) = b
        generalize (l.getD 18 0 == 0) = d
        cases a <;> cases b <;> cases d <;> rfl)
    · have hp : peekF l = [statF (qk l) (qk (l.drop 9)) (l.getD 18 0)] := (if_neg hF.2).trans (if_pos hF.1)
      refine out 66 _ rfl (by
        rw [hp]
        show IntKind.i32.wrap (statF _ _ _) = _
        simp only [e76, e75, e74, e73, e72, e71, e70, e69, e68, e67, e66, e65, e64, e63, e62, e61, e60, e59, e58, e57, e56, e55, e54, e53, e52, e51, e50, e49, e48, h18, m0, m9]
        rw [statF_eq]
        generalize decide (qk l > 0) = a
        generalize (qk (l.drop 9) == 8) = b
        generalize (l.getD 18 0 == 0) = d
        cases a <;> cases b <;> cases d <;> rfl)
    · have hp : peekF l = [statF (qk l) (qk (l.drop 9)) (l.getD 18 0)] := (if_neg hF.2).trans (if_pos hF.1)
      refine out 68 _ rfl (by
        rw [hp]
        show IntKind.i32.wrap (statF _ _ _) = _
        simp only [e76, e75, e74, e73, e72, e71, e70, e69, e68, e67, e66, e65, e64, e63, e62, e61, e60, e59, e58, e57, e56, e55, e54, e53, e52, e51, e50, e49, e48, h18, m0, m9]
        rw [statF_eq]
        generalize decide (qk l > 0) = a
        generalize (qk (l.drop 9) == 8) = b
        generalize (l.getD 18 0 == 0) = d
        cases a <;> cases b <;> cases d <;> rfl)
    · have hp : peekF l = [statF (qk l) (qk (l.drop 9)) (l.getD 18 0)] := (if_neg hF.2).trans (if_pos hF.1)
      refine out 74 _ rfl (by
        rw [hp]
        show IntKind.i32.wrap (statF _ _ _) = _
        simp only [e76, e75, e74, e73, e72, e71, e70, e69, e68, e67, e66, e65, e64, e63, e62, e61, e60, e59, e58, e57, e56, e55, e54, e53, e52, e51, e50, e49, e48, h18, m0, m9]
        rw [statF_eq]
        generalize decide (qk l > 0) = a
        generalize (qk (l.drop 9) == 8) = b
        generalize (l.getD 18 0 == 0) = d
        cases a <;> cases b <;> cases d <;> rfl)
    · have hp : peekF l = [statF (qk l) (qk (l.drop 9)) (l.getD 18 0)] := (if_neg hF.2).trans (if_pos hF.1)
      refine out 76 _ rfl (by
        rw [hp]
        show IntKind.i32.wrap (statF _ _ _) = _
        simp only [e76, e75, e74, e73, e72, e71, e70, e69, e68, e67, e66, e65, e64, e63, e62, e61, e60, e59, e58, e57, e56, e55, e54, e53, e52, e51, e50, e49, e48, h18, m0, m9]
        rw [statF_eq]
        generalize decide (qk l > 0) = a
        generalize (qk (l.drop 9) == 8) = b
        generalize (l.getD 18 0 == 0) = d
        cases a <;> cases b <;> cases d <;> rfl)
    · have hp : peekF l = (if l.getD 21 0 = 5 then [l.getD 19 0] else [0]) := (if_neg hF.2).trans (if_neg hF.1)
      refine out 78 _ rfl (by
        rw [hp, e78, e46, e77, h21, h19]
        by_cases c5 : l.getD 21 0 = 5
        · rw [if_pos c5, c5]; rfl
        · rw [if_neg c5, show (l.getD 21 0 == 5) = false by simpa using c5]; rfl)
)

theorem up_all : ∀ e, e ∈ upTbl → (cellsOf e.outs).length ≤ 64 ∧ FnOk Try.prog e.f e.ins e.outs (upFs e.id) := by
  intro e he
  simp only [upTbl, List.mem_cons, List.not_mem_nil, or_false] at he
  rcases he with rfl | rfl | rfl | rfl | rfl | rfl | rfl | rfl
  · exact ⟨by decide, fmend_contract⟩
  · exact ⟨by decide, rmend_contract⟩
  · exact ⟨by decide, fpush_contract⟩
  · exact ⟨by decide, rpush_contract⟩
  · exact ⟨by decide, fpop_contract⟩
  · exact ⟨by decide, rpop_contract⟩
  · exact ⟨by decide, upeek_contract⟩
  · exact ⟨by decide, rpeek_contract⟩

def ualI : List Sh := [u21, .one (.i .i64), .one (.i .i32)]
set_option maxRecDepth 100000 in
def ualG : List SDef := [.fn 192 .i32 [.symi .i64 0, .symi .u8 1, .symi .u8 2, .symi .u8 3, .symi .u8 4, .symi .u8 5, .symi .u8 6, .symi .u8 7, .symi .u8 8, .symi .i64 9, .symi .u8 10, .symi .u8 11, .symi .u8 12, .symi .u8 13, .symi .u8 14, .symi .u8 15, .symi .u8 16, .symi .u8 17, .symb 18, .symi .u8 19, .symi .u8 20, .symi .i64 21],
  .fn 0 .i64 [.symi .i64 0, .symi .u8 1, .symi .u8 2, .symi .u8 3, .symi .u8 4, .symi .u8 5, .symi .u8 6, .symi .u8 7, .symi .u8 8],
  .fn 1 .u8 [.symi .i64 0, .symi .u8 1, .symi .u8 2, .symi .u8 3, .symi .u8 4, .symi .u8 5, .symi .u8 6, .symi .u8 7, .symi .u8 8],
  .fn 2 .u8 [.symi .i64 0, .symi .u8 1, .symi .u8 2, .symi .u8 3, .symi .u8 4, .symi .u8 5, .symi .u8 6, .symi .u8 7, .symi .u8 8],
  .fn 3 .u8 [.symi .i64 0, .symi .u8 1, .symi .u8 2, .symi .u8 3, .symi .u8 4, .symi .u8 5, .symi .u8 6, .symi .u8 7, .symi .u8 8],
  .fn 4 .u8 [.symi .i64 0, .symi .u8 1, .symi .u8 2, .symi .u8 3, .symi .u8 4, .symi .u8 5, .symi .u8 6, .symi .u8 7, .symi .u8 8],
  .fn 5 .u8 [.symi .i64 0, .symi .u8 1, .symi .u8 2, .symi .u8 3, .symi .u8 4, .symi .u8 5, .symi .u8 6, .symi .u8 7, .symi .u8 8],
  .fn 6 .u8 [.symi .i64 0, .symi .u8 1, .symi .u8 2, .symi .u8 3, .symi .u8 4, .symi .u8 5, .symi .u8 6, .symi .u8 7, .symi .u8 8],
  .fn 7 .u8 [.symi .i64 0, .symi .u8 1, .symi .u8 2, .symi .u8 3, .symi .u8 4, .symi .u8 5, .symi .u8 6, .symi .u8 7, .symi .u8 8],
  .fn 8 .u8 [.symi .i64 0, .symi .u8 1, .symi .u8 2, .symi .u8 3, .symi .u8 4, .symi .u8 5, .symi .u8 6, .symi .u8 7, .symi .u8 8],
  .fn 0 .i64 [.symi .i64 9, .symi .u8 10, .symi .u8 11, .symi .u8 12, .symi .u8 13, .symi .u8 14, .symi .u8 15, .symi .u8 16, .symi .u8 17],
  .fn 1 .u8 [.symi .i64 9, .symi .u8 10, .symi .u8 11, .symi .u8 12, .symi .u8 13, .symi .u8 14, .symi .u8 15, .symi .u8 16, .symi .u8 17],
  .fn 2 .u8 [.symi .i64 9, .symi .u8 10, .symi .u8 11, .symi .u8 12, .symi .u8 13, .symi .u8 14, .symi .u8 15, .symi .u8 16, .symi .u8 17],
  .fn 3 .u8 [.symi .i64 9, .symi .u8 10, .symi .u8 11, .symi .u8 12, .symi .u8 13, .symi .u8 14, .symi .u8 15, .symi .u8 16, .symi .u8 17],
  .fn 4 .u8 [.symi .i64 9, .symi .u8 10, .symi .u8 11, .symi .u8 12, .symi .u8 13, .symi .u8 14, .symi .u8 15, .symi .u8 16, .symi .u8 17],
  .fn 5 .u8 [.symi .i64 9, .symi .u8 10, .symi .u8 11, .symi .u8 12, .symi .u8 13, .symi .u8 14, .symi .u8 15, .symi .u8 16, .symi .u8 17],
  .fn 6 .u8 [.symi .i64 9, .symi .u8 10, .symi .u8 11, .symi .u8 12, .symi .u8 13, .symi .u8 14, .symi .u8 15, .symi .u8 16, .symi .u8 17],
  .fn 7 .u8 [.symi .i64 9, .symi .u8 10, .symi .u8 11, .symi .u8 12, .symi .u8 13, .symi .u8 14, .symi .u8 15, .symi .u8 16, .symi .u8 17],
  .fn 8 .u8 [.symi .i64 9, .symi .u8 10, .symi .u8 11, .symi .u8 12, .symi .u8 13, .symi .u8 14, .symi .u8 15, .symi .u8 16, .symi .u8 17],
  .bin .eql (.symi .i64 33) (.int .i64 0),
  .bin .geq (.symi .u8 20) (.int .u8 4),
  .ite (.symb 43) (.int .u8 0) (.symi .u8 20),
  .ite (.symb 42) (.int .u8 0) (.symi .u8 44),
  .bin .eql (.symi .i64 21) (.int .i64 3),
  .bin .eql (.symi .i64 21) (.int .i64 4),
  .fn 128 .u8 [.symi .i64 24, .symi .u8 25, .symi .u8 26, .symi .u8 27, .symi .u8 28, .symi .u8 29, .symi .u8 30, .symi .u8 31, .symi .u8 32],
  .fn 129 .i64 [.symi .i64 24, .symi .u8 25, .symi .u8 26, .symi .u8 27, .symi .u8 28, .symi .u8 29, .symi .u8 30, .symi .u8 31, .symi .u8 32],
  .fn 130 .u8 [.symi .i64 24, .symi .u8 25, .symi .u8 26, .symi .u8 27, .symi .u8 28, .symi .u8 29, .symi .u8 30, .symi .u8 31, .symi .u8 32],
  .fn 131 .u8 [.symi .i64 24, .symi .u8 25, .symi .u8 26, .symi .u8 27, .symi .u8 28, .symi .u8 29, .symi .u8 30, .symi .u8 31, .symi .u8 32],
  .fn 132 .u8 [.symi .i64 24, .symi .u8 25, .symi .u8 26, .symi .u8 27, .symi .u8 28, .symi .u8 29, .symi .u8 30, .symi .u8 31, .symi .u8 32],
  .fn 133 .u8 [.symi .i64 24, .symi .u8 25, .symi .u8 26, .symi .u8 27, .symi .u8 28, .symi .u8 29, .symi .u8 30, .symi .u8 31, .symi .u8 32],
  .fn 134 .u8 [.symi .i64 24, .symi .u8 25, .symi .u8 26, .symi .u8 27, .symi .u8 28, .symi .u8 29, .symi .u8 30, .symi .u8 31, .symi .u8 32],
  .fn 135 .u8 [.symi .i64 24, .symi .u8 25, .symi .u8 26, .symi .u8 27, .symi .u8 28, .symi .u8 29, .symi .u8 30, .symi .u8 31, .symi .u8 32],
  .fn 136 .u8 [.symi .i64 24, .symi .u8 25, .symi .u8 26, .symi .u8 27, .symi .u8 28, .symi .u8 29, .symi .u8 30, .symi .u8 31, .symi .u8 32],
  .fn 137 .u8 [.symi .i64 24, .symi .u8 25, .symi .u8 26, .symi .u8 27, .symi .u8 28, .symi .u8 29, .symi .u8 30, .symi .u8 31, .symi .u8 32],
  .fnb 138 [.symi .i64 24, .symi .u8 25, .symi .u8 26, .symi .u8 27, .symi .u8 28, .symi .u8 29, .symi .u8 30, .symi .u8 31, .symi .u8 32],
  .ite (.symb 47) (.bool false) (.symb 18),
  .ite (.symb 46) (.symi .i64 49) (.symi .i64 24),
  .ite (.symb 46) (.symi .u8 50) (.symi .u8 25),
  .ite (.symb 46) (.symi .u8 51) (.symi .u8 26),
  .ite (.symb 46) (.symi .u8 52) (.symi .u8 27),
  .ite (.symb 46) (.symi .u8 53) (.symi .u8 28),
  .ite (.symb 46) (.symi .u8 54) (.symi .u8 29),
  .ite (.symb 46) (.symi .u8 55) (.symi .u8 30),
  .ite (.symb 46) (.symi .u8 56) (.symi .u8 31),
  .ite (.symb 46) (.symi .u8 57) (.symi .u8 32),
  .ite (.symb 46) (.symb 18) (.symb 59),
  .ite (.symb 42) (.int .u8 0) (.symi .u8 20),
  .ite (.symb 43) (.int .u8 0) (.symi .u8 70),
  .fn 192 .i32 [.symi .i64 24, .symi .u8 25, .symi .u8 26, .symi .u8 27, .symi .u8 28, .symi .u8 29, .symi .u8 30, .symi .u8 31, .symi .u8 32, .symi .i64 33, .symi .u8 34, .symi .u8 35, .symi .u8 36, .symi .u8 37, .symi .u8 38, .symi .u8 39, .symi .u8 40, .symi .u8 41, .symb 18, .symi .u8 19, .symi .u8 71, .symi .i64 21],
  .conv .u8 (.symi .i32 22),
  .fn 64 .i64 [.symi .i64 24, .symi .u8 25, .symi .u8 26, .symi .u8 27, .symi .u8 28, .symi .u8 29, .symi .u8 30, .symi .u8 31, .symi .u8 32, .symi .u8 73],
  .fn 65 .u8 [.symi .i64 24, .symi .u8 25, .symi .u8 26, .symi .u8 27, .symi .u8 28, .symi .u8 29, .symi .u8 30, .symi .u8 31, .symi .u8 32, .symi .u8 73],
  .fn 66 .u8 [.symi .i64 24, .symi .u8 25, .symi .u8 26, .symi .u8 27, .symi .u8 28, .symi .u8 29, .symi .u8 30, .symi .u8 31, .symi .u8 32, .symi .u8 73],
  .fn 67 .u8 [.symi .i64 24, .symi .u8 25, .symi .u8 26, .symi .u8 27, .symi .u8 28, .symi .u8 29, .symi .u8 30, .symi .u8 31, .symi .u8 32, .symi .u8 73],
  .fn 68 .u8 [.symi .i64 24, .symi .u8 25, .symi .u8 26, .symi .u8 27, .symi .u8 28, .symi .u8 29, .symi .u8 30, .symi .u8 31, .symi .u8 32, .symi .u8 73],
  .fn 69 .u8 [.symi .i64 24, .symi .u8 25, .symi .u8 26, .symi .u8 27, .symi .u8 28, .symi .u8 29, .symi .u8 30, .symi .u8 31, .symi .u8 32, .symi .u8 73],
  .fn 70 .u8 [.symi .i64 24, .symi .u8 25, .symi .u8 26, .symi .u8 27, .symi .u8 28, .symi .u8 29, .symi .u8 30, .symi .u8 31, .symi .u8 32, .symi .u8 73],
  .fn 71 .u8 [.symi .i64 24, .symi .u8 25, .symi .u8 26, .symi .u8 27, .symi .u8 28, .symi .u8 29, .symi .u8 30, .symi .u8 31, .symi .u8 32, .symi .u8 73],
  .fn 72 .u8 [.symi .i64 24, .symi .u8 25, .symi .u8 26, .symi .u8 27, .symi .u8 28, .symi .u8 29, .symi .u8 30, .symi .u8 31, .symi .u8 32, .symi .u8 73],
  .fnb 73 [.symi .i64 24, .symi .u8 25, .symi .u8 26, .symi .u8 27, .symi .u8 28, .symi .u8 29, .symi .u8 30, .symi .u8 31, .symi .u8 32, .symi .u8 73],
  .un .not (.symb 83),
  .bin .and (.symi .u8 19) (.int .u8 1),
  .bin .neq (.symi .u8 85) (.int .u8 0),
  .ite (.symb 83) (.symb 86) (.bool false),
  .ite (.symb 18) (.bool true) (.symb 84),
  .bin .eql (.symi .u8 85) (.int .u8 1),
  .ite (.symb 84) (.symi .i64 24) (.symi .i64 74),
  .ite (.symb 84) (.symi .u8 25) (.symi .u8 75),
  .ite (.symb 84) (.symi .u8 26) (.symi .u8 76),
  .ite (.symb 84) (.symi .u8 27) (.symi .u8 77),
  .ite (.symb 84) (.symi .u8 28) (.symi .u8 78),
  .ite (.symb 84) (.symi .u8 29) (.symi .u8 79),
  .ite (.symb 84) (.symi .u8 30) (.symi .u8 80),
  .ite (.symb 84) (.symi .u8 31) (.symi .u8 81),
  .ite (.symb 84) (.symi .u8 32) (.symi .u8 82),
  .ite (.symb 84) (.bool true) (.symb 18),
  .ite (.symb 84) (.bool false) (.symb 89),
  .bin .gtr (.symi .i64 33) (.int .i64 0),
  .bin .add (.symi .u8 45) (.int .u8 1),
  .bin .eql (.symi .u8 102) (.int .u8 4),
  .fn 128 .u8 [.symi .i64 33, .symi .u8 34, .symi .u8 35, .symi .u8 36, .symi .u8 37, .symi .u8 38, .symi .u8 39, .symi .u8 40, .symi .u8 41],
  .fn 129 .i64 [.symi .i64 33, .symi .u8 34, .symi .u8 35, .symi .u8 36, .symi .u8 37, .symi .u8 38, .symi .u8 39, .symi .u8 40, .symi .u8 41],
  .fn 130 .u8 [.symi .i64 33, .symi .u8 34, .symi .u8 35, .symi .u8 36, .symi .u8 37, .symi .u8 38, .symi .u8 39, .symi .u8 40, .symi .u8 41],
  .fn 131 .u8 [.symi .i64 33, .symi .u8 34, .symi .u8 35, .symi .u8 36, .symi .u8 37, .symi .u8 38, .symi .u8 39, .symi .u8 40, .symi .u8 41],
  .fn 132 .u8 [.symi .i64 33, .symi .u8 34, .symi .u8 35, .symi .u8 36, .symi .u8 37, .symi .u8 38, .symi .u8 39, .symi .u8 40, .symi .u8 41],
  .fn 133 .u8 [.symi .i64 33, .symi .u8 34, .symi .u8 35, .symi .u8 36, .symi .u8 37, .symi .u8 38, .symi .u8 39, .symi .u8 40, .symi .u8 41],
  .fn 134 .u8 [.symi .i64 33, .symi .u8 34, .symi .u8 35, .symi .u8 36, .symi .u8 37, .symi .u8 38, .symi .u8 39, .symi .u8 40, .symi .u8 41],
  .fn 135 .u8 [.symi .i64 33, .symi .u8 34, .symi .u8 35, .symi .u8 36, .symi .u8 37, .symi .u8 38, .symi .u8 39, .symi .u8 40, .symi .u8 41],
  .fn 136 .u8 [.symi .i64 33, .symi .u8 34, .symi .u8 35, .symi .u8 36, .symi .u8 37, .symi .u8 38, .symi .u8 39, .symi .u8 40, .symi .u8 41],
  .fn 137 .u8 [.symi .i64 33, .symi .u8 34, .symi .u8 35, .symi .u8 36, .symi .u8 37, .symi .u8 38, .symi .u8 39, .symi .u8 40, .symi .u8 41],
  .fnb 138 [.symi .i64 33, .symi .u8 34, .symi .u8 35, .symi .u8 36, .symi .u8 37, .symi .u8 38, .symi .u8 39, .symi .u8 40, .symi .u8 41],
  .bin .eql (.symi .i64 105) (.int .i64 0),
  .bin .and (.symi .u8 19) (.int .u8 2),
  .bin .neq (.symi .u8 116) (.int .u8 0),
  .ite (.symb 115) (.symb 117) (.bool false),
  .ite (.symb 103) (.symi .i64 105) (.symi .i64 33),
  .ite (.symb 103) (.symi .u8 106) (.symi .u8 34),
  .ite (.symb 103) (.symi .u8 107) (.symi .u8 35),
  .ite (.symb 103) (.symi .u8 108) (.symi .u8 36),
  .ite (.symb 103) (.symi .u8 109) (.symi .u8 37),
  .ite (.symb 103) (.symi .u8 110) (.symi .u8 38),
  .ite (.symb 103) (.symi .u8 111) (.symi .u8 39),
  .ite (.symb 103) (.symi .u8 112) (.symi .u8 40),
  .ite (.symb 103) (.symi .u8 113) (.symi .u8 41),
  .ite (.symb 103) (.int .u8 0) (.symi .u8 102),
  .ite (.symb 103) (.symi .u8 104) (.int .u8 0),
  .ite (.symb 103) (.symb 114) (.bool false),
  .ite (.symb 103) (.symb 118) (.bool false),
  .ite (.symb 101) (.symi .i64 119) (.symi .i64 33),
  .ite (.symb 101) (.symi .u8 120) (.symi .u8 34),
  .ite (.symb 101) (.symi .u8 121) (.symi .u8 35),
  .ite (.symb 101) (.symi .u8 122) (.symi .u8 36),
  .ite (.symb 101) (.symi .u8 123) (.symi .u8 37),
  .ite (.symb 101) (.symi .u8 124) (.symi .u8 38),
  .ite (.symb 101) (.symi .u8 125) (.symi .u8 39),
  .ite (.symb 101) (.symi .u8 126) (.symi .u8 40),
  .ite (.symb 101) (.symi .u8 127) (.symi .u8 41),
  .ite (.symb 101) (.symi .u8 128) (.symi .u8 45),
  .ite (.symb 101) (.symi .u8 129) (.int .u8 0),
  .ite (.symb 101) (.symb 130) (.bool false),
  .ite (.symb 101) (.symb 131) (.bool false),
  .bin .add (.symi .u8 71) (.int .u8 1),
  .bin .lss (.symi .u8 145) (.int .u8 4),
  .bin .quo (.symi .u8 19) (.int .u8 2),
  .bin .rem (.symi .u8 147) (.int .u8 2),
  .bin .eql (.symi .u8 148) (.int .u8 1),
  .ite (.symb 115) (.symb 149) (.bool false),
  .ite (.symb 146) (.symi .i64 33) (.symi .i64 105),
  .ite (.symb 146) (.symi .u8 34) (.symi .u8 106),
  .ite (.symb 146) (.symi .u8 35) (.symi .u8 107),
  .ite (.symb 146) (.symi .u8 36) (.symi .u8 108),
  .ite (.symb 146) (.symi .u8 37) (.symi .u8 109),
  .ite (.symb 146) (.symi .u8 38) (.symi .u8 110),
  .ite (.symb 146) (.symi .u8 39) (.symi .u8 111),
  .ite (.symb 146) (.symi .u8 40) (.symi .u8 112),
  .ite (.symb 146) (.symi .u8 41) (.symi .u8 113),
  .ite (.symb 146) (.symi .u8 145) (.int .u8 0),
  .ite (.symb 146) (.int .u8 0) (.symi .u8 104),
  .un .not (.symb 146),
  .ite (.symb 146) (.bool false) (.symb 150),
  .ite (.symb 42) (.symi .i64 33) (.symi .i64 151),
  .ite (.symb 42) (.symi .u8 34) (.symi .u8 152),
  .ite (.symb 42) (.symi .u8 35) (.symi .u8 153),
  .ite (.symb 42) (.symi .u8 36) (.symi .u8 154),
  .ite (.symb 42) (.symi .u8 37) (.symi .u8 155),
  .ite (.symb 42) (.symi .u8 38) (.symi .u8 156),
  .ite (.symb 42) (.symi .u8 39) (.symi .u8 157),
  .ite (.symb 42) (.symi .u8 40) (.symi .u8 158),
  .ite (.symb 42) (.symi .u8 41) (.symi .u8 159),
  .ite (.symb 42) (.symi .u8 71) (.symi .u8 160),
  .ite (.symb 42) (.int .u8 0) (.symi .u8 161),
  .ite (.symb 42) (.bool false) (.symb 162),
  .ite (.symb 42) (.bool false) (.symb 163),
  .bin .eql (.symi .i32 23) (.symi .i32 72),
  .all [(.symb 69, .symb 59), (.symi .u8 45, .symi .u8 71)],
  .fn 64 .i64 [.symi .i64 33, .symi .u8 34, .symi .u8 35, .symi .u8 36, .symi .u8 37, .symi .u8 38, .symi .u8 39, .symi .u8 40, .symi .u8 41, .symi .u8 73],
  .fn 65 .u8 [.symi .i64 33, .symi .u8 34, .symi .u8 35, .symi .u8 36, .symi .u8 37, .symi .u8 38, .symi .u8 39, .symi .u8 40, .symi .u8 41, .symi .u8 73],
  .fn 66 .u8 [.symi .i64 33, .symi .u8 34, .symi .u8 35, .symi .u8 36, .symi .u8 37, .symi .u8 38, .symi .u8 39, .symi .u8 40, .symi .u8 41, .symi .u8 73],
  .fn 67 .u8 [.symi .i64 33, .symi .u8 34, .symi .u8 35, .symi .u8 36, .symi .u8 37, .symi .u8 38, .symi .u8 39, .symi .u8 40, .symi .u8 41, .symi .u8 73],
  .fn 68 .u8 [.symi .i64 33, .symi .u8 34, .symi .u8 35, .symi .u8 36, .symi .u8 37, .symi .u8 38, .symi .u8 39, .symi .u8 40, .symi .u8 41, .symi .u8 73],
  .fn 69 .u8 [.symi .i64 33, .symi .u8 34, .symi .u8 35, .symi .u8 36, .symi .u8 37, .symi .u8 38, .symi .u8 39, .symi .u8 40, .symi .u8 41, .symi .u8 73],
  .fn 70 .u8 [.symi .i64 33, .symi .u8 34, .symi .u8 35, .symi .u8 36, .symi .u8 37, .symi .u8 38, .symi .u8 39, .symi .u8 40, .symi .u8 41, .symi .u8 73],
  .fn 71 .u8 [.symi .i64 33, .symi .u8 34, .symi .u8 35, .symi .u8 36, .symi .u8 37, .symi .u8 38, .symi .u8 39, .symi .u8 40, .symi .u8 41, .symi .u8 73],
  .fn 72 .u8 [.symi .i64 33, .symi .u8 34, .symi .u8 35, .symi .u8 36, .symi .u8 37, .symi .u8 38, .symi .u8 39, .symi .u8 40, .symi .u8 41, .symi .u8 73],
  .fnb 73 [.symi .i64 33, .symi .u8 34, .symi .u8 35, .symi .u8 36, .symi .u8 37, .symi .u8 38, .symi .u8 39, .symi .u8 40, .symi .u8 41, .symi .u8 73],
  .bin .eql (.symi .i64 21) (.int .i64 5),
  .ite (.symb 189) (.symi .u8 73) (.symi .u8 19),
  .ite (.symb 46) (.symi .i64 179) (.symi .i64 33),
  .ite (.symb 46) (.symi .u8 180) (.symi .u8 34),
  .ite (.symb 46) (.symi .u8 181) (.symi .u8 35),
  .ite (.symb 46) (.symi .u8 182) (.symi .u8 36),
  .ite (.symb 46) (.symi .u8 183) (.symi .u8 37),
  .ite (.symb 46) (.symi .u8 184) (.symi .u8 38),
  .ite (.symb 46) (.symi .u8 185) (.symi .u8 39),
  .ite (.symb 46) (.symi .u8 186) (.symi .u8 40),
  .ite (.symb 46) (.symi .u8 187) (.symi .u8 41),
  .ite (.symb 46) (.symi .u8 19) (.symi .u8 190),
  .all [(.symi .u8 200, .symi .u8 190), (.symi .u8 45, .symi .u8 71)],
  .all [(.symi .i64 74, .symi .i64 90), (.symi .u8 75, .symi .u8 91), (.symi .u8 76, .symi .u8 92), (.symi .u8 77, .symi .u8 93), (.symi .u8 78, .symi .u8 94), (.symi .u8 79, .symi .u8 95), (.symi .u8 80, .symi .u8 96), (.symi .u8 81, .symi .u8 97), (.symi .u8 82, .symi .u8 98), (.symb 88, .symb 99), (.symi .u8 45, .symi .u8 71)],
  .bin .eql (.symb 87) (.symb 100),
  .all [(.symi .i64 132, .symi .i64 164), (.symi .u8 133, .symi .u8 165), (.symi .u8 134, .symi .u8 166), (.symi .u8 135, .symi .u8 167), (.symi .u8 136, .symi .u8 168), (.symi .u8 137, .symi .u8 169), (.symi .u8 138, .symi .u8 170), (.symi .u8 139, .symi .u8 171), (.symi .u8 140, .symi .u8 172), (.symi .u8 141, .symi .u8 173)],
  .bin .eql (.symi .u8 142) (.symi .u8 174),
  .bin .eql (.symb 143) (.symb 175),
  .bin .eql (.symb 144) (.symb 176),
  .all [(.symi .u8 45, .symi .u8 71)],
  .ite (.symb 207) (.symb 208) (.bool false),
  .ite (.symb 206) (.symb 209) (.bool false),
  .ite (.symb 205) (.symb 210) (.bool false),
  .ite (.symb 204) (.symb 211) (.bool false),
  .ite (.symb 203) (.symb 212) (.bool false),
  .ite (.symb 202) (.symb 213) (.bool false),
  .ite (.symb 201) (.symb 214) (.bool false),
  .ite (.symb 178) (.symb 215) (.bool false),
  .ite (.symb 177) (.symb 216) (.bool false)]

set_option maxRecDepth 100000 in
def ualT : LT := .n (.n (.n (.n (.n (.n (.n (.n (.e) 9148490 95 (.ite (.symb 84) (.symi .u8 29) (.symi .u8 79)) (.e)) 23804896 160 (.ite (.symb 146) (.symi .u8 145) (.int .u8 0)) (.n (.e) 54775043 188 (.fnb 73 [.symi .i64 33, .symi .u8 34, .symi .u8 35, .symi .u8 36, .symi .u8 37, .symi .u8 38, .symi .u8 39, .symi .u8 40, .symi .u8 41, .symi .u8 73]) (.e))) 72572118 135 (.ite (.symb 101) (.symi .u8 122) (.symi .u8 36)) (.n (.n (.e) 82843159 104 (.fn 128 .u8 [.symi .i64 33, .symi .u8 34, .symi .u8 35, .symi .u8 36, .symi .u8 37, .symi .u8 38, .symi .u8 39, .symi .u8 40, .symi .u8 41]) (.e)) 82843202 105 (.fn 129 .i64 [.symi .i64 33, .symi .u8 34, .symi .u8 35, .symi .u8 36, .symi .u8 37, .symi .u8 38, .symi .u8 39, .symi .u8 40, .symi .u8 41]) (.e))) 82843245 106 (.fn 130 .u8 [.symi .i64 33, .symi .u8 34, .symi .u8 35, .symi .u8 36, .symi .u8 37, .symi .u8 38, .symi .u8 39, .symi .u8 40, .symi .u8 41]) (.n (.n (.n (.e) 82843288 107 (.fn 131 .u8 [.symi .i64 33, .symi .u8 34, .symi .u8 35, .symi .u8 36, .symi .u8 37, .symi .u8 38, .symi .u8 39, .symi .u8 40, .symi .u8 41]) (.e)) 82843331 108 (.fn 132 .u8 [.symi .i64 33, .symi .u8 34, .symi .u8 35, .symi .u8 36, .symi .u8 37, .symi .u8 38, .symi .u8 39, .symi .u8 40, .symi .u8 41]) (.e)) 82843374 109 (.fn 133 .u8 [.symi .i64 33, .symi .u8 34, .symi .u8 35, .symi .u8 36, .symi .u8 37, .symi .u8 38, .symi .u8 39, .symi .u8 40, .symi .u8 41]) (.n (.n (.e) 82843417 110 (.fn 134 .u8 [.symi .i64 33, .symi .u8 34, .symi .u8 35, .symi .u8 36, .symi .u8 37, .symi .u8 38, .symi .u8 39, .symi .u8 40, .symi .u8 41]) (.e)) 82843460 111 (.fn 135 .u8 [.symi .i64 33, .symi .u8 34, .symi .u8 35, .symi .u8 36, .symi .u8 37, .symi .u8 38, .symi .u8 39, .symi .u8 40, .symi .u8 41]) (.e)))) 82843503 112 (.fn 136 .u8 [.symi .i64 33, .symi .u8 34, .symi .u8 35, .symi .u8 36, .symi .u8 37, .symi .u8 38, .symi .u8 39, .symi .u8 40, .symi .u8 41]) (.n (.n (.n (.n (.e) 82843546 113 (.fn 137 .u8 [.symi .i64 33, .symi .u8 34, .symi .u8 35, .symi .u8 36, .symi .u8 37, .symi .u8 38, .symi .u8 39, .symi .u8 40, .symi .u8 41]) (.e)) 84496067 174 (.ite (.symb 42) (.int .u8 0) (.symi .u8 161)) (.e)) 90805399 154 (.ite (.symb 146) (.symi .u8 36) (.symi .u8 108)) (.n (.n (.e) 91899125 67 (.ite (.symb 46) (.symi .u8 56) (.symi .u8 31)) (.e)) 96541978 167 (.ite (.symb 42) (.symi .u8 36) (.symi .u8 154)) (.e))) 111794912 42 (.bin .eql (.symi .i64 33) (.int .i64 0)) (.n (.n (.n (.e) 111794940 101 (.bin .gtr (.symi .i64 33) (.int .i64 0)) (.e)) 112015566 201 (.all [(.symi .u8 200, .symi .u8 190), (.symi .u8 45, .symi .u8 71)]) (.e)) 112057788 121 (.ite (.symb 103) (.symi .u8 107) (.symi .u8 35)) (.n (.n (.e) 118523476 73 (.conv .u8 (.symi .i32 22)) (.e)) 119865699 197 (.ite (.symb 46) (.symi .u8 185) (.symi .u8 39)) (.e))))) 124110504 143 (.ite (.symb 101) (.symb 130) (.bool false)) (.n (.n (.n (.n (.n (.e) 133110801 118 (.ite (.symb 115) (.symb 117) (.bool false)) (.e)) 139376479 60 (.ite (.symb 46) (.symi .i64 49) (.symi .i64 24)) (.e)) 154119588 88 (.ite (.symb 18) (.bool true) (.symb 84)) (.n (.n (.e) 165524660 130 (.ite (.symb 103) (.symb 114) (.bool false)) (.e)) 178095223 141 (.ite (.symb 101) (.symi .u8 128) (.symi .u8 45)) (.e))) 182887617 92 (.ite (.symb 84) (.symi .u8 26) (.symi .u8 76)) (.n (.n (.n (.e) 192676732 48 (.fn 128 .u8 [.symi .i64 24, .symi .u8 25, .symi .u8 26, .symi .u8 27, .symi .u8 28, .symi .u8 29, .symi .u8 30, .symi .u8 31, .symi .u8 32]) (.e)) 192676775 49 (.fn 129 .i64 [.symi .i64 24, .symi .u8 25, .symi .u8 26, .symi .u8 27, .symi .u8 28, .symi .u8 29, .symi .u8 30, .symi .u8 31, .symi .u8 32]) (.e)) 192676818 50 (.fn 130 .u8 [.symi .i64 24, .symi .u8 25, .symi .u8 26, .symi .u8 27, .symi .u8 28, .symi .u8 29, .symi .u8 30, .symi .u8 31, .symi .u8 32]) (.n (.n (.e) 192676861 51 (.fn 131 .u8 [.symi .i64 24, .symi .u8 25, .symi .u8 26, .symi .u8 27, .symi .u8 28, .symi .u8 29, .symi .u8 30, .symi .u8 31, .symi .u8 32]) (.e)) 192676904 52 (.fn 132 .u8 [.symi .i64 24, .symi .u8 25, .symi .u8 26, .symi .u8 27, .symi .u8 28, .symi .u8 29, .symi .u8 30, .symi .u8 31, .symi .u8 32]) (.e)))) 192676947 53 (.fn 133 .u8 [.symi .i64 24, .symi .u8 25, .symi .u8 26, .symi .u8 27, .symi .u8 28, .symi .u8 29, .symi .u8 30, .symi .u8 31, .symi .u8 32]) (.n (.n (.n (.n (.e) 192676990 54 (.fn 134 .u8 [.symi .i64 24, .symi .u8 25, .symi .u8 26, .symi .u8 27, .symi .u8 28, .symi .u8 29, .symi .u8 30, .symi .u8 31, .symi .u8 32]) (.e)) 192677033 55 (.fn 135 .u8 [.symi .i64 24, .symi .u8 25, .symi .u8 26, .symi .u8 27, .symi .u8 28, .symi .u8 29, .symi .u8 30, .symi .u8 31, .symi .u8 32]) (.e)) 192677076 56 (.fn 136 .u8 [.symi .i64 24, .symi .u8 25, .symi .u8 26, .symi .u8 27, .symi .u8 28, .symi .u8 29, .symi .u8 30, .symi .u8 31, .symi .u8 32]) (.n (.n (.e) 192677119 57 (.fn 137 .u8 [.symi .i64 24, .symi .u8 25, .symi .u8 26, .symi .u8 27, .symi .u8 28, .symi .u8 29, .symi .u8 30, .symi .u8 31, .symi .u8 32]) (.e)) 198833891 139 (.ite (.symb 101) (.symi .u8 126) (.symi .u8 40)) (.e))) 200949318 177 (.bin .eql (.symi .i32 23) (.symi .i32 72)) (.n (.n (.n (.e) 203066531 203 (.bin .eql (.symb 87) (.symb 100)) (.e)) 215468843 208 (.all [(.symi .u8 45, .symi .u8 71)]) (.e)) 217067172 158 (.ite (.symb 146) (.symi .u8 40) (.symi .u8 112)) (.n (.n (.e) 217925691 23 (.fn 192 .i32 [.symi .i64 0, .symi .u8 1, .symi .u8 2, .symi .u8 3, .symi .u8 4, .symi .u8 5, .symi .u8 6, .symi .u8 7, .symi .u8 8, .symi .i64 9, .symi .u8 10, .symi .u8 11, .symi .u8 12, .symi .u8 13, .symi .u8 14, .symi .u8 15, .symi .u8 16, .symi .u8 17, .symb 18, .symi .u8 19, .symi .u8 20, .symi .i64 21]) (.e)) 222803751 171 (.ite (.symb 42) (.symi .u8 40) (.symi .u8 158)) (.e)))))) 236233368 175 (.ite (.symb 42) (.bool false) (.symb 162)) (.n (.n (.n (.n (.n (.n (.e) 238319561 125 (.ite (.symb 103) (.symi .u8 111) (.symi .u8 39)) (.e)) 242542880 202 (.all [(.symi .i64 74, .symi .i64 90), (.symi .u8 75, .symi .u8 91), (.symi .u8 76, .symi .u8 92), (.symi .u8 77, .symi .u8 93), (.symi .u8 78, .symi .u8 94), (.symi .u8 79, .symi .u8 95), (.symi .u8 80, .symi .u8 96), (.symi .u8 81, .symi .u8 97), (.symi .u8 82, .symi .u8 98), (.symb 88, .symb 99), (.symi .u8 45, .symi .u8 71)]) (.n (.e) 244696828 178 (.all [(.symb 69, .symb 59), (.symi .u8 45, .symi .u8 71)]) (.e))) 246311245 132 (.ite (.symb 101) (.symi .i64 119) (.symi .i64 33)) (.n (.n (.e) 250106679 102 (.bin .add (.symi .u8 45) (.int .u8 1)) (.e)) 264544526 151 (.ite (.symb 146) (.symi .i64 33) (.symi .i64 105)) (.e))) 265638252 64 (.ite (.symb 46) (.symi .u8 53) (.symi .u8 28)) (.n (.n (.n (.e) 268268734 70 (.ite (.symb 42) (.int .u8 0) (.symi .u8 20)) (.e)) 270281105 164 (.ite (.symb 42) (.symi .i64 33) (.symi .i64 151)) (.e)) 273115421 144 (.ite (.symb 101) (.symb 131) (.bool false)) (.n (.n (.e) 289462516 190 (.ite (.symb 189) (.symi .u8 73) (.symi .u8 19)) (.e)) 293604826 194 (.ite (.symb 46) (.symi .u8 182) (.symi .u8 36)) (.e)))) 309149390 96 (.ite (.symb 84) (.symi .u8 30) (.symi .u8 80)) (.n (.n (.n (.n (.e) 334343554 200 (.ite (.symb 46) (.symi .u8 19) (.symi .u8 190)) (.e)) 372573018 136 (.ite (.symb 101) (.symi .u8 123) (.symi .u8 37)) (.e)) 375727183 33 (.fn 0 .i64 [.symi .i64 9, .symi .u8 10, .symi .u8 11, .symi .u8 12, .symi .u8 13, .symi .u8 14, .symi .u8 15, .symi .u8 16, .symi .u8 17]) (.n (.n (.e) 375727226 34 (.fn 1 .u8 [.symi .i64 9, .symi .u8 10, .symi .u8 11, .symi .u8 12, .symi .u8 13, .symi .u8 14, .symi .u8 15, .symi .u8 16, .symi .u8 17]) (.e)) 375727269 35 (.fn 2 .u8 [.symi .i64 9, .symi .u8 10, .symi .u8 11, .symi .u8 12, .symi .u8 13, .symi .u8 14, .symi .u8 15, .symi .u8 16, .symi .u8 17]) (.e))) 375727312 36 (.fn 3 .u8 [.symi .i64 9, .symi .u8 10, .symi .u8 11, .symi .u8 12, .symi .u8 13, .symi .u8 14, .symi .u8 15, .symi .u8 16, .symi .u8 17]) (.n (.n (.n (.e) 375727355 37 (.fn 4 .u8 [.symi .i64 9, .symi .u8 10, .symi .u8 11, .symi .u8 12, .symi .u8 13, .symi .u8 14, .symi .u8 15, .symi .u8 16, .symi .u8 17]) (.e)) 375727398 38 (.fn 5 .u8 [.symi .i64 9, .symi .u8 10, .symi .u8 11, .symi .u8 12, .symi .u8 13, .symi .u8 14, .symi .u8 15, .symi .u8 16, .symi .u8 17]) (.e)) 375727441 39 (.fn 6 .u8 [.symi .i64 9, .symi .u8 10, .symi .u8 11, .symi .u8 12, .symi .u8 13, .symi .u8 14, .symi .u8 15, .symi .u8 16, .symi .u8 17]) (.n (.n (.e) 375727484 40 (.fn 7 .u8 [.symi .i64 9, .symi .u8 10, .symi .u8 11, .symi .u8 12, .symi .u8 13, .symi .u8 14, .symi .u8 15, .symi .u8 16, .symi .u8 17]) (.e)) 375727527 41 (.fn 8 .u8 [.symi .i64 9, .symi .u8 10, .symi .u8 11, .symi .u8 12, .symi .u8 13, .symi .u8 14, .symi .u8 15, .symi .u8 16, .symi .u8 17]) (.e))))) 387238351 176 (.ite (.symb 42) (.bool false) (.symb 163)) (.n (.n (.n (.n (.n (.e) 390806299 155 (.ite (.symb 146) (.symi .u8 37) (.symi .u8 109)) (.e)) 391900025 68 (.ite (.symb 46) (.symi .u8 57) (.symi .u8 32)) (.e)) 396542878 168 (.ite (.symb 42) (.symi .u8 37) (.symi .u8 155)) (.n (.n (.e) 407273321 44 (.ite (.symb 43) (.int .u8 0) (.symi .u8 20)) (.e)) 412058688 122 (.ite (.symb 103) (.symi .u8 108) (.symi .u8 36)) (.e))) 419771398 100 (.ite (.symb 84) (.bool false) (.symb 89)) (.n (.n (.n (.e) 419866599 198 (.ite (.symb 46) (.symi .u8 186) (.symi .u8 40)) (.e)) 435835279 99 (.ite (.symb 84) (.bool true) (.symb 18)) (.e)) 439377379 61 (.ite (.symb 46) (.symi .u8 50) (.symi .u8 25)) (.n (.n (.e) 441103182 71 (.ite (.symb 43) (.int .u8 0) (.symi .u8 70)) (.e)) 467343953 191 (.ite (.symb 46) (.symi .i64 179) (.symi .i64 33)) (.e)))) 482888517 93 (.ite (.symb 84) (.symi .u8 27) (.symi .u8 77)) (.n (.n (.n (.n (.e) 485560756 24 (.fn 0 .i64 [.symi .i64 0, .symi .u8 1, .symi .u8 2, .symi .u8 3, .symi .u8 4, .symi .u8 5, .symi .u8 6, .symi .u8 7, .symi .u8 8]) (.e)) 485560799 25 (.fn 1 .u8 [.symi .i64 0, .symi .u8 1, .symi .u8 2, .symi .u8 3, .symi .u8 4, .symi .u8 5, .symi .u8 6, .symi .u8 7, .symi .u8 8]) (.e)) 485560842 26 (.fn 2 .u8 [.symi .i64 0, .symi .u8 1, .symi .u8 2, .symi .u8 3, .symi .u8 4, .symi .u8 5, .symi .u8 6, .symi .u8 7, .symi .u8 8]) (.n (.n (.e) 485560885 27 (.fn 3 .u8 [.symi .i64 0, .symi .u8 1, .symi .u8 2, .symi .u8 3, .symi .u8 4, .symi .u8 5, .symi .u8 6, .symi .u8 7, .symi .u8 8]) (.e)) 485560928 28 (.fn 4 .u8 [.symi .i64 0, .symi .u8 1, .symi .u8 2, .symi .u8 3, .symi .u8 4, .symi .u8 5, .symi .u8 6, .symi .u8 7, .symi .u8 8]) (.e))) 485560971 29 (.fn 5 .u8 [.symi .i64 0, .symi .u8 1, .symi .u8 2, .symi .u8 3, .symi .u8 4, .symi .u8 5, .symi .u8 6, .symi .u8 7, .symi .u8 8]) (.n (.n (.n (.e) 485561014 30 (.fn 6 .u8 [.symi .i64 0, .symi .u8 1, .symi .u8 2, .symi .u8 3, .symi .u8 4, .symi .u8 5, .symi .u8 6, .symi .u8 7, .symi .u8 8]) (.e)) 485561057 31 (.fn 7 .u8 [.symi .i64 0, .symi .u8 1, .symi .u8 2, .symi .u8 3, .symi .u8 4, .symi .u8 5, .symi .u8 6, .symi .u8 7, .symi .u8 8]) (.e)) 485561100 32 (.fn 8 .u8 [.symi .i64 0, .symi .u8 1, .symi .u8 2, .symi .u8 3, .symi .u8 4, .symi .u8 5, .symi .u8 6, .symi .u8 7, .symi .u8 8]) (.n (.n (.e) 494774296 206 (.bin .eql (.symb 143) (.symb 175)) (.e)) 498834791 140 (.ite (.symb 101) (.symi .u8 127) (.symi .u8 41)) (.e))))))) 517068072 159 (.ite (.symb 146) (.symi .u8 41) (.symi .u8 113)) (.n (.n (.n (.n (.n (.n (.n (.e) 522804651 172 (.ite (.symb 42) (.symi .u8 41) (.symi .u8 159)) (.e)) 536617492 72 (.fn 192 .i32 [.symi .i64 24, .symi .u8 25, .symi .u8 26, .symi .u8 27, .symi .u8 28, .symi .u8 29, .symi .u8 30, .symi .u8 31, .symi .u8 32, .symi .i64 33, .symi .u8 34, .symi .u8 35, .symi .u8 36, .symi .u8 37, .symi .u8 38, .symi .u8 39, .symi .u8 40, .symi .u8 41, .symb 18, .symi .u8 19, .symi .u8 71, .symi .i64 21]) (.n (.e) 538320461 126 (.ite (.symb 103) (.symi .u8 112) (.symi .u8 40)) (.e))) 546312145 133 (.ite (.symb 101) (.symi .u8 120) (.symi .u8 34)) (.n (.n (.e) 564545426 152 (.ite (.symb 146) (.symi .u8 34) (.symi .u8 106)) (.e)) 565238159 161 (.ite (.symb 146) (.int .u8 0) (.symi .u8 104)) (.e))) 565639152 65 (.ite (.symb 46) (.symi .u8 54) (.symi .u8 29)) (.n (.n (.n (.e) 570282005 165 (.ite (.symb 42) (.symi .u8 34) (.symi .u8 152)) (.e)) 585797815 119 (.ite (.symb 103) (.symi .i64 105) (.symi .i64 33)) (.e)) 593605726 195 (.ite (.symb 46) (.symi .u8 183) (.symi .u8 37)) (.n (.n (.e) 606300837 150 (.ite (.symb 115) (.symb 149) (.bool false)) (.e)) 609150290 97 (.ite (.symb 84) (.symi .u8 31) (.symi .u8 81)) (.e)))) 638564997 103 (.bin .eql (.symi .u8 102) (.int .u8 4)) (.n (.n (.n (.n (.e) 655865111 179 (.fn 64 .i64 [.symi .i64 33, .symi .u8 34, .symi .u8 35, .symi .u8 36, .symi .u8 37, .symi .u8 38, .symi .u8 39, .symi .u8 40, .symi .u8 41, .symi .u8 73]) (.e)) 655865154 180 (.fn 65 .u8 [.symi .i64 33, .symi .u8 34, .symi .u8 35, .symi .u8 36, .symi .u8 37, .symi .u8 38, .symi .u8 39, .symi .u8 40, .symi .u8 41, .symi .u8 73]) (.e)) 655865197 181 (.fn 66 .u8 [.symi .i64 33, .symi .u8 34, .symi .u8 35, .symi .u8 36, .symi .u8 37, .symi .u8 38, .symi .u8 39, .symi .u8 40, .symi .u8 41, .symi .u8 73]) (.n (.n (.e) 655865240 182 (.fn 67 .u8 [.symi .i64 33, .symi .u8 34, .symi .u8 35, .symi .u8 36, .symi .u8 37, .symi .u8 38, .symi .u8 39, .symi .u8 40, .symi .u8 41, .symi .u8 73]) (.e)) 655865283 183 (.fn 68 .u8 [.symi .i64 33, .symi .u8 34, .symi .u8 35, .symi .u8 36, .symi .u8 37, .symi .u8 38, .symi .u8 39, .symi .u8 40, .symi .u8 41, .symi .u8 73]) (.e))) 655865326 184 (.fn 69 .u8 [.symi .i64 33, .symi .u8 34, .symi .u8 35, .symi .u8 36, .symi .u8 37, .symi .u8 38, .symi .u8 39, .symi .u8 40, .symi .u8 41, .symi .u8 73]) (.n (.n (.n (.e) 655865369 185 (.fn 70 .u8 [.symi .i64 33, .symi .u8 34, .symi .u8 35, .symi .u8 36, .symi .u8 37, .symi .u8 38, .symi .u8 39, .symi .u8 40, .symi .u8 41, .symi .u8 73]) (.e)) 655865412 186 (.fn 71 .u8 [.symi .i64 33, .symi .u8 34, .symi .u8 35, .symi .u8 36, .symi .u8 37, .symi .u8 38, .symi .u8 39, .symi .u8 40, .symi .u8 41, .symi .u8 73]) (.e)) 655865455 187 (.fn 72 .u8 [.symi .i64 33, .symi .u8 34, .symi .u8 35, .symi .u8 36, .symi .u8 37, .symi .u8 38, .symi .u8 39, .symi .u8 40, .symi .u8 41, .symi .u8 73]) (.n (.n (.e) 656627644 90 (.ite (.symb 84) (.symi .i64 24) (.symi .i64 74)) (.e)) 661375291 59 (.ite (.symb 47) (.bool false) (.symb 18)) (.e))))) 671054125 45 (.ite (.symb 42) (.int .u8 0) (.symi .u8 44)) (.n (.n (.n (.n (.n (.e) 672573918 137 (.ite (.symb 101) (.symi .u8 124) (.symi .u8 38)) (.e)) 686610732 146 (.bin .lss (.symi .u8 145) (.int .u8 4)) (.e)) 690807199 156 (.ite (.symb 146) (.symi .u8 38) (.symi .u8 110)) (.n (.n (.e) 696543778 169 (.ite (.symb 42) (.symi .u8 38) (.symi .u8 156)) (.e)) 708728103 204 (.all [(.symi .i64 132, .symi .i64 164), (.symi .u8 133, .symi .u8 165), (.symi .u8 134, .symi .u8 166), (.symi .u8 135, .symi .u8 167), (.symi .u8 136, .symi .u8 168), (.symi .u8 137, .symi .u8 169), (.symi .u8 138, .symi .u8 170), (.symi .u8 139, .symi .u8 171), (.symi .u8 140, .symi .u8 172), (.symi .u8 141, .symi .u8 173)]) (.e))) 711176404 209 (.ite (.symb 207) (.symb 208) (.bool false)) (.n (.n (.n (.e) 712059588 123 (.ite (.symb 103) (.symi .u8 109) (.symi .u8 37)) (.e)) 719867499 199 (.ite (.symb 46) (.symi .u8 187) (.symi .u8 41)) (.e)) 721176734 210 (.ite (.symb 206) (.symb 209) (.bool false)) (.n (.n (.e) 726079348 58 (.fnb 138 [.symi .i64 24, .symi .u8 25, .symi .u8 26, .symi .u8 27, .symi .u8 28, .symi .u8 29, .symi .u8 30, .symi .u8 31, .symi .u8 32]) (.e)) 728490974 128 (.ite (.symb 103) (.int .u8 0) (.symi .u8 102)) (.e)))) 728630903 145 (.bin .add (.symi .u8 71) (.int .u8 1)) (.n (.n (.n (.n (.e) 729488033 87 (.ite (.symb 83) (.symb 86) (.bool false)) (.e)) 731177064 211 (.ite (.symb 205) (.symb 210) (.bool false)) (.e)) 739378279 62 (.ite (.symb 46) (.symi .u8 51) (.symi .u8 26)) (.n (.n (.e) 741177394 212 (.ite (.symb 204) (.symb 211) (.bool false)) (.e)) 751177724 213 (.ite (.symb 203) (.symb 212) (.bool false)) (.e))) 761178054 214 (.ite (.symb 202) (.symb 213) (.bool false)) (.n (.n (.n (.e) 761544328 131 (.ite (.symb 103) (.symb 118) (.bool false)) (.e)) 765698684 74 (.fn 64 .i64 [.symi .i64 24, .symi .u8 25, .symi .u8 26, .symi .u8 27, .symi .u8 28, .symi .u8 29, .symi .u8 30, .symi .u8 31, .symi .u8 32, .symi .u8 73]) (.e)) 765698727 75 (.fn 65 .u8 [.symi .i64 24, .symi .u8 25, .symi .u8 26, .symi .u8 27, .symi .u8 28, .symi .u8 29, .symi .u8 30, .symi .u8 31, .symi .u8 32, .symi .u8 73]) (.n (.n (.e) 765698770 76 (.fn 66 .u8 [.symi .i64 24, .symi .u8 25, .symi .u8 26, .symi .u8 27, .symi .u8 28, .symi .u8 29, .symi .u8 30, .symi .u8 31, .symi .u8 32, .symi .u8 73]) (.e)) 765698813 77 (.fn 67 .u8 [.symi .i64 24, .symi .u8 25, .symi .u8 26, .symi .u8 27, .symi .u8 28, .symi .u8 29, .symi .u8 30, .symi .u8 31, .symi .u8 32, .symi .u8 73]) (.e)))))) 765698856 78 (.fn 68 .u8 [.symi .i64 24, .symi .u8 25, .symi .u8 26, .symi .u8 27, .symi .u8 28, .symi .u8 29, .symi .u8 30, .symi .u8 31, .symi .u8 32, .symi .u8 73]) (.n (.n (.n (.n (.n (.n (.e) 765698899 79 (.fn 69 .u8 [.symi .i64 24, .symi .u8 25, .symi .u8 26, .symi .u8 27, .symi .u8 28, .symi .u8 29, .symi .u8 30, .symi .u8 31, .symi .u8 32, .symi .u8 73]) (.e)) 765698942 80 (.fn 70 .u8 [.symi .i64 24, .symi .u8 25, .symi .u8 26, .symi .u8 27, .symi .u8 28, .symi .u8 29, .symi .u8 30, .symi .u8 31, .symi .u8 32, .symi .u8 73]) (.n (.e) 765698985 81 (.fn 71 .u8 [.symi .i64 24, .symi .u8 25, .symi .u8 26, .symi .u8 27, .symi .u8 28, .symi .u8 29, .symi .u8 30, .symi .u8 31, .symi .u8 32, .symi .u8 73]) (.e))) 765699028 82 (.fn 72 .u8 [.symi .i64 24, .symi .u8 25, .symi .u8 26, .symi .u8 27, .symi .u8 28, .symi .u8 29, .symi .u8 30, .symi .u8 31, .symi .u8 32, .symi .u8 73]) (.n (.n (.e) 767344853 192 (.ite (.symb 46) (.symi .u8 180) (.symi .u8 34)) (.e)) 771178384 215 (.ite (.symb 201) (.symb 214) (.bool false)) (.e))) 782889417 94 (.ite (.symb 84) (.symi .u8 28) (.symi .u8 78)) (.n (.n (.n (.e) 787843593 162 (.un .not (.symb 146)) (.e)) 805727407 69 (.ite (.symb 46) (.symb 18) (.symb 59)) (.e)) 822491252 129 (.ite (.symb 103) (.symi .u8 104) (.int .u8 0)) (.n (.n (.e) 838321361 127 (.ite (.symb 103) (.symi .u8 113) (.symi .u8 41)) (.e)) 845324317 85 (.bin .and (.symi .u8 19) (.int .u8 1)) (.e)))) 845374338 147 (.bin .quo (.symi .u8 19) (.int .u8 2)) (.n (.n (.n (.n (.e) 845374352 116 (.bin .and (.symi .u8 19) (.int .u8 2)) (.e)) 846313045 134 (.ite (.symb 101) (.symi .u8 121) (.symi .u8 35)) (.e)) 848851206 173 (.ite (.symb 42) (.symi .u8 71) (.symi .u8 160)) (.n (.n (.e) 864546326 153 (.ite (.symb 146) (.symi .u8 35) (.symi .u8 107)) (.e)) 865640052 66 (.ite (.symb 46) (.symi .u8 55) (.symi .u8 30)) (.e))) 867084576 84 (.un .not (.symb 83)) (.n (.n (.n (.e) 870282905 166 (.ite (.symb 42) (.symi .u8 35) (.symi .u8 153)) (.e)) 874538376 83 (.fnb 73 [.symi .i64 24, .symi .u8 25, .symi .u8 26, .symi .u8 27, .symi .u8 28, .symi .u8 29, .symi .u8 30, .symi .u8 31, .symi .u8 32, .symi .u8 73]) (.e)) 885798715 120 (.ite (.symb 103) (.symi .u8 106) (.symi .u8 34)) (.n (.n (.e) 888511205 148 (.bin .rem (.symi .u8 147) (.int .u8 2)) (.e)) 893606626 196 (.ite (.symb 46) (.symi .u8 184) (.symi .u8 38)) (.e))))) 909151190 98 (.ite (.symb 84) (.symi .u8 32) (.symi .u8 82)) (.n (.n (.n (.n (.n (.e) 939431417 207 (.bin .eql (.symb 144) (.symb 176)) (.e)) 941365766 115 (.bin .eql (.symi .i64 105) (.int .i64 0)) (.e)) 944303281 216 (.ite (.symb 178) (.symb 215) (.bool false)) (.n (.n (.e) 946474802 43 (.bin .geq (.symi .u8 20) (.int .u8 4)) (.e)) 954303611 217 (.ite (.symb 177) (.symb 216) (.bool false)) (.e))) 956628544 91 (.ite (.symb 84) (.symi .u8 25) (.symi .u8 75)) (.n (.n (.n (.e) 972574818 138 (.ite (.symb 101) (.symi .u8 125) (.symi .u8 39)) (.e)) 978627279 117 (.bin .neq (.symi .u8 116) (.int .u8 0)) (.e)) 980057842 114 (.fnb 138 [.symi .i64 33, .symi .u8 34, .symi .u8 35, .symi .u8 36, .symi .u8 37, .symi .u8 38, .symi .u8 39, .symi .u8 40, .symi .u8 41]) (.n (.n (.e) 989461522 149 (.bin .eql (.symi .u8 148) (.int .u8 1)) (.e)) 990808099 157 (.ite (.symb 146) (.symi .u8 39) (.symi .u8 111)) (.e)))) 996544678 170 (.ite (.symb 42) (.symi .u8 39) (.symi .u8 157)) (.n (.n (.n (.n (.e) 1012060488 124 (.ite (.symb 103) (.symi .u8 110) (.symi .u8 38)) (.e)) 1039379179 63 (.ite (.symb 46) (.symi .u8 52) (.symi .u8 27)) (.e)) 1047425035 46 (.bin .eql (.symi .i64 21) (.int .i64 3)) (.n (.n (.e) 1047475070 47 (.bin .eql (.symi .i64 21) (.int .i64 4)) (.e)) 1047525105 189 (.bin .eql (.symi .i64 21) (.int .i64 5)) (.e))) 1048267772 142 (.ite (.symb 101) (.symi .u8 129) (.int .u8 0)) (.n (.n (.n (.e) 1067345753 193 (.ite (.symb 46) (.symi .u8 181) (.symi .u8 35)) (.e)) 1068843367 86 (.bin .neq (.symi .u8 85) (.int .u8 0)) (.e)) 1068893395 89 (.bin .eql (.symi .u8 85) (.int .u8 1)) (.n (.n (.e) 1069490523 163 (.ite (.symb 146) (.bool false) (.symb 150)) (.e)) 1071151770 205 (.bin .eql (.symi .u8 142) (.symi .u8 174)) (.e)))))))

set_option maxRecDepth 100000 in
def ualW : Wr' := .run (.leaf (.symb 217))
def ualX : Ing := { m := 23, ins := (cellsOf ualI).map kindC, G := ualG, T := ualT, hook := tblHook (tabOf upFs) upTbl, tab := tabOf upFs }
theorem ual_ok : okG ualG 23 = true := by kernel_rfl
theorem ual_lt : okLT 23 ualG ualT = true := by kernel_rfl
theorem ual_run : okW (fun F => (evD Try.prog (cxOf ualX) true 1000 40).1 F 26 (symSh ualI 0) ⟨[], []⟩) ualW [] = true := by kernel_rfl
set_option maxRecDepth 100000 in
theorem ual_contract : FnOk Try.prog 26 ualI [.one .b] (fun _ => [1]) :=
  fn_of_run (X := ualX) (W := ualW) mixed ⟨rfl, rfl, rfl, rfl, rfl⟩ ual_ok ual_lt (fun F => tbl_hooks ual_lt rfl rfl up_all F) ual_run (fun l σ hl e ht hi hb => by
    have w0 : IntKind.i64.wrap (σ.ival 0) = σ.ival 0 := by rw [hi 0 (by decide)]; exact inR_get hl 0 .i64 rfl
    have w1 : IntKind.u8.wrap (σ.ival 1) = σ.ival 1 := by rw [hi 1 (by decide)]; exact inR_get hl 1 .u8 rfl
    have w2 : IntKind.u8.wrap (σ.ival 2) = σ.ival 2 := by rw [hi 2 (by decide)]; exact inR_get hl 2 .u8 rfl
    have w3 : IntKind.u8.wrap (σ.ival 3) = σ.ival 3 := by rw [hi 3 (by decide)]; exact inR_get hl 3 .u8 rfl
    have w4 : IntKind.u8.wrap (σ.ival 4) = σ.ival 4 := by rw [hi 4 (by decide)]; exact inR_get hl 4 .u8 rfl
    have w5 : IntKind.u8.wrap (σ.ival 5) = σ.ival 5 := by rw [hi 5 (by decide)]; exact inR_get hl 5 .u8 rfl
    have w6 : IntKind.u8.wrap (σ.ival 6) = σ.ival 6 := by rw [hi 6 (by decide)]; exact inR_get hl 6 .u8 rfl
    have w7 : IntKind.u8.wrap (σ.ival 7) = σ.ival 7 := by rw [hi 7 (by decide)]; exact inR_get hl 7 .u8 rfl
    have w8 : IntKind.u8.wrap (σ.ival 8) = σ.ival 8 := by rw [hi 8 (by decide)]; exact inR_get hl 8 .u8 rfl
    have w9 : IntKind.i64.wrap (σ.ival 9) = σ.ival 9 := by rw [hi 9 (by decide)]; exact inR_get hl 9 .i64 rfl
    have w10 : IntKind.u8.wrap (σ.ival 10) = σ.ival 10 := by rw [hi 10 (by decide)]; exact inR_get hl 10 .u8 rfl
    have w11 : IntKind.u8.wrap (σ.ival 11) = σ.ival 11 := by rw [hi 11 (by decide)]; exact inR_get hl 11 .u8 rfl
    have w12 : IntKind.u8.wrap (σ.ival 12) = σ.ival 12 := by rw [hi 12 (by decide)]; exact inR_get hl 12 .u8 rfl
    have w13 : IntKind.u8.wrap (σ.ival 13) = σ.ival 13 := by rw [hi 13 (by decide)]; exact inR_get hl 13 .u8 rfl
    have w14 : IntKind.u8.wrap (σ.ival 14) = σ.ival 14 := by rw [hi 14 (by decide)]; exact inR_get hl 14 .u8 rfl
    have w15 : IntKind.u8.wrap (σ.ival 15) = σ.ival 15 := by rw [hi 15 (by decide)]; exact inR_get hl 15 .u8 rfl
    have w16 : IntKind.u8.wrap (σ.ival 16) = σ.ival 16 := by rw [hi 16 (by decide)]; exact inR_get hl 16 .u8 rfl
    have w17 : IntKind.u8.wrap (σ.ival 17) = σ.ival 17 := by rw [hi 17 (by decide)]; exact inR_get hl 17 .u8 rfl
    have w20 : IntKind.u8.wrap (σ.ival 20) = σ.ival 20 := by rw [hi 20 (by decide)]; exact inR_get hl 20 .u8 rfl
    have w19 : IntKind.u8.wrap (σ.ival 19) = σ.ival 19 := by rw [hi 19 (by decide)]; exact inR_get hl 19 .u8 rfl
    have e23 : σ.ival 23 = IntKind.i32.wrap (σ.tab 192 [σ.ival 0, σ.ival 1, σ.ival 2, σ.ival 3, σ.ival 4, σ.ival 5, σ.ival 6, σ.ival 7, σ.ival 8, σ.ival 9, σ.ival 10, σ.ival 11, σ.ival 12, σ.ival 13, σ.ival 14, σ.ival 15, σ.ival 16, σ.ival 17, (if σ.bval 18 then 1 else 0), σ.ival 19, σ.ival 20, σ.ival 21]) := eqI (e.at 0 _ rfl rfl) rfl
    have e24 : σ.ival 24 = IntKind.i64.wrap (σ.tab 0 [σ.ival 0, σ.ival 1, σ.ival 2, σ.ival 3, σ.ival 4, σ.ival 5, σ.ival 6, σ.ival 7, σ.ival 8]) := eqI (e.at 1 _ rfl rfl) rfl
    have e25 : σ.ival 25 = IntKind.u8.wrap (σ.tab 1 [σ.ival 0, σ.ival 1, σ.ival 2, σ.ival 3, σ.ival 4, σ.ival 5, σ.ival 6, σ.ival 7, σ.ival 8]) := eqI (e.at 2 _ rfl rfl) rfl
    have e26 : σ.ival 26 = IntKind.u8.wrap (σ.tab 2 [σ.ival 0, σ.ival 1, σ.ival 2, σ.ival 3, σ.ival 4, σ.ival 5, σ.ival 6, σ.ival 7, σ.ival 8]) := eqI (e.at 3 _ rfl rfl) rfl
    have e27 : σ.ival 27 = IntKind.u8.wrap (σ.tab 3 [σ.ival 0, σ.ival 1, σ.ival 2, σ.ival 3, σ.ival 4, σ.ival 5, σ.ival 6, σ.ival 7, σ.ival 8]) := eqI (e.at 4 _ rfl rfl) rfl
    have e28 : σ.ival 28 = IntKind.u8.wrap (σ.tab 4 [σ.ival 0, σ.ival 1, σ.ival 2, σ.ival 3, σ.ival 4, σ.ival 5, σ.ival 6, σ.ival 7, σ.ival 8]) := eqI (e.at 5 _ rfl rfl) rfl
    have e29 : σ.ival 29 = IntKind.u8.wrap (σ.tab 5 [σ.ival 0, σ.ival 1, σ.ival 2, σ.ival 3, σ.ival 4, σ.ival 5, σ.ival 6, σ.ival 7, σ.ival 8]) := eqI (e.at 6 _ rfl rfl) rfl
    have e30 : σ.ival 30 = IntKind.u8.wrap (σ.tab 6 [σ.ival 0, σ.ival 1, σ.ival 2, σ.ival 3, σ.ival 4, σ.ival 5, σ.ival 6, σ.ival 7, σ.ival 8]) := eqI (e.at 7 _ rfl rfl) rfl
    have e31 : σ.ival 31 = IntKind.u8.wrap (σ.tab 7 [σ.ival 0, σ.ival 1, σ.ival 2, σ.ival 3, σ.ival 4, σ.ival 5, σ.ival 6, σ.ival 7, σ.ival 8]) := eqI (e.at 8 _ rfl rfl) rfl
    have e32 : σ.ival 32 = IntKind.u8.wrap (σ.tab 8 [σ.ival 0, σ.ival 1, σ.ival 2, σ.ival 3, σ.ival 4, σ.ival 5, σ.ival 6, σ.ival 7, σ.ival 8]) := eqI (e.at 9 _ rfl rfl) rfl
    have e33 : σ.ival 33 = IntKind.i64.wrap (σ.tab 0 [σ.ival 9, σ.ival 10, σ.ival 11, σ.ival 12, σ.ival 13, σ.ival 14, σ.ival 15, σ.ival 16, σ.ival 17]) := eqI (e.at 10 _ rfl rfl) rfl
    have e34 : σ.ival 34 = IntKind.u8.wrap (σ.tab 1 [σ.ival 9, σ.ival 10, σ.ival 11, σ.ival 12, σ.ival 13, σ.ival 14, σ.ival 15, σ.ival 16, σ.ival 17]) := eqI (e.at 11 _ rfl rfl) rfl
    have e35 : σ.ival 35 = IntKind.u8.wrap (σ.tab 2 [σ.ival 9, σ.ival 10, σ.ival 11, σ.ival 12, σ.ival 13, σ.ival 14, σ.ival 15, σ.ival 16, σ.ival 17]) := eqI (e.at 12 _ rfl rfl) rfl
    have e36 : σ.ival 36 = IntKind.u8.wrap (σ.tab 3 [σ.ival 9, σ.ival 10, σ.ival 11, σ.ival 12, σ.ival 13, σ.ival 14, σ.ival 15, σ.ival 16, σ.ival 17]) := eqI (e.at 13 _ rfl rfl) rfl
    have e37 : σ.ival 37 = IntKind.u8.wrap (σ.tab 4 [σ.ival 9, σ.ival 10, σ.ival 11, σ.ival 12, σ.ival 13, σ.ival 14, σ.ival 15, σ.ival 16, σ.ival 17]) := eqI (e.at 14 _ rfl rfl) rfl
    have e38 : σ.ival 38 = IntKind.u8.wrap (σ.tab 5 [σ.ival 9, σ.ival 10, σ.ival 11, σ.ival 12, σ.ival 13, σ.ival 14, σ.ival 15, σ.ival 16, σ.ival 17]) := eqI (e.at 15 _ rfl rfl) rfl
    have e39 : σ.ival 39 = IntKind.u8.wrap (σ.tab 6 [σ.ival 9, σ.ival 10, σ.ival 11, σ.ival 12, σ.ival 13, σ.ival 14, σ.ival 15, σ.ival 16, σ.ival 17]) := eqI (e.at 16 _ rfl rfl) rfl
    have e40 : σ.ival 40 = IntKind.u8.wrap (σ.tab 7 [σ.ival 9, σ.ival 10, σ.ival 11, σ.ival 12, σ.ival 13, σ.ival 14, σ.ival 15, σ.ival 16, σ.ival 17]) := eqI (e.at 17 _ rfl rfl) rfl
    have e41 : σ.ival 41 = IntKind.u8.wrap (σ.tab 8 [σ.ival 9, σ.ival 10, σ.ival 11, σ.ival 12, σ.ival 13, σ.ival 14, σ.ival 15, σ.ival 16, σ.ival 17]) := eqI (e.at 18 _ rfl rfl) rfl
    have e42 : σ.bval 42 = (σ.ival 33 == 0) := eqB (e.at 19 _ rfl rfl) rfl
    have e43 : σ.bval 43 = decide (σ.ival 20 ≥ 4) := eqB (e.at 20 _ rfl rfl) rfl
    have e44 : σ.ival 44 = (bif σ.bval 43 then 0 else σ.ival 20) := eqIteI (e.at 21 _ rfl rfl) rfl rfl rfl
    have e45 : σ.ival 45 = (bif σ.bval 42 then 0 else σ.ival 44) := eqIteI (e.at 22 _ rfl rfl) rfl rfl rfl
    have e46 : σ.bval 46 = (σ.ival 21 == 3) := eqB (e.at 23 _ rfl rfl) rfl
    have e47 : σ.bval 47 = (σ.ival 21 == 4) := eqB (e.at 24 _ rfl rfl) rfl
    have e48 : σ.ival 48 = IntKind.u8.wrap (σ.tab 128 [σ.ival 24, σ.ival 25, σ.ival 26, σ.ival 27, σ.ival 28, σ.ival 29, σ.ival 30, σ.ival 31, σ.ival 32]) := eqI (e.at 25 _ rfl rfl) rfl
    have e49 : σ.ival 49 = IntKind.i64.wrap (σ.tab 129 [σ.ival 24, σ.ival 25, σ.ival 26, σ.ival 27, σ.ival 28, σ.ival 29, σ.ival 30, σ.ival 31, σ.ival 32]) := eqI (e.at 26 _ rfl rfl) rfl
    have e50 : σ.ival 50 = IntKind.u8.wrap (σ.tab 130 [σ.ival 24, σ.ival 25, σ.ival 26, σ.ival 27, σ.ival 28, σ.ival 29, σ.ival 30, σ.ival 31, σ.ival 32]) := eqI (e.at 27 _ rfl rfl) rfl
    have e51 : σ.ival 51 = IntKind.u8.wrap (σ.tab 131 [σ.ival 24, σ.ival 25, σ.ival 26, σ.ival 27, σ.ival 28, σ.ival 29, σ.ival 30, σ.ival 31, σ.ival 32]) := eqI (e.at 28 _ rfl rfl) rfl
    have e52 : σ.ival 52 = IntKind.u8.wrap (σ.tab 132 [σ.ival 24, σ.ival 25, σ.ival 26, σ.ival 27, σ.ival 28, σ.ival 29, σ.ival 30, σ.ival 31, σ.ival 32]) := eqI (e.at 29 _ rfl rfl) rfl
    have e53 : σ.ival 53 = IntKind.u8.wrap (σ.tab 133 [σ.ival 24, σ.ival 25, σ.ival 26, σ.ival 27, σ.ival 28, σ.ival 29, σ.ival 30, σ.ival 31, σ.ival 32]) := eqI (e.at 30 _ rfl rfl) rfl
    have e54 : σ.ival 54 = IntKind.u8.wrap (σ.tab 134 [σ.ival 24, σ.ival 25, σ.ival 26, σ.ival 27, σ.ival 28, σ.ival 29, σ.ival 30, σ.ival 31, σ.ival 32]) := eqI (e.at 31 _ rfl rfl) rfl
    have e55 : σ.ival 55 = IntKind.u8.wrap (σ.tab 135 [σ.ival 24, σ.ival 25, σ.ival 26, σ.ival 27, σ.ival 28, σ.ival 29, σ.ival 30, σ.ival 31, σ.ival 32]) := eqI (e.at 32 _ rfl rfl) rfl
    have e56 : σ.ival 56 = IntKind.u8.wrap (σ.tab 136 [σ.ival 24, σ.ival 25, σ.ival 26, σ.ival 27, σ.ival 28, σ.ival 29, σ.ival 30, σ.ival 31, σ.ival 32]) := eqI (e.at 33 _ rfl rfl) rfl
    have e57 : σ.ival 57 = IntKind.u8.wrap (σ.tab 137 [σ.ival 24, σ.ival 25, σ.ival 26, σ.ival 27, σ.ival 28, σ.ival 29, σ.ival 30, σ.ival 31, σ.ival 32]) := eqI (e.at 34 _ rfl rfl) rfl
    have e58 : σ.bval 58 = (!(σ.tab 138 [σ.ival 24, σ.ival 25, σ.ival 26, σ.ival 27, σ.ival 28, σ.ival 29, σ.ival 30, σ.ival 31, σ.ival 32] == 0)) := eqB (e.at 35 _ rfl rfl) rfl
    have e59 : σ.bval 59 = (bif σ.bval 47 then false else σ.bval 18) := eqIteB (e.at 36 _ rfl rfl) rfl rfl rfl
    have e60 : σ.ival 60 = (bif σ.bval 46 then σ.ival 49 else σ.ival 24) := eqIteI (e.at 37 _ rfl rfl) rfl rfl rfl
    have e61 : σ.ival 61 = (bif σ.bval 46 then σ.ival 50 else σ.ival 25) := eqIteI (e.at 38 _ rfl rfl) rfl rfl rfl
    have e62 : σ.ival 62 = (bif σ.bval 46 then σ.ival 51 else σ.ival 26) := eqIteI (e.at 39 _ rfl rfl) rfl rfl rfl
    have e63 : σ.ival 63 = (bif σ.bval 46 then σ.ival 52 else σ.ival 27) := eqIteI (e.at 40 _ rfl rfl) rfl rfl rfl
    have e64 : σ.ival 64 = (bif σ.bval 46 then σ.ival 53 else σ.ival 28) := eqIteI (e.at 41 _ rfl rfl) rfl rfl rfl
    have e65 : σ.ival 65 = (bif σ.bval 46 then σ.ival 54 else σ.ival 29) := eqIteI (e.at 42 _ rfl rfl) rfl rfl rfl
    have e66 : σ.ival 66 = (bif σ.bval 46 then σ.ival 55 else σ.ival 30) := eqIteI (e.at 43 _ rfl rfl) rfl rfl rfl
    have e67 : σ.ival 67 = (bif σ.bval 46 then σ.ival 56 else σ.ival 31) := eqIteI (e.at 44 _ rfl rfl) rfl rfl rfl
    have e68 : σ.ival 68 = (bif σ.bval 46 then σ.ival 57 else σ.ival 32) := eqIteI (e.at 45 _ rfl rfl) rfl rfl rfl
    have e69 : σ.bval 69 = (bif σ.bval 46 then σ.bval 18 else σ.bval 59) := eqIteB (e.at 46 _ rfl rfl) rfl rfl rfl
    have e70 : σ.ival 70 = (bif σ.bval 42 then 0 else σ.ival 20) := eqIteI (e.at 47 _ rfl rfl) rfl rfl rfl
    have e71 : σ.ival 71 = (bif σ.bval 43 then 0 else σ.ival 70) := eqIteI (e.at 48 _ rfl rfl) rfl rfl rfl
    have e72 : σ.ival 72 = IntKind.i32.wrap (σ.tab 192 [σ.ival 24, σ.ival 25, σ.ival 26, σ.ival 27, σ.ival 28, σ.ival 29, σ.ival 30, σ.ival 31, σ.ival 32, σ.ival 33, σ.ival 34, σ.ival 35, σ.ival 36, σ.ival 37, σ.ival 38, σ.ival 39, σ.ival 40, σ.ival 41, (if σ.bval 18 then 1 else 0), σ.ival 19, σ.ival 71, σ.ival 21]) := eqI (e.at 49 _ rfl rfl) rfl
    have e73 : σ.ival 73 = IntKind.u8.wrap (σ.ival 22) := eqI (e.at 50 _ rfl rfl) rfl
    have e74 : σ.ival 74 = IntKind.i64.wrap (σ.tab 64 [σ.ival 24, σ.ival 25, σ.ival 26, σ.ival 27, σ.ival 28, σ.ival 29, σ.ival 30, σ.ival 31, σ.ival 32, σ.ival 73]) := eqI (e.at 51 _ rfl rfl) rfl
    have e75 : σ.ival 75 = IntKind.u8.wrap (σ.tab 65 [σ.ival 24, σ.ival 25, σ.ival 26, σ.ival 27, σ.ival 28, σ.ival 29, σ.ival 30, σ.ival 31, σ.ival 32, σ.ival 73]) := eqI (e.at 52 _ rfl rfl) rfl
    have e76 : σ.ival 76 = IntKind.u8.wrap (σ.tab 66 [σ.ival 24, σ.ival 25, σ.ival 26, σ.ival 27, σ.ival 28, σ.ival 29, σ.ival 30, σ.ival 31, σ.ival 32, σ.ival 73]) := eqI (e.at 53 _ rfl rfl) rfl
    have e77 : σ.ival 77 = IntKind.u8.wrap (σ.tab 67 [σ.ival 24, σ.ival 25, σ.ival 26, σ.ival 27, σ.ival 28, σ.ival 29, σ.ival 30, σ.ival 31, σ.ival 32, σ.ival 73]) := eqI (e.at 54 _ rfl rfl) rfl
    have e78 : σ.ival 78 = IntKind.u8.wrap (σ.tab 68 [σ.ival 24, σ.ival 25, σ.ival 26, σ.ival 27, σ.ival 28, σ.ival 29, σ.ival 30, σ.ival 31, σ.ival 32, σ.ival 73]) := eqI (e.at 55 _ rfl rfl) rfl
    have e79 : σ.ival 79 = IntKind.u8.wrap (σ.tab 69 [σ.ival 24, σ.ival 25, σ.ival 26, σ.ival 27, σ.ival 28, σ.ival 29, σ.ival 30, σ.ival 31, σ.ival 32, σ.ival 73]) := eqI (e.at 56 _ rfl rfl) rfl
    have e80 : σ.ival 80 = IntKind.u8.wrap (σ.tab 70 [σ.ival 24, σ.ival 25, σ.ival 26, σ.ival 27, σ.ival 28, σ.ival 29, σ.ival 30, σ.ival 31, σ.ival 32, σ.ival 73]) := eqI (e.at 57 _ rfl rfl) rfl
    have e81 : σ.ival 81 = IntKind.u8.wrap (σ.tab 71 [σ.ival 24, σ.ival 25, σ.ival 26, σ.ival 27, σ.ival 28, σ.ival 29, σ.ival 30, σ.ival 31, σ.ival 32, σ.ival 73]) := eqI (e.at 58 _ rfl rfl) rfl
    have e82 : σ.ival 82 = IntKind.u8.wrap (σ.tab 72 [σ.ival 24, σ.ival 25, σ.ival 26, σ.ival 27, σ.ival 28, σ.ival 29, σ.ival 30, σ.ival 31, σ.ival 32, σ.ival 73]) := eqI (e.at 59 _ rfl rfl) rfl
    have e83 : σ.bval 83 = (!(σ.tab 73 [σ.ival 24, σ.ival 25, σ.ival 26, σ.ival 27, σ.ival 28, σ.ival 29, σ.ival 30, σ.ival 31, σ.ival 32, σ.ival 73] == 0)) := eqB (e.at 60 _ rfl rfl) rfl
    have e84 : σ.bval 84 = (!σ.bval 83) := eqB (e.at 61 _ rfl rfl) rfl
    have e85 : σ.ival 85 = IntKind.u8.wrap (BitVec.ofInt IntKind.u8.bits (σ.ival 19) &&& BitVec.ofInt IntKind.u8.bits (1)).toNat := eqI (e.at 62 _ rfl rfl) rfl
    have e86 : σ.bval 86 = (σ.ival 85 != 0) := eqB (e.at 63 _ rfl rfl) rfl
    have e87 : σ.bval 87 = (bif σ.bval 83 then σ.bval 86 else false) := eqIteB (e.at 64 _ rfl rfl) rfl rfl rfl
    have e88 : σ.bval 88 = (bif σ.bval 18 then true else σ.bval 84) := eqIteB (e.at 65 _ rfl rfl) rfl rfl rfl
    have e89 : σ.bval 89 = (σ.ival 85 == 1) := eqB (e.at 66 _ rfl rfl) rfl
    have e90 : σ.ival 90 = (bif σ.bval 84 then σ.ival 24 else σ.ival 74) := eqIteI (e.at 67 _ rfl rfl) rfl rfl rfl
    have e91 : σ.ival 91 = (bif σ.bval 84 then σ.ival 25 else σ.ival 75) := eqIteI (e.at 68 _ rfl rfl) rfl rfl rfl
    have e92 : σ.ival 92 = (bif σ.bval 84 then σ.ival 26 else σ.ival 76) := eqIteI (e.at 69 _ rfl rfl) rfl rfl rfl
    have e93 : σ.ival 93 = (bif σ.bval 84 then σ.ival 27 else σ.ival 77) := eqIteI (e.at 70 _ rfl rfl) rfl rfl rfl
    have e94 : σ.ival 94 = (bif σ.bval 84 then σ.ival 28 else σ.ival 78) := eqIteI (e.at 71 _ rfl rfl) rfl rfl rfl
    have e95 : σ.ival 95 = (bif σ.bval 84 then σ.ival 29 else σ.ival 79) := eqIteI (e.at 72 _ rfl rfl) rfl rfl rfl
    have e96 : σ.ival 96 = (bif σ.bval 84 then σ.ival 30 else σ.ival 80) := eqIteI (e.at 73 _ rfl rfl) rfl rfl rfl
    have e97 : σ.ival 97 = (bif σ.bval 84 then σ.ival 31 else σ.ival 81) := eqIteI (e.at 74 _ rfl rfl) rfl rfl rfl
    have e98 : σ.ival 98 = (bif σ.bval 84 then σ.ival 32 else σ.ival 82) := eqIteI (e.at 75 _ rfl rfl) rfl rfl rfl
    have e99 : σ.bval 99 = (bif σ.bval 84 then true else σ.bval 18) := eqIteB (e.at 76 _ rfl rfl) rfl rfl rfl
    have e100 : σ.bval 100 = (bif σ.bval 84 then false else σ.bval 89) := eqIteB (e.at 77 _ rfl rfl) rfl rfl rfl
    have e101 : σ.bval 101 = decide (σ.ival 33 > 0) := eqB (e.at 78 _ rfl rfl) rfl
    have e102 : σ.ival 102 = IntKind.u8.wrap (σ.ival 45 + 1) := eqI (e.at 79 _ rfl rfl) rfl
    have e103 : σ.bval 103 = (σ.ival 102 == 4) := eqB (e.at 80 _ rfl rfl) rfl
    have e104 : σ.ival 104 = IntKind.u8.wrap (σ.tab 128 [σ.ival 33, σ.ival 34, σ.ival 35, σ.ival 36, σ.ival 37, σ.ival 38, σ.ival 39, σ.ival 40, σ.ival 41]) := eqI (e.at 81 _ rfl rfl) rfl
    have e105 : σ.ival 105 = IntKind.i64.wrap (σ.tab 129 [σ.ival 33, σ.ival 34, σ.ival 35, σ.ival 36, σ.ival 37, σ.ival 38, σ.ival 39, σ.ival 40, σ.ival 41]) := eqI (e.at 82 _ rfl rfl) rfl
    have e106 : σ.ival 106 = IntKind.u8.wrap (σ.tab 130 [σ.ival 33, σ.ival 34, σ.ival 35, σ.ival 36, σ.ival 37, σ.ival 38, σ.ival 39, σ.ival 40, σ.ival 41]) := eqI (e.at 83 _ rfl rfl) rfl
    have e107 : σ.ival 107 = IntKind.u8.wrap (σ.tab 131 [σ.ival 33, σ.ival 34, σ.ival 35, σ.ival 36, σ.ival 37, σ.ival 38, σ.ival 39, σ.ival 40, σ.ival 41]) := eqI (e.at 84 _ rfl rfl) rfl
    have e108 : σ.ival 108 = IntKind.u8.wrap (σ.tab 132 [σ.ival 33, σ.ival 34, σ.ival 35, σ.ival 36, σ.ival 37, σ.ival 38, σ.ival 39, σ.ival 40, σ.ival 41]) := eqI (e.at 85 _ rfl rfl) rfl
    have e109 : σ.ival 109 = IntKind.u8.wrap (σ.tab 133 [σ.ival 33, σ.ival 34, σ.ival 35, σ.ival 36, σ.ival 37, σ.ival 38, σ.ival 39, σ.ival 40, σ.ival 41]) := eqI (e.at 86 _ rfl rfl) rfl
    have e110 : σ.ival 110 = IntKind.u8.wrap (σ.tab 134 [σ.ival 33, σ.ival 34, σ.ival 35, σ.ival 36, σ.ival 37, σ.ival 38, σ.ival 39, σ.ival 40, σ.ival 41]) := eqI (e.at 87 _ rfl rfl) rfl
    have e111 : σ.ival 111 = IntKind.u8.wrap (σ.tab 135 [σ.ival 33, σ.ival 34, σ.ival 35, σ.ival 36, σ.ival 37, σ.ival 38, σ.ival 39, σ.ival 40, σ.ival 41]) := eqI (e.at 88 _ rfl rfl) rfl
    have e112 : σ.ival 112 = IntKind.u8.wrap (σ.tab 136 [σ.ival 33, σ.ival 34, σ.ival 35, σ.ival 36, σ.ival 37, σ.ival 38, σ.ival 39, σ.ival 40, σ.ival 41]) := eqI (e.at 89 _ rfl rfl) rfl
    have e113 : σ.ival 113 = IntKind.u8.wrap (σ.tab 137 [σ.ival 33, σ.ival 34, σ.ival 35, σ.ival 36, σ.ival 37, σ.ival 38, σ.ival 39, σ.ival 40, σ.ival 41]) := eqI (e.at 90 _ rfl rfl) rfl
    have e114 : σ.bval 114 = (!(σ.tab 138 [σ.ival 33, σ.ival 34, σ.ival 35, σ.ival 36, σ.ival 37, σ.ival 38, σ.ival 39, σ.ival 40, σ.ival 41] == 0)) := eqB (e.at 91 _ rfl rfl) rfl
    have e115 : σ.bval 115 = (σ.ival 105 == 0) := eqB (e.at 92 _ rfl rfl) rfl
    have e116 : σ.ival 116 = IntKind.u8.wrap (BitVec.ofInt IntKind.u8.bits (σ.ival 19) &&& BitVec.ofInt IntKind.u8.bits (2)).toNat := eqI (e.at 93 _ rfl rfl) rfl
    have e117 : σ.bval 117 = (σ.ival 116 != 0) := eqB (e.at 94 _ rfl rfl) rfl
    have e118 : σ.bval 118 = (bif σ.bval 115 then σ.bval 117 else false) := eqIteB (e.at 95 _ rfl rfl) rfl rfl rfl
    have e119 : σ.ival 119 = (bif σ.bval 103 then σ.ival 105 else σ.ival 33) := eqIteI (e.at 96 _ rfl rfl) rfl rfl rfl
    have e120 : σ.ival 120 = (bif σ.bval 103 then σ.ival 106 else σ.ival 34) := eqIteI (e.at 97 _ rfl rfl) rfl rfl rfl
    have e121 : σ.ival 121 = (bif σ.bval 103 then σ.ival 107 else σ.ival 35) := eqIteI (e.at 98 _ rfl rfl) rfl rfl rfl
    have e122 : σ.ival 122 = (bif σ.bval 103 then σ.ival 108 else σ.ival 36) := eqIteI (e.at 99 _ rfl rfl) rfl rfl rfl
    have e123 : σ.ival 123 = (bif σ.bval 103 then σ.ival 109 else σ.ival 37) := eqIteI (e.at 100 _ rfl rfl) rfl rfl rfl
    have e124 : σ.ival 124 = (bif σ.bval 103 then σ.ival 110 else σ.ival 38) := eqIteI (e.at 101 _ rfl rfl) rfl rfl rfl
    have e125 : σ.ival 125 = (bif σ.bval 103 then σ.ival 111 else σ.ival 39) := eqIteI (e.at 102 _ rfl rfl) rfl rfl rfl
    have e126 : σ.ival 126 = (bif σ.bval 103 then σ.ival 112 else σ.ival 40) := eqIteI (e.at 103 _ rfl rfl) rfl rfl rfl
    have e127 : σ.ival 127 = (bif σ.bval 103 then σ.ival 113 else σ.ival 41) := eqIteI (e.at 104 _ rfl rfl) rfl rfl rfl
    have e128 : σ.ival 128 = (bif σ.bval 103 then 0 else σ.ival 102) := eqIteI (e.at 105 _ rfl rfl) rfl rfl rfl
    have e129 : σ.ival 129 = (bif σ.bval 103 then σ.ival 104 else 0) := eqIteI (e.at 106 _ rfl rfl) rfl rfl rfl
    have e130 : σ.bval 130 = (bif σ.bval 103 then σ.bval 114 else false) := eqIteB (e.at 107 _ rfl rfl) rfl rfl rfl
    have e131 : σ.bval 131 = (bif σ.bval 103 then σ.bval 118 else false) := eqIteB (e.at 108 _ rfl rfl) rfl rfl rfl
    have e132 : σ.ival 132 = (bif σ.bval 101 then σ.ival 119 else σ.ival 33) := eqIteI (e.at 109 _ rfl rfl) rfl rfl rfl
    have e133 : σ.ival 133 = (bif σ.bval 101 then σ.ival 120 else σ.ival 34) := eqIteI (e.at 110 _ rfl rfl) rfl rfl rfl
    have e134 : σ.ival 134 = (bif σ.bval 101 then σ.ival 121 else σ.ival 35) := eqIteI (e.at 111 _ rfl rfl) rfl rfl rfl
    have e135 : σ.ival 135 = (bif σ.bval 101 then σ.ival 122 else σ.ival 36) := eqIteI (e.at 112 _ rfl rfl) rfl rfl rfl
    have e136 : σ.ival 136 = (bif σ.bval 101 then σ.ival 123 else σ.ival 37) := eqIteI (e.at 113 _ rfl rfl) rfl rfl rfl
    have e137 : σ.ival 137 = (bif σ.bval 101 then σ.ival 124 else σ.ival 38) := eqIteI (e.at 114 _ rfl rfl) rfl rfl rfl
    have e138 : σ.ival 138 = (bif σ.bval 101 then σ.ival 125 else σ.ival 39) := eqIteI (e.at 115 _ rfl rfl) rfl rfl rfl
    have e139 : σ.ival 139 = (bif σ.bval 101 then σ.ival 126 else σ.ival 40) := eqIteI (e.at 116 _ rfl rfl) rfl rfl rfl
    have e140 : σ.ival 140 = (bif σ.bval 101 then σ.ival 127 else σ.ival 41) := eqIteI (e.at 117 _ rfl rfl) rfl rfl rfl
    have e141 : σ.ival 141 = (bif σ.bval 101 then σ.ival 128 else σ.ival 45) := eqIteI (e.at 118 _ rfl rfl) rfl rfl rfl
    have e142 : σ.ival 142 = (bif σ.bval 101 then σ.ival 129 else 0) := eqIteI (e.at 119 _ rfl rfl) rfl rfl rfl
    have e143 : σ.bval 143 = (bif σ.bval 101 then σ.bval 130 else false) := eqIteB (e.at 120 _ rfl rfl) rfl rfl rfl
    have e144 : σ.bval 144 = (bif σ.bval 101 then σ.bval 131 else false) := eqIteB (e.at 121 _ rfl rfl) rfl rfl rfl
    have e145 : σ.ival 145 = IntKind.u8.wrap (σ.ival 71 + 1) := eqI (e.at 122 _ rfl rfl) rfl
    have e146 : σ.bval 146 = decide (σ.ival 145 < 4) := eqB (e.at 123 _ rfl rfl) rfl
    have e147 : σ.ival 147 = IntKind.u8.wrap ((σ.ival 19 : Int).tdiv 2) := eqI (e.at 124 _ rfl rfl) rfl
    have e148 : σ.ival 148 = ((σ.ival 147 : Int).tmod 2) := eqI (e.at 125 _ rfl rfl) rfl
    have e149 : σ.bval 149 = (σ.ival 148 == 1) := eqB (e.at 126 _ rfl rfl) rfl
    have e150 : σ.bval 150 = (bif σ.bval 115 then σ.bval 149 else false) := eqIteB (e.at 127 _ rfl rfl) rfl rfl rfl
    have e151 : σ.ival 151 = (bif σ.bval 146 then σ.ival 33 else σ.ival 105) := eqIteI (e.at 128 _ rfl rfl) rfl rfl rfl
    have e152 : σ.ival 152 = (bif σ.bval 146 then σ.ival 34 else σ.ival 106) := eqIteI (e.at 129 _ rfl rfl) rfl rfl rfl
    have e153 : σ.ival 153 = (bif σ.bval 146 then σ.ival 35 else σ.ival 107) := eqIteI (e.at 130 _ rfl rfl) rfl rfl rfl
    have e154 : σ.ival 154 = (bif σ.bval 146 then σ.ival 36 else σ.ival 108) := eqIteI (e.at 131 _ rfl rfl) rfl rfl rfl
    have e155 : σ.ival 155 = (bif σ.bval 146 then σ.ival 37 else σ.ival 109) := eqIteI (e.at 132 _ rfl rfl) rfl rfl rfl
    have e156 : σ.ival 156 = (bif σ.bval 146 then σ.ival 38 else σ.ival 110) := eqIteI (e.at 133 _ rfl rfl) rfl rfl rfl
    have e157 : σ.ival 157 = (bif σ.bval 146 then σ.ival 39 else σ.ival 111) := eqIteI (e.at 134 _ rfl rfl) rfl rfl rfl
    have e158 : σ.ival 158 = (bif σ.bval 146 then σ.ival 40 else σ.ival 112) := eqIteI (e.at 135 _ rfl rfl) rfl rfl rfl
    have e159 : σ.ival 159 = (bif σ.bval 146 then σ.ival 41 else σ.ival 113) := eqIteI (e.at 136 _ rfl rfl) rfl rfl rfl
    have e160 : σ.ival 160 = (bif σ.bval 146 then σ.ival 145 else 0) := eqIteI (e.at 137 _ rfl rfl) rfl rfl rfl
    have e161 : σ.ival 161 = (bif σ.bval 146 then 0 else σ.ival 104) := eqIteI (e.at 138 _ rfl rfl) rfl rfl rfl
    have e162 : σ.bval 162 = (!σ.bval 146) := eqB (e.at 139 _ rfl rfl) rfl
    have e163 : σ.bval 163 = (bif σ.bval 146 then false else σ.bval 150) := eqIteB (e.at 140 _ rfl rfl) rfl rfl rfl
    have e164 : σ.ival 164 = (bif σ.bval 42 then σ.ival 33 else σ.ival 151) := eqIteI (e.at 141 _ rfl rfl) rfl rfl rfl
    have e165 : σ.ival 165 = (bif σ.bval 42 then σ.ival 34 else σ.ival 152) := eqIteI (e.at 142 _ rfl rfl) rfl rfl rfl
    have e166 : σ.ival 166 = (bif σ.bval 42 then σ.ival 35 else σ.ival 153) := eqIteI (e.at 143 _ rfl rfl) rfl rfl rfl
    have e167 : σ.ival 167 = (bif σ.bval 42 then σ.ival 36 else σ.ival 154) := eqIteI (e.at 144 _ rfl rfl) rfl rfl rfl
    have e168 : σ.ival 168 = (bif σ.bval 42 then σ.ival 37 else σ.ival 155) := eqIteI (e.at 145 _ rfl rfl) rfl rfl rfl
    have e169 : σ.ival 169 = (bif σ.bval 42 then σ.ival 38 else σ.ival 156) := eqIteI (e.at 146 _ rfl rfl) rfl rfl rfl
    have e170 : σ.ival 170 = (bif σ.bval 42 then σ.ival 39 else σ.ival 157) := eqIteI (e.at 147 _ rfl rfl) rfl rfl rfl
    have e171 : σ.ival 171 = (bif σ.bval 42 then σ.ival 40 else σ.ival 158) := eqIteI (e.at 148 _ rfl rfl) rfl rfl rfl
    have e172 : σ.ival 172 = (bif σ.bval 42 then σ.ival 41 else σ.ival 159) := eqIteI (e.at 149 _ rfl rfl) rfl rfl rfl
    have e173 : σ.ival 173 = (bif σ.bval 42 then σ.ival 71 else σ.ival 160) := eqIteI (e.at 150 _ rfl rfl) rfl rfl rfl
    have e174 : σ.ival 174 = (bif σ.bval 42 then 0 else σ.ival 161) := eqIteI (e.at 151 _ rfl rfl) rfl rfl rfl
    have e175 : σ.bval 175 = (bif σ.bval 42 then false else σ.bval 162) := eqIteB (e.at 152 _ rfl rfl) rfl rfl rfl
    have e176 : σ.bval 176 = (bif σ.bval 42 then false else σ.bval 163) := eqIteB (e.at 153 _ rfl rfl) rfl rfl rfl
    have e177 : σ.bval 177 = (σ.ival 23 == σ.ival 72) := eqB (e.at 154 _ rfl rfl) rfl
    have e178 : σ.bval 178 = ((σ.bval 69 == σ.bval 59) && ((σ.ival 45 == σ.ival 71) && true)) := eqB (e.at 155 _ rfl rfl) rfl
    have e179 : σ.ival 179 = IntKind.i64.wrap (σ.tab 64 [σ.ival 33, σ.ival 34, σ.ival 35, σ.ival 36, σ.ival 37, σ.ival 38, σ.ival 39, σ.ival 40, σ.ival 41, σ.ival 73]) := eqI (e.at 156 _ rfl rfl) rfl
    have e180 : σ.ival 180 = IntKind.u8.wrap (σ.tab 65 [σ.ival 33, σ.ival 34, σ.ival 35, σ.ival 36, σ.ival 37, σ.ival 38, σ.ival 39, σ.ival 40, σ.ival 41, σ.ival 73]) := eqI (e.at 157 _ rfl rfl) rfl
    have e181 : σ.ival 181 = IntKind.u8.wrap (σ.tab 66 [σ.ival 33, σ.ival 34, σ.ival 35, σ.ival 36, σ.ival 37, σ.ival 38, σ.ival 39, σ.ival 40, σ.ival 41, σ.ival 73]) := eqI (e.at 158 _ rfl rfl) rfl
    have e182 : σ.ival 182 = IntKind.u8.wrap (σ.tab 67 [σ.ival 33, σ.ival 34, σ.ival 35, σ.ival 36, σ.ival 37, σ.ival 38, σ.ival 39, σ.ival 40, σ.ival 41, σ.ival 73]) := eqI (e.at 159 _ rfl rfl) rfl
    have e183 : σ.ival 183 = IntKind.u8.wrap (σ.tab 68 [σ.ival 33, σ.ival 34, σ.ival 35, σ.ival 36, σ.ival 37, σ.ival 38, σ.ival 39, σ.ival 40, σ.ival 41, σ.ival 73]) := eqI (e.at 160 _ rfl rfl) rfl
    have e184 : σ.ival 184 = IntKind.u8.wrap (σ.tab 69 [σ.ival 33, σ.ival 34, σ.ival 35, σ.ival 36, σ.ival 37, σ.ival 38, σ.ival 39, σ.ival 40, σ.ival 41, σ.ival 73]) := eqI (e.at 161 _ rfl rfl) rfl
    have e185 : σ.ival 185 = IntKind.u8.wrap (σ.tab 70 [σ.ival 33, σ.ival 34, σ.ival 35, σ.ival 36, σ.ival 37, σ.ival 38, σ.ival 39, σ.ival 40, σ.ival 41, σ.ival 73]) := eqI (e.at 162 _ rfl rfl) rfl
    have e186 : σ.ival 186 = IntKind.u8.wrap (σ.tab 71 [σ.ival 33, σ.ival 34, σ.ival 35, σ.ival 36, σ.ival 37, σ.ival 38, σ.ival 39, σ.ival 40, σ.ival 41, σ.ival 73]) := eqI (e.at 163 _ rfl rfl) rfl
    have e187 : σ.ival 187 = IntKind.u8.wrap (σ.tab 72 [σ.ival 33, σ.ival 34, σ.ival 35, σ.ival 36, σ.ival 37, σ.ival 38, σ.ival 39, σ.ival 40, σ.ival 41, σ.ival 73]) := eqI (e.at 164 _ rfl rfl) rfl
    have e188 : σ.bval 188 = (!(σ.tab 73 [σ.ival 33, σ.ival 34, σ.ival 35, σ.ival 36, σ.ival 37, σ.ival 38, σ.ival 39, σ.ival 40, σ.ival 41, σ.ival 73] == 0)) := eqB (e.at 165 _ rfl rfl) rfl
    have e189 : σ.bval 189 = (σ.ival 21 == 5) := eqB (e.at 166 _ rfl rfl) rfl
    have e190 : σ.ival 190 = (bif σ.bval 189 then σ.ival 73 else σ.ival 19) := eqIteI (e.at 167 _ rfl rfl) rfl rfl rfl
    have e191 : σ.ival 191 = (bif σ.bval 46 then σ.ival 179 else σ.ival 33) := eqIteI (e.at 168 _ rfl rfl) rfl rfl rfl
    have e192 : σ.ival 192 = (bif σ.bval 46 then σ.ival 180 else σ.ival 34) := eqIteI (e.at 169 _ rfl rfl) rfl rfl rfl
    have e193 : σ.ival 193 = (bif σ.bval 46 then σ.ival 181 else σ.ival 35) := eqIteI (e.at 170 _ rfl rfl) rfl rfl rfl
    have e194 : σ.ival 194 = (bif σ.bval 46 then σ.ival 182 else σ.ival 36) := eqIteI (e.at 171 _ rfl rfl) rfl rfl rfl
    have e195 : σ.ival 195 = (bif σ.bval 46 then σ.ival 183 else σ.ival 37) := eqIteI (e.at 172 _ rfl rfl) rfl rfl rfl
    have e196 : σ.ival 196 = (bif σ.bval 46 then σ.ival 184 else σ.ival 38) := eqIteI (e.at 173 _ rfl rfl) rfl rfl rfl
    have e197 : σ.ival 197 = (bif σ.bval 46 then σ.ival 185 else σ.ival 39) := eqIteI (e.at 174 _ rfl rfl) rfl rfl rfl
    have e198 : σ.ival 198 = (bif σ.bval 46 then σ.ival 186 else σ.ival 40) := eqIteI (e.at 175 _ rfl rfl) rfl rfl rfl
    have e199 : σ.ival 199 = (bif σ.bval 46 then σ.ival 187 else σ.ival 41) := eqIteI (e.at 176 _ rfl rfl) rfl rfl rfl
    have e200 : σ.ival 200 = (bif σ.bval 46 then σ.ival 19 else σ.ival 190) := eqIteI (e.at 177 _ rfl rfl) rfl rfl rfl
    have e201 : σ.bval 201 = ((σ.ival 200 == σ.ival 190) && ((σ.ival 45 == σ.ival 71) && true)) := eqB (e.at 178 _ rfl rfl) rfl
    have e202 : σ.bval 202 = ((σ.ival 74 == σ.ival 90) && ((σ.ival 75 == σ.ival 91) && ((σ.ival 76 == σ.ival 92) && ((σ.ival 77 == σ.ival 93) && ((σ.ival 78 == σ.ival 94) && ((σ.ival 79 == σ.ival 95) && ((σ.ival 80 == σ.ival 96) && ((σ.ival 81 == σ.ival 97) && ((σ.ival 82 == σ.ival 98) && ((σ.bval 88 == σ.bval 99) && ((σ.ival 45 == σ.ival 71) && true))))))))))) := eqB (e.at 179 _ rfl rfl) rfl
    have e203 : σ.bval 203 = (σ.bval 87 == σ.bval 100) := eqB (e.at 180 _ rfl rfl) rfl
    have e204 : σ.bval 204 = ((σ.ival 132 == σ.ival 164) && ((σ.ival 133 == σ.ival 165) && ((σ.ival 134 == σ.ival 166) && ((σ.ival 135 == σ.ival 167) && ((σ.ival 136 == σ.ival 168) && ((σ.ival 137 == σ.ival 169) && ((σ.ival 138 == σ.ival 170) && ((σ.ival 139 == σ.ival 171) && ((σ.ival 140 == σ.ival 172) && ((σ.ival 141 == σ.ival 173) && true)))))))))) := eqB (e.at 181 _ rfl rfl) rfl
    have e205 : σ.bval 205 = (σ.ival 142 == σ.ival 174) := eqB (e.at 182 _ rfl rfl) rfl
    have e206 : σ.bval 206 = (σ.bval 143 == σ.bval 175) := eqB (e.at 183 _ rfl rfl) rfl
    have e207 : σ.bval 207 = (σ.bval 144 == σ.bval 176) := eqB (e.at 184 _ rfl rfl) rfl
    have e208 : σ.bval 208 = ((σ.ival 45 == σ.ival 71) && true) := eqB (e.at 185 _ rfl rfl) rfl
    have e209 : σ.bval 209 = (bif σ.bval 207 then σ.bval 208 else false) := eqIteB (e.at 186 _ rfl rfl) rfl rfl rfl
    have e210 : σ.bval 210 = (bif σ.bval 206 then σ.bval 209 else false) := eqIteB (e.at 187 _ rfl rfl) rfl rfl rfl
    have e211 : σ.bval 211 = (bif σ.bval 205 then σ.bval 210 else false) := eqIteB (e.at 188 _ rfl rfl) rfl rfl rfl
    have e212 : σ.bval 212 = (bif σ.bval 204 then σ.bval 211 else false) := eqIteB (e.at 189 _ rfl rfl) rfl rfl rfl
    have e213 : σ.bval 213 = (bif σ.bval 203 then σ.bval 212 else false) := eqIteB (e.at 190 _ rfl rfl) rfl rfl rfl
    have e214 : σ.bval 214 = (bif σ.bval 202 then σ.bval 213 else false) := eqIteB (e.at 191 _ rfl rfl) rfl rfl rfl
    have e215 : σ.bval 215 = (bif σ.bval 201 then σ.bval 214 else false) := eqIteB (e.at 192 _ rfl rfl) rfl rfl rfl
    have e216 : σ.bval 216 = (bif σ.bval 178 then σ.bval 215 else false) := eqIteB (e.at 193 _ rfl rfl) rfl rfl rfl
    have e217 : σ.bval 217 = (bif σ.bval 177 then σ.bval 216 else false) := eqIteB (e.at 194 _ rfl rfl) rfl rfl rfl
    have m24 : σ.ival 24 = qk [σ.ival 0, σ.ival 1, σ.ival 2, σ.ival 3, σ.ival 4, σ.ival 5, σ.ival 6, σ.ival 7, σ.ival 8] := by rw [e24, ht]; exact qk_w [σ.ival 0, σ.ival 1, σ.ival 2, σ.ival 3, σ.ival 4, σ.ival 5, σ.ival 6, σ.ival 7, σ.ival 8]
    have m25 : σ.ival 25 = qb [σ.ival 0, σ.ival 1, σ.ival 2, σ.ival 3, σ.ival 4, σ.ival 5, σ.ival 6, σ.ival 7, σ.ival 8] 0 := by rw [e25, ht]; exact qb_w (l := [σ.ival 0, σ.ival 1, σ.ival 2, σ.ival 3, σ.ival 4, σ.ival 5, σ.ival 6, σ.ival 7, σ.ival 8]) 0 w1
    have m26 : σ.ival 26 = qb [σ.ival 0, σ.ival 1, σ.ival 2, σ.ival 3, σ.ival 4, σ.ival 5, σ.ival 6, σ.ival 7, σ.ival 8] 1 := by rw [e26, ht]; exact qb_w (l := [σ.ival 0, σ.ival 1, σ.ival 2, σ.ival 3, σ.ival 4, σ.ival 5, σ.ival 6, σ.ival 7, σ.ival 8]) 1 w2
    have m27 : σ.ival 27 = qb [σ.ival 0, σ.ival 1, σ.ival 2, σ.ival 3, σ.ival 4, σ.ival 5, σ.ival 6, σ.ival 7, σ.ival 8] 2 := by rw [e27, ht]; exact qb_w (l := [σ.ival 0, σ.ival 1, σ.ival 2, σ.ival 3, σ.ival 4, σ.ival 5, σ.ival 6, σ.ival 7, σ.ival 8]) 2 w3
    have m28 : σ.ival 28 = qb [σ.ival 0, σ.ival 1, σ.ival 2, σ.ival 3, σ.ival 4, σ.ival 5, σ.ival 6, σ.ival 7, σ.ival 8] 3 := by rw [e28, ht]; exact qb_w (l := [σ.ival 0, σ.ival 1, σ.ival 2, σ.ival 3, σ.ival 4, σ.ival 5, σ.ival 6, σ.ival 7, σ.ival 8]) 3 w4
    have m29 : σ.ival 29 = qb [σ.ival 0, σ.ival 1, σ.ival 2, σ.ival 3, σ.ival 4, σ.ival 5, σ.ival 6, σ.ival 7, σ.ival 8] 4 := by rw [e29, ht]; exact qb_w (l := [σ.ival 0, σ.ival 1, σ.ival 2, σ.ival 3, σ.ival 4, σ.ival 5, σ.ival 6, σ.ival 7, σ.ival 8]) 4 w5
    have m30 : σ.ival 30 = qb [σ.ival 0, σ.ival 1, σ.ival 2, σ.ival 3, σ.ival 4, σ.ival 5, σ.ival 6, σ.ival 7, σ.ival 8] 5 := by rw [e30, ht]; exact qb_w (l := [σ.ival 0, σ.ival 1, σ.ival 2, σ.ival 3, σ.ival 4, σ.ival 5, σ.ival 6, σ.ival 7, σ.ival 8]) 5 w6
    have m31 : σ.ival 31 = qb [σ.ival 0, σ.ival 1, σ.ival 2, σ.ival 3, σ.ival 4, σ.ival 5, σ.ival 6, σ.ival 7, σ.ival 8] 6 := by rw [e31, ht]; exact qb_w (l := [σ.ival 0, σ.ival 1, σ.ival 2, σ.ival 3, σ.ival 4, σ.ival 5, σ.ival 6, σ.ival 7, σ.ival 8]) 6 w7
    have m32 : σ.ival 32 = qb [σ.ival 0, σ.ival 1, σ.ival 2, σ.ival 3, σ.ival 4, σ.ival 5, σ.ival 6, σ.ival 7, σ.ival 8] 7 := by rw [e32, ht]; exact qb_w (l := [σ.ival 0, σ.ival 1, σ.ival 2, σ.ival 3, σ.ival 4, σ.ival 5, σ.ival 6, σ.ival 7, σ.ival 8]) 7 w8
    have m33 : σ.ival 33 = qk [σ.ival 9, σ.ival 10, σ.ival 11, σ.ival 12, σ.ival 13, σ.ival 14, σ.ival 15, σ.ival 16, σ.ival 17] := by rw [e33, ht]; exact qk_w [σ.ival 9, σ.ival 10, σ.ival 11, σ.ival 12, σ.ival 13, σ.ival 14, σ.ival 15, σ.ival 16, σ.ival 17]
    have m34 : σ.ival 34 = qb [σ.ival 9, σ.ival 10, σ.ival 11, σ.ival 12, σ.ival 13, σ.ival 14, σ.ival 15, σ.ival 16, σ.ival 17] 0 := by rw [e34, ht]; exact qb_w (l := [σ.ival 9, σ.ival 10, σ.ival 11, σ.ival 12, σ.ival 13, σ.ival 14, σ.ival 15, σ.ival 16, σ.ival 17]) 0 w10
    have m35 : σ.ival 35 = qb [σ.ival 9, σ.ival 10, σ.ival 11, σ.ival 12, σ.ival 13, σ.ival 14, σ.ival 15, σ.ival 16, σ.ival 17] 1 := by rw [e35, ht]; exact qb_w (l := [σ.ival 9, σ.ival 10, σ.ival 11, σ.ival 12, σ.ival 13, σ.ival 14, σ.ival 15, σ.ival 16, σ.ival 17]) 1 w11
    have m36 : σ.ival 36 = qb [σ.ival 9, σ.ival 10, σ.ival 11, σ.ival 12, σ.ival 13, σ.ival 14, σ.ival 15, σ.ival 16, σ.ival 17] 2 := by rw [e36, ht]; exact qb_w (l := [σ.ival 9, σ.ival 10, σ.ival 11, σ.ival 12, σ.ival 13, σ.ival 14, σ.ival 15, σ.ival 16, σ.ival 17]) 2 w12
    have m37 : σ.ival 37 = qb [σ.ival 9, σ.ival 10, σ.ival 11, σ.ival 12, σ.ival 13, σ.ival 14, σ.ival 15, σ.ival 16, σ.ival 17] 3 := by rw [e37, ht]; exact qb_w (l := [σ.ival 9, σ.ival 10, σ.ival 11, σ.ival 12, σ.ival 13, σ.ival 14, σ.ival 15, σ.ival 16, σ.ival 17]) 3 w13
    have m38 : σ.ival 38 = qb [σ.ival 9, σ.ival 10, σ.ival 11, σ.ival 12, σ.ival 13, σ.ival 14, σ.ival 15, σ.ival 16, σ.ival 17] 4 := by rw [e38, ht]; exact qb_w (l := [σ.ival 9, σ.ival 10, σ.ival 11, σ.ival 12, σ.ival 13, σ.ival 14, σ.ival 15, σ.ival 16, σ.ival 17]) 4 w14
    have m39 : σ.ival 39 = qb [σ.ival 9, σ.ival 10, σ.ival 11, σ.ival 12, σ.ival 13, σ.ival 14, σ.ival 15, σ.ival 16, σ.ival 17] 5 := by rw [e39, ht]; exact qb_w (l := [σ.ival 9, σ.ival 10, σ.ival 11, σ.ival 12, σ.ival 13, σ.ival 14, σ.ival 15, σ.ival 16, σ.ival 17]) 5 w15
    have m40 : σ.ival 40 = qb [σ.ival 9, σ.ival 10, σ.ival 11, σ.ival 12, σ.ival 13, σ.ival 14, σ.ival 15, σ.ival 16, σ.ival 17] 6 := by rw [e40, ht]; exact qb_w (l := [σ.ival 9, σ.ival 10, σ.ival 11, σ.ival 12, σ.ival 13, σ.ival 14, σ.ival 15, σ.ival 16, σ.ival 17]) 6 w16
    have m41 : σ.ival 41 = qb [σ.ival 9, σ.ival 10, σ.ival 11, σ.ival 12, σ.ival 13, σ.ival 14, σ.ival 15, σ.ival 16, σ.ival 17] 7 := by rw [e41, ht]; exact qb_w (l := [σ.ival 9, σ.ival 10, σ.ival 11, σ.ival 12, σ.ival 13, σ.ival 14, σ.ival 15, σ.ival 16, σ.ival 17]) 7 w17
    have kr := qk_in [σ.ival 0, σ.ival 1, σ.ival 2, σ.ival 3, σ.ival 4, σ.ival 5, σ.ival 6, σ.ival 7, σ.ival 8]
    have kt := qk_in [σ.ival 9, σ.ival 10, σ.ival 11, σ.ival 12, σ.ival 13, σ.ival 14, σ.ival 15, σ.ival 16, σ.ival 17]
    have c23 : σ.ival 23 = σ.ival 72 := by
      have q1 : qk [σ.ival 24, σ.ival 25, σ.ival 26, σ.ival 27, σ.ival 28, σ.ival 29, σ.ival 30, σ.ival 31, σ.ival 32, σ.ival 33, σ.ival 34, σ.ival 35, σ.ival 36, σ.ival 37, σ.ival 38, σ.ival 39, σ.ival 40, σ.ival 41, (if σ.bval 18 then 1 else 0), σ.ival 19, σ.ival 71, σ.ival 21] = qk [σ.ival 0, σ.ival 1, σ.ival 2, σ.ival 3, σ.ival 4, σ.ival 5, σ.ival 6, σ.ival 7, σ.ival 8, σ.ival 9, σ.ival 10, σ.ival 11, σ.ival 12, σ.ival 13, σ.ival 14, σ.ival 15, σ.ival 16, σ.ival 17, (if σ.bval 18 then 1 else 0), σ.ival 19, σ.ival 20, σ.ival 21] := by show clamp (σ.ival 24) = clamp (σ.ival 0); rw [m24]; exact clamp_clamp _
      have q2 : qk ([σ.ival 24, σ.ival 25, σ.ival 26, σ.ival 27, σ.ival 28, σ.ival 29, σ.ival 30, σ.ival 31, σ.ival 32, σ.ival 33, σ.ival 34, σ.ival 35, σ.ival 36, σ.ival 37, σ.ival 38, σ.ival 39, σ.ival 40, σ.ival 41, (if σ.bval 18 then 1 else 0), σ.ival 19, σ.ival 71, σ.ival 21].drop 9) = qk ([σ.ival 0, σ.ival 1, σ.ival 2, σ.ival 3, σ.ival 4, σ.ival 5, σ.ival 6, σ.ival 7, σ.ival 8, σ.ival 9, σ.ival 10, σ.ival 11, σ.ival 12, σ.ival 13, σ.ival 14, σ.ival 15, σ.ival 16, σ.ival 17, (if σ.bval 18 then 1 else 0), σ.ival 19, σ.ival 20, σ.ival 21].drop 9) := by show clamp (σ.ival 33) = clamp (σ.ival 9); rw [m33]; exact clamp_clamp _
      have q3 : qb [σ.ival 24, σ.ival 25, σ.ival 26, σ.ival 27, σ.ival 28, σ.ival 29, σ.ival 30, σ.ival 31, σ.ival 32, σ.ival 33, σ.ival 34, σ.ival 35, σ.ival 36, σ.ival 37, σ.ival 38, σ.ival 39, σ.ival 40, σ.ival 41, (if σ.bval 18 then 1 else 0), σ.ival 19, σ.ival 71, σ.ival 21] 0 = qb [σ.ival 0, σ.ival 1, σ.ival 2, σ.ival 3, σ.ival 4, σ.ival 5, σ.ival 6, σ.ival 7, σ.ival 8, σ.ival 9, σ.ival 10, σ.ival 11, σ.ival 12, σ.ival 13, σ.ival 14, σ.ival 15, σ.ival 16, σ.ival 17, (if σ.bval 18 then 1 else 0), σ.ival 19, σ.ival 20, σ.ival 21] 0 := by
        unfold qb
        rw [q1]
        show (if _ then σ.ival 25 else 0) = if _ then σ.ival 1 else 0
        rw [m25]; unfold qb
        show (if _ < clamp (σ.ival 0) then (if _ < clamp (σ.ival 0) then _ else _) else _) = if _ < clamp (σ.ival 0) then _ else _
        split <;> rfl
      have hp : peekF [σ.ival 24, σ.ival 25, σ.ival 26, σ.ival 27, σ.ival 28, σ.ival 29, σ.ival 30, σ.ival 31, σ.ival 32, σ.ival 33, σ.ival 34, σ.ival 35, σ.ival 36, σ.ival 37, σ.ival 38, σ.ival 39, σ.ival 40, σ.ival 41, (if σ.bval 18 then 1 else 0), σ.ival 19, σ.ival 71, σ.ival 21] = peekF [σ.ival 0, σ.ival 1, σ.ival 2, σ.ival 3, σ.ival 4, σ.ival 5, σ.ival 6, σ.ival 7, σ.ival 8, σ.ival 9, σ.ival 10, σ.ival 11, σ.ival 12, σ.ival 13, σ.ival 14, σ.ival 15, σ.ival 16, σ.ival 17, (if σ.bval 18 then 1 else 0), σ.ival 19, σ.ival 20, σ.ival 21] := by unfold peekF; rw [q1, q2, q3]; rfl
      rw [e23, e72, ht]
      show IntKind.i32.wrap ((peekF [σ.ival 0, σ.ival 1, σ.ival 2, σ.ival 3, σ.ival 4, σ.ival 5, σ.ival 6, σ.ival 7, σ.ival 8, σ.ival 9, σ.ival 10, σ.ival 11, σ.ival 12, σ.ival 13, σ.ival 14, σ.ival 15, σ.ival 16, σ.ival 17, (if σ.bval 18 then 1 else 0), σ.ival 19, σ.ival 20, σ.ival 21]).getD 0 0) = IntKind.i32.wrap ((peekF [σ.ival 24, σ.ival 25, σ.ival 26, σ.ival 27, σ.ival 28, σ.ival 29, σ.ival 30, σ.ival 31, σ.ival 32, σ.ival 33, σ.ival 34, σ.ival 35, σ.ival 36, σ.ival 37, σ.ival 38, σ.ival 39, σ.ival 40, σ.ival 41, (if σ.bval 18 then 1 else 0), σ.ival 19, σ.ival 71, σ.ival 21]).getD 0 0)
      rw [hp]
    have k24 : qk [σ.ival 24, σ.ival 25, σ.ival 26, σ.ival 27, σ.ival 28, σ.ival 29, σ.ival 30, σ.ival 31, σ.ival 32, σ.ival 73] = qk [σ.ival 0, σ.ival 1, σ.ival 2, σ.ival 3, σ.ival 4, σ.ival 5, σ.ival 6, σ.ival 7, σ.ival 8] := qk_of (l := [σ.ival 0, σ.ival 1, σ.ival 2, σ.ival 3, σ.ival 4, σ.ival 5, σ.ival 6, σ.ival 7, σ.ival 8]) m24
    have hpush : σ.bval 83 = false → σ.ival 74 = σ.ival 24 ∧ σ.ival 75 = σ.ival 25 ∧ σ.ival 76 = σ.ival 26 ∧ σ.ival 77 = σ.ival 27 ∧ σ.ival 78 = σ.ival 28 ∧ σ.ival 79 = σ.ival 29 ∧ σ.ival 80 = σ.ival 30 ∧ σ.ival 81 = σ.ival 31 ∧ σ.ival 82 = σ.ival 32 := by
      intro h
      rw [e83, ht] at h
      replace h : (!((pushF [σ.ival 24, σ.ival 25, σ.ival 26, σ.ival 27, σ.ival 28, σ.ival 29, σ.ival 30, σ.ival 31, σ.ival 32, σ.ival 73]).getD 9 0 == 0)) = false := h
      by_cases k8 : qk [σ.ival 24, σ.ival 25, σ.ival 26, σ.ival 27, σ.ival 28, σ.ival 29, σ.ival 30, σ.ival 31, σ.ival 32, σ.ival 73] = 8
      · have hp : pushF [σ.ival 24, σ.ival 25, σ.ival 26, σ.ival 27, σ.ival 28, σ.ival 29, σ.ival 30, σ.ival 31, σ.ival 32, σ.ival 73] = [8, qb [σ.ival 24, σ.ival 25, σ.ival 26, σ.ival 27, σ.ival 28, σ.ival 29, σ.ival 30, σ.ival 31, σ.ival 32, σ.ival 73] 0, qb [σ.ival 24, σ.ival 25, σ.ival 26, σ.ival 27, σ.ival 28, σ.ival 29, σ.ival 30, σ.ival 31, σ.ival 32, σ.ival 73] 1, qb [σ.ival 24, σ.ival 25, σ.ival 26, σ.ival 27, σ.ival 28, σ.ival 29, σ.ival 30, σ.ival 31, σ.ival 32, σ.ival 73] 2, qb [σ.ival 24, σ.ival 25, σ.ival 26, σ.ival 27, σ.ival 28, σ.ival 29, σ.ival 30, σ.ival 31, σ.ival 32, σ.ival 73] 3, qb [σ.ival 24, σ.ival 25, σ.ival 26, σ.ival 27, σ.ival 28, σ.ival 29, σ.ival 30, σ.ival 31, σ.ival 32, σ.ival 73] 4, qb [σ.ival 24, σ.ival 25, σ.ival 26, σ.ival 27, σ.ival 28, σ.ival 29, σ.ival 30, σ.ival 31, σ.ival 32, σ.ival 73] 5, qb [σ.ival 24, σ.ival 25, σ.ival 26, σ.ival 27, σ.ival 28, σ.ival 29, σ.ival 30, σ.ival 31, σ.ival 32, σ.ival 73] 6, qb [σ.ival 24, σ.ival 25, σ.ival 26, σ.ival 27, σ.ival 28, σ.ival 29, σ.ival 30, σ.ival 31, σ.ival 32, σ.ival 73] 7, 0] := if_pos k8
        have k8' : qk [σ.ival 0, σ.ival 1, σ.ival 2, σ.ival 3, σ.ival 4, σ.ival 5, σ.ival 6, σ.ival 7, σ.ival 8] = 8 := k24.symm.trans k8
        have b0 : qb [σ.ival 24, σ.ival 25, σ.ival 26, σ.ival 27, σ.ival 28, σ.ival 29, σ.ival 30, σ.ival 31, σ.ival 32, σ.ival 73] 0 = σ.ival 25 := (qb_of (l := [σ.ival 0, σ.ival 1, σ.ival 2, σ.ival 3, σ.ival 4, σ.ival 5, σ.ival 6, σ.ival 7, σ.ival 8]) (L := [σ.ival 24, σ.ival 25, σ.ival 26, σ.ival 27, σ.ival 28, σ.ival 29, σ.ival 30, σ.ival 31, σ.ival 32, σ.ival 73]) 0 m24 m25).trans m25.symm
        have b1 : qb [σ.ival 24, σ.ival 25, σ.ival 26, σ.ival 27, σ.ival 28, σ.ival 29, σ.ival 30, σ.ival 31, σ.ival 32, σ.ival 73] 1 = σ.ival 26 := (qb_of (l := [σ.ival 0, σ.ival 1, σ.ival 2, σ.ival 3, σ.ival 4, σ.ival 5, σ.ival 6, σ.ival 7, σ.ival 8]) (L := [σ.ival 24, σ.ival 25, σ.ival 26, σ.ival 27, σ.ival 28, σ.ival 29, σ.ival 30, σ.ival 31, σ.ival 32, σ.ival 73]) 1 m24 m26).trans m26.symm
        have b2 : qb [σ.ival 24, σ.ival 25, σ.ival 26, σ.ival 27, σ.ival 28, σ.ival 29, σ.ival 30, σ.ival 31, σ.ival 32, σ.ival 73] 2 = σ.ival 27 := (qb_of (l := [σ.ival 0, σ.ival 1, σ.ival 2, σ.ival 3, σ.ival 4, σ.ival 5, σ.ival 6, σ.ival 7, σ.ival 8]) (L := [σ.ival 24, σ.ival 25, σ.ival 26, σ.ival 27, σ.ival 28, σ.ival 29, σ.ival 30, σ.ival 31, σ.ival 32, σ.ival 73]) 2 m24 m27).trans m27.symm
        have b3 : qb [σ.ival 24, σ.ival 25, σ.ival 26, σ.ival 27, σ.ival 28, σ.ival 29, σ.ival 30, σ.ival 31, σ.ival 32, σ.ival 73] 3 = σ.ival 28 := (qb_of (l := [σ.ival 0, σ.ival 1, σ.ival 2, σ.ival 3, σ.ival 4, σ.ival 5, σ.ival 6, σ.ival 7, σ.ival 8]) (L := [σ.ival 24, σ.ival 25, σ.ival 26, σ.ival 27, σ.ival 28, σ.ival 29, σ.ival 30, σ.ival 31, σ.ival 32, σ.ival 73]) 3 m24 m28).trans m28.symm
        have b4 : qb [σ.ival 24, σ.ival 25, σ.ival 26, σ.ival 27, σ.ival 28, σ.ival 29, σ.ival 30, σ.ival 31, σ.ival 32, σ.ival 73] 4 = σ.ival 29 := (qb_of (l := [σ.ival 0, σ.ival 1, σ.ival 2, σ.ival 3, σ.ival 4, σ.ival 5, σ.ival 6, σ.ival 7, σ.ival 8]) (L := [σ.ival 24, σ.ival 25, σ.ival 26, σ.ival 27, σ.ival 28, σ.ival 29, σ.ival 30, σ.ival 31, σ.ival 32, σ.ival 73]) 4 m24 m29).trans m29.symm
        have b5 : qb [σ.ival 24, σ.ival 25, σ.ival 26, σ.ival 27, σ.ival 28, σ.ival 29, σ.ival 30, σ.ival 31, σ.ival 32, σ.ival 73] 5 = σ.ival 30 := (qb_of (l := [σ.ival 0, σ.ival 1, σ.ival 2, σ.ival 3, σ.ival 4, σ.ival 5, σ.ival 6, σ.ival 7, σ.ival 8]) (L := [σ.ival 24, σ.ival 25, σ.ival 26, σ.ival 27, σ.ival 28, σ.ival 29, σ.ival 30, σ.ival 31, σ.ival 32, σ.ival 73]) 5 m24 m30).trans m30.symm
        have b6 : qb [σ.ival 24, σ.ival 25, σ.ival 26, σ.ival 27, σ.ival 28, σ.ival 29, σ.ival 30, σ.ival 31, σ.ival 32, σ.ival 73] 6 = σ.ival 31 := (qb_of (l := [σ.ival 0, σ.ival 1, σ.ival 2, σ.ival 3, σ.ival 4, σ.ival 5, σ.ival 6, σ.ival 7, σ.ival 8]) (L := [σ.ival 24, σ.ival 25, σ.ival 26, σ.ival 27, σ.ival 28, σ.ival 29, σ.ival 30, σ.ival 31, σ.ival 32, σ.ival 73]) 6 m24 m31).trans m31.symm
        have b7 : qb [σ.ival 24, σ.ival 25, σ.ival 26, σ.ival 27, σ.ival 28, σ.ival 29, σ.ival 30, σ.ival 31, σ.ival 32, σ.ival 73] 7 = σ.ival 32 := (qb_of (l := [σ.ival 0, σ.ival 1, σ.ival 2, σ.ival 3, σ.ival 4, σ.ival 5, σ.ival 6, σ.ival 7, σ.ival 8]) (L := [σ.ival 24, σ.ival 25, σ.ival 26, σ.ival 27, σ.ival 28, σ.ival 29, σ.ival 30, σ.ival 31, σ.ival 32, σ.ival 73]) 7 m24 m32).trans m32.symm
        refine ⟨?_, ?_, ?_, ?_, ?_, ?_, ?_, ?_, ?_⟩
        · rw [e74, ht]
          show IntKind.i64.wrap ((pushF [σ.ival 24, σ.ival 25, σ.ival 26, σ.ival 27, σ.ival 28, σ.ival 29, σ.ival 30, σ.ival 31, σ.ival 32, σ.ival 73]).getD 0 0) = _
          rw [hp, m24, k8']; rfl
        · rw [e75, ht]
          show IntKind.u8.wrap ((pushF [σ.ival 24, σ.ival 25, σ.ival 26, σ.ival 27, σ.ival 28, σ.ival 29, σ.ival 30, σ.ival 31, σ.ival 32, σ.ival 73]).getD 1 0) = _
          rw [hp]
          show IntKind.u8.wrap (qb [σ.ival 24, σ.ival 25, σ.ival 26, σ.ival 27, σ.ival 28, σ.ival 29, σ.ival 30, σ.ival 31, σ.ival 32, σ.ival 73] 0) = _
          rw [b0, m25]; exact qb_w (l := [σ.ival 0, σ.ival 1, σ.ival 2, σ.ival 3, σ.ival 4, σ.ival 5, σ.ival 6, σ.ival 7, σ.ival 8]) 0 w1
        · rw [e76, ht]
          show IntKind.u8.wrap ((pushF [σ.ival 24, σ.ival 25, σ.ival 26, σ.ival 27, σ.ival 28, σ.ival 29, σ.ival 30, σ.ival 31, σ.ival 32, σ.ival 73]).getD 2 0) = _
          rw [hp]
          show IntKind.u8.wrap (qb [σ.ival 24, σ.ival 25, σ.ival 26, σ.ival 27, σ.ival 28, σ.ival 29, σ.ival 30, σ.ival 31, σ.ival 32, σ.ival 73] 1) = _
          rw [b1, m26]; exact qb_w (l := [σ.ival 0, σ.ival 1, σ.ival 2, σ.ival 3, σ.ival 4, σ.ival 5, σ.ival 6, σ.ival 7, σ.ival 8]) 1 w2
        · rw [e77, ht]
          show IntKind.u8.wrap ((pushF [σ.ival 24, σ.ival 25, σ.ival 26, σ.ival 27, σ.ival 28, σ.ival 29, σ.ival 30, σ.ival 31, σ.ival 32, σ.ival 73]).getD 3 0) = _
          rw [hp]
          show IntKind.u8.wrap (qb [σ.ival 24, σ.ival 25, σ.ival 26, σ.ival 27, σ.ival 28, σ.ival 29, σ.ival 30, σ.ival 31, σ.ival 32, σ.ival 73] 2) = _
          rw [b2, m27]; exact qb_w (l := [σ.ival 0, σ.ival 1, σ.ival 2, σ.ival 3, σ.ival 4, σ.ival 5, σ.ival 6, σ.ival 7, σ.ival 8]) 2 w3
        · rw [e78, ht]
          show IntKind.u8.wrap ((pushF [σ.ival 24, σ.ival 25, σ.ival 26, σ.ival 27, σ.ival 28, σ.ival 29, σ.ival 30, σ.ival 31, σ.ival 32, σ.ival 73]).getD 4 0) = _
          rw [hp]
          show IntKind.u8.wrap (qb [σ.ival 24, σ.ival 25, σ.ival 26, σ.ival 27, σ.ival 28, σ.ival 29, σ.ival 30, σ.ival 31, σ.ival 32, σ.ival 73] 3) = _
          rw [b3, m28]; exact qb_w (l := [σ.ival 0, σ.ival 1, σ.ival 2, σ.ival 3, σ.ival 4, σ.ival 5, σ.ival 6, σ.ival 7, σ.ival 8]) 3 w4
        · rw [e79, ht]
          show IntKind.u8.wrap ((pushF [σ.ival 24, σ.ival 25, σ.ival 26, σ.ival 27, σ.ival 28, σ.ival 29, σ.ival 30, σ.ival 31, σ.ival 32, σ.ival 73]).getD 5 0) = _
          rw [hp]
          show IntKind.u8.wrap (qb [σ.ival 24, σ.ival 25, σ.ival 26, σ.ival 27, σ.ival 28, σ.ival 29, σ.ival 30, σ.ival 31, σ.ival 32, σ.ival 73] 4) = _
          rw [b4, m29]; exact qb_w (l := [σ.ival 0, σ.ival 1, σ.ival 2, σ.ival 3, σ.ival 4, σ.ival 5, σ.ival 6, σ.ival 7, σ.ival 8]) 4 w5
        · rw [e80, ht]
          show IntKind.u8.wrap ((pushF [σ.ival 24, σ.ival 25, σ.ival 26, σ.ival 27, σ.ival 28, σ.ival 29, σ.ival 30, σ.ival 31, σ.ival 32, σ.ival 73]).getD 6 0) = _
          rw [hp]
          show IntKind.u8.wrap (qb [σ.ival 24, σ.ival 25, σ.ival 26, σ.ival 27, σ.ival 28, σ.ival 29, σ.ival 30, σ.ival 31, σ.ival 32, σ.ival 73] 5) = _
          rw [b5, m30]; exact qb_w (l := [σ.ival 0, σ.ival 1, σ.ival 2, σ.ival 3, σ.ival 4, σ.ival 5, σ.ival 6, σ.ival 7, σ.ival 8]) 5 w6
        · rw [e81, ht]
          show IntKind.u8.wrap ((pushF [σ.ival 24, σ.ival 25, σ.ival 26, σ.ival 27, σ.ival 28, σ.ival 29, σ.ival 30, σ.ival 31, σ.ival 32, σ.ival 73]).getD 7 0) = _
          rw [hp]
          show IntKind.u8.wrap (qb [σ.ival 24, σ.ival 25, σ.ival 26, σ.ival 27, σ.ival 28, σ.ival 29, σ.ival 30, σ.ival 31, σ.ival 32, σ.ival 73] 6) = _
          rw [b6, m31]; exact qb_w (l := [σ.ival 0, σ.ival 1, σ.ival 2, σ.ival 3, σ.ival 4, σ.ival 5, σ.ival 6, σ.ival 7, σ.ival 8]) 6 w7
        · rw [e82, ht]
          show IntKind.u8.wrap ((pushF [σ.ival 24, σ.ival 25, σ.ival 26, σ.ival 27, σ.ival 28, σ.ival 29, σ.ival 30, σ.ival 31, σ.ival 32, σ.ival 73]).getD 8 0) = _
          rw [hp]
          show IntKind.u8.wrap (qb [σ.ival 24, σ.ival 25, σ.ival 26, σ.ival 27, σ.ival 28, σ.ival 29, σ.ival 30, σ.ival 31, σ.ival 32, σ.ival 73] 7) = _
          rw [b7, m32]; exact qb_w (l := [σ.ival 0, σ.ival 1, σ.ival 2, σ.ival 3, σ.ival 4, σ.ival 5, σ.ival 6, σ.ival 7, σ.ival 8]) 7 w8
      · have hp : pushF [σ.ival 24, σ.ival 25, σ.ival 26, σ.ival 27, σ.ival 28, σ.ival 29, σ.ival 30, σ.ival 31, σ.ival 32, σ.ival 73] = [qk [σ.ival 24, σ.ival 25, σ.ival 26, σ.ival 27, σ.ival 28, σ.ival 29, σ.ival 30, σ.ival 31, σ.ival 32, σ.ival 73] + 1, qp [σ.ival 24, σ.ival 25, σ.ival 26, σ.ival 27, σ.ival 28, σ.ival 29, σ.ival 30, σ.ival 31, σ.ival 32, σ.ival 73] ([σ.ival 24, σ.ival 25, σ.ival 26, σ.ival 27, σ.ival 28, σ.ival 29, σ.ival 30, σ.ival 31, σ.ival 32, σ.ival 73].getD 9 0) 0, qp [σ.ival 24, σ.ival 25, σ.ival 26, σ.ival 27, σ.ival 28, σ.ival 29, σ.ival 30, σ.ival 31, σ.ival 32, σ.ival 73] ([σ.ival 24, σ.ival 25, σ.ival 26, σ.ival 27, σ.ival 28, σ.ival 29, σ.ival 30, σ.ival 31, σ.ival 32, σ.ival 73].getD 9 0) 1, qp [σ.ival 24, σ.ival 25, σ.ival 26, σ.ival 27, σ.ival 28, σ.ival 29, σ.ival 30, σ.ival 31, σ.ival 32, σ.ival 73] ([σ.ival 24, σ.ival 25, σ.ival 26, σ.ival 27, σ.ival 28, σ.ival 29, σ.ival 30, σ.ival 31, σ.ival 32, σ.ival 73].getD 9 0) 2, qp [σ.ival 24, σ.ival 25, σ.ival 26, σ.ival 27, σ.ival 28, σ.ival 29, σ.ival 30, σ.ival 31, σ.ival 32, σ.ival 73] ([σ.ival 24, σ.ival 25, σ.ival 26, σ.ival 27, σ.ival 28, σ.ival 29, σ.ival 30, σ.ival 31, σ.ival 32, σ.ival 73].getD 9 0) 3, qp [σ.ival 24, σ.ival 25, σ.ival 26, σ.ival 27, σ.ival 28, σ.ival 29, σ.ival 30, σ.ival 31, σ.ival 32, σ.ival 73] ([σ.ival 24, σ.ival 25, σ.ival 26, σ.ival 27, σ.ival 28, σ.ival 29, σ.ival 30, σ.ival 31, σ.ival 32, σ.ival 73].getD 9 0) 4, qp [σ.ival 24, σ.ival 25, σ.ival 26, σ.ival 27, σ.ival 28, σ.ival 29, σ.ival 30, σ.ival 31, σ.ival 32, σ.ival 73] ([σ.ival 24, σ.ival 25, σ.ival 26, σ.ival 27, σ.ival 28, σ.ival 29, σ.ival 30, σ.ival 31, σ.ival 32, σ.ival 73].getD 9 0) 5, qp [σ.ival 24, σ.ival 25, σ.ival 26, σ.ival 27, σ.ival 28, σ.ival 29, σ.ival 30, σ.ival 31, σ.ival 32, σ.ival 73] ([σ.ival 24, σ.ival 25, σ.ival 26, σ.ival 27, σ.ival 28, σ.ival 29, σ.ival 30, σ.ival 31, σ.ival 32, σ.ival 73].getD 9 0) 6, qp [σ.ival 24, σ.ival 25, σ.ival 26, σ.ival 27, σ.ival 28, σ.ival 29, σ.ival 30, σ.ival 31, σ.ival 32, σ.ival 73] ([σ.ival 24, σ.ival 25, σ.ival 26, σ.ival 27, σ.ival 28, σ.ival 29, σ.ival 30, σ.ival 31, σ.ival 32, σ.ival 73].getD 9 0) 7, 1] := if_neg k8
        rw [hp] at h
        replace h : (!((1 : Int) == 0)) = false := h
        exact absurd h (by decide)
    have hpop : σ.bval 42 = false → σ.bval 114 = true := by
      intro h
      rw [e42, m33] at h
      rw [e114, ht]
      show (!((popF [σ.ival 33, σ.ival 34, σ.ival 35, σ.ival 36, σ.ival 37, σ.ival 38, σ.ival 39, σ.ival 40, σ.ival 41]).getD 10 0 == 0)) = true
      have k0 : ¬ qk [σ.ival 33, σ.ival 34, σ.ival 35, σ.ival 36, σ.ival 37, σ.ival 38, σ.ival 39, σ.ival 40, σ.ival 41] = 0 := by
        rw [qk_of (l := [σ.ival 9, σ.ival 10, σ.ival 11, σ.ival 12, σ.ival 13, σ.ival 14, σ.ival 15, σ.ival 16, σ.ival 17]) (L := [σ.ival 33, σ.ival 34, σ.ival 35, σ.ival 36, σ.ival 37, σ.ival 38, σ.ival 39, σ.ival 40, σ.ival 41]) m33]; simpa using h
      rw [show popF [σ.ival 33, σ.ival 34, σ.ival 35, σ.ival 36, σ.ival 37, σ.ival 38, σ.ival 39, σ.ival 40, σ.ival 41] = [qb [σ.ival 33, σ.ival 34, σ.ival 35, σ.ival 36, σ.ival 37, σ.ival 38, σ.ival 39, σ.ival 40, σ.ival 41] 0, qk [σ.ival 33, σ.ival 34, σ.ival 35, σ.ival 36, σ.ival 37, σ.ival 38, σ.ival 39, σ.ival 40, σ.ival 41] - 1, qb [σ.ival 33, σ.ival 34, σ.ival 35, σ.ival 36, σ.ival 37, σ.ival 38, σ.ival 39, σ.ival 40, σ.ival 41] 1, qb [σ.ival 33, σ.ival 34, σ.ival 35, σ.ival 36, σ.ival 37, σ.ival 38, σ.ival 39, σ.ival 40, σ.ival 41] 2, qb [σ.ival 33, σ.ival 34, σ.ival 35, σ.ival 36, σ.ival 37, σ.ival 38, σ.ival 39, σ.ival 40, σ.ival 41] 3, qb [σ.ival 33, σ.ival 34, σ.ival 35, σ.ival 36, σ.ival 37, σ.ival 38, σ.ival 39, σ.ival 40, σ.ival 41] 4, qb [σ.ival 33, σ.ival 34, σ.ival 35, σ.ival 36, σ.ival 37, σ.ival 38, σ.ival 39, σ.ival 40, σ.ival 41] 5, qb [σ.ival 33, σ.ival 34, σ.ival 35, σ.ival 36, σ.ival 37, σ.ival 38, σ.ival 39, σ.ival 40, σ.ival 41] 6, qb [σ.ival 33, σ.ival 34, σ.ival 35, σ.ival 36, σ.ival 37, σ.ival 38, σ.ival 39, σ.ival 40, σ.ival 41] 7, 0, 1] from if_neg k0]; rfl
    have r19 := u8_range w19
    have r20 := u8_range w20
    have c45 : σ.ival 45 = σ.ival 71 := by rw [e45, e71, e44, e70]; cases σ.bval 42 <;> cases σ.bval 43 <;> rfl
    have l45 : 0 ≤ σ.ival 45 ∧ σ.ival 45 < 4 := by
      rw [e45, e44]
      cases h42 : σ.bval 42 <;> cases h43 : σ.bval 43 <;> simp only [cond_true, cond_false] <;> (try omega)
      have := e43.symm.trans h43
      simp only [ge_iff_le, decide_eq_false_iff_not] at this
      omega
    have x46 : σ.bval 46 = true → σ.bval 47 = false ∧ σ.bval 189 = false := by
      intro h
      rw [e46, beq_iff_eq] at h
      rw [e47, e189, h]; exact ⟨rfl, rfl⟩
    have c59 : σ.bval 69 = σ.bval 59 := by
      rw [e69, e59]
      cases h : σ.bval 46
      · rfl
      · rw [(x46 h).1]; rfl
    have c200 : σ.ival 200 = σ.ival 190 := by
      rw [e200, e190]
      cases h : σ.bval 46
      · rfl
      · rw [(x46 h).2]; rfl
    have c89 : σ.bval 86 = σ.bval 89 := by
      rw [e86, e89, e85, and1]
      rcases Int.emod_two_eq (σ.ival 19) with h | h <;> rw [h] <;> rfl
    have c117 : σ.bval 117 = σ.bval 149 := by rw [e117, e116, e149, e148, e147]; exact and2' r19
    have c150 : σ.bval 118 = σ.bval 150 := by rw [e118, e150, c117]
    have c102 : σ.ival 102 = σ.ival 145 := by rw [e102, e145, c45]
    have c103 : σ.bval 103 = !σ.bval 146 := by
      have h1 : σ.ival 102 = σ.ival 45 + 1 := e102.trans (u8w (by omega) (by omega))
      rw [e103, e146, ← c102, h1]
      by_cases h4 : σ.ival 45 + 1 = 4
      · rw [h4]; rfl
      · rw [show (σ.ival 45 + 1 == 4) = false by simpa using h4, show decide (σ.ival 45 + 1 < 4) = true by simp only [decide_eq_true_eq]; omega]; rfl
    have c101 : σ.bval 101 = !σ.bval 42 := by
      rw [e101, e42, m33]
      by_cases h0 : qk [σ.ival 9, σ.ival 10, σ.ival 11, σ.ival 12, σ.ival 13, σ.ival 14, σ.ival 15, σ.ival 16, σ.ival 17] = 0
      · rw [h0]; rfl
      · rw [show (qk [σ.ival 9, σ.ival 10, σ.ival 11, σ.ival 12, σ.ival 13, σ.ival 14, σ.ival 15, σ.ival 16, σ.ival 17] == 0) = false by simpa using h0, show decide (qk [σ.ival 9, σ.ival 10, σ.ival 11, σ.ival 12, σ.ival 13, σ.ival 14, σ.ival 15, σ.ival 16, σ.ival 17] > 0) = true by simp only [decide_eq_true_eq]; omega]; rfl
    have c178 : σ.bval 178 = true := by rw [e178, c59, c45]; simp
    have c201 : σ.bval 201 = true := by rw [e201, c200, c45]; simp
    have c202 : σ.bval 202 = true := by
      rw [e202, c45, e90, e91, e92, e93, e94, e95, e96, e97, e98, e99, e88, e84]
      cases h : σ.bval 83
      · obtain ⟨p0, p1, p2, p3, p4, p5, p6, p7, p8⟩ := hpush h
        rw [p0, p1, p2, p3, p4, p5, p6, p7, p8]
        cases σ.bval 18 <;> simp
      · cases σ.bval 18 <;> simp
    have c203 : σ.bval 203 = true := by
      rw [e203, e87, e100, e84, c89]
      cases σ.bval 83 <;> simp
    have c204 : σ.bval 204 = true := by
      rw [e204, e132, e133, e134, e135, e136, e137, e138, e139, e140, e141, e164, e165, e166, e167, e168, e169, e170, e171, e172, e173, e119, e120, e121, e122, e123, e124, e125, e126, e127, e128, e151, e152, e153, e154, e155, e156, e157, e158, e159, e160, c101, c103, c45, c102]
      cases σ.bval 42 <;> cases σ.bval 146 <;> simp
    have c205 : σ.bval 205 = true := by
      rw [e205, e142, e174, e129, e161, c101, c103]
      cases σ.bval 42 <;> cases σ.bval 146 <;> simp
    have c206 : σ.bval 206 = true := by
      rw [e206, e143, e175, e130, e162, c101, c103]
      cases h : σ.bval 42
      · rw [hpop h]; cases σ.bval 146 <;> rfl
      · cases σ.bval 146 <;> rfl
    have c207 : σ.bval 207 = true := by
      rw [e207, e144, e176, e131, e163, c101, c103, c150]
      cases σ.bval 42 <;> cases σ.bval 146 <;> simp
    have c208 : σ.bval 208 = true := by rw [e208, c45]; simp
    have c177 : σ.bval 177 = true := by rw [e177, c23]; simp
    have c217 : σ.bval 217 = true := by
      rw [e217, e216, e215, e214, e213, e212, e211, e210, e209, c177, c178, c201, c202, c203, c204, c205, c206, c207, c208]; rfl
    intro _
    exact ⟨by show AVal.bool (σ.bval 217) = _; rw [c217]; rfl, trivial⟩)

end Go.Proofs.Ytgifnmiggloclab.uc
