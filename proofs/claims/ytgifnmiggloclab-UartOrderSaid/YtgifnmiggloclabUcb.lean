/-
  The contracts of uart.Peek and ploverref12.Peek, and of alike. No conditions.
-/
import Derived.Test.YtgifnmiggloclabChecked
import Derived.Test.YtgifnmiggloclabEwY
import Derived.Test.YtgifnmiggloclabFc
import Derived.ProofKit
namespace Go.Proofs.Ytgifnmiggloclab.uc
open Go.RowKit Go.Ev Go.Proofs.Ytgifnmiggloclab.fc
set_option linter.unusedVariables false
set_option linter.unusedSimpArgs false

def ucFs : Nat → List Int → List Int
  | 0 => mendF
  | 1 => pushF
  | 2 => popF
  | _ => fun _ => [1]
def ucTbl : List Ent := [⟨54, q9, q9, 0⟩, ⟨84, q9, q9, 0⟩, ⟨46, q9b, pushO, 1⟩, ⟨83, q9b, pushO, 1⟩, ⟨50, q9, popO, 2⟩, ⟨82, q9, popO, 2⟩]
def u21 : Sh := .agg [.i .i64, .i .u8, .i .u8, .i .u8, .i .u8, .i .u8, .i .u8, .i .u8, .i .u8, .i .i64, .i .u8, .i .u8, .i .u8, .i .u8, .i .u8, .i .u8, .i .u8, .i .u8, .b, .i .u8, .i .u8]
def peekI : List Sh := [u21, .one (.i .i64)]
def peekO : List Sh := [.one (.i .i32)]
/-- what stands in a register -/
def statF (rx tx lost : Int) : Int := (if 0 < rx then 1 else 0) + (if tx = 8 then 2 else 0) + (if lost = 0 then 0 else 4)
def peekF (l : List Int) : List Int :=
  if l.getD 21 0 = 3 then [qb l 0] else if l.getD 21 0 = 4 then [statF (qk l) (qk (l.drop 9)) (l.getD 18 0)] else if l.getD 21 0 = 5 then [l.getD 19 0] else [0]
def upFs : Nat → List Int → List Int
  | 0 => mendF
  | 1 => pushF
  | 2 => popF
  | 3 => peekF
  | _ => fun _ => [1]
def upTbl : List Ent := [⟨54, q9, q9, 0⟩, ⟨84, q9, q9, 0⟩, ⟨46, q9b, pushO, 1⟩, ⟨83, q9b, pushO, 1⟩, ⟨50, q9, popO, 2⟩, ⟨82, q9, popO, 2⟩, ⟨24, peekI, peekO, 3⟩, ⟨59, peekI, peekO, 3⟩]

def stB (a b c : Bool) : Int := (bif a then 1 else 0) + (bif b then 2 else 0) + (bif c then 0 else 4)
theorem statF_eq (r t d : Int) : statF r t d = stB (decide (r > 0)) (t == 8) (d == 0) := by
  show _ = stB (decide (r > 0)) (decide (t = 8)) (decide (d = 0))
  unfold statF stB
  by_cases a : 0 < r <;> by_cases b : t = 8 <;> by_cases c : d = 0 <;> simp [a, b, c]
theorem u8w {n : Int} (h0 : 0 ≤ n) (h1 : n ≤ 255) : IntKind.u8.wrap n = n := by simp [IntKind.wrap, IntKind.bits, IntKind.signed]; omega
theorem i64w {n : Int} (h0 : 0 ≤ n) (h1 : n ≤ 255) : IntKind.i64.wrap n = n := by simp [IntKind.wrap, IntKind.bits, IntKind.signed]; omega
theorem i32w {n : Int} (h0 : 0 ≤ n) (h1 : n ≤ 255) : IntKind.i32.wrap n = n := by simp [IntKind.wrap, IntKind.bits, IntKind.signed]; omega
theorem u8_range {n : Int} (h : IntKind.u8.wrap n = n) : 0 ≤ n ∧ n ≤ 255 := by
  simp [IntKind.wrap, IntKind.bits, IntKind.signed] at h; omega
theorem clamp_clamp (n : Int) : clamp (clamp n) = clamp n := by unfold clamp; split <;> (try split) <;> (try split) <;> (try split) <;> omega
theorem qk_in (l : List Int) : 0 ≤ qk l ∧ qk l ≤ 8 := clamp_in _
theorem qk_w (l : List Int) : IntKind.i64.wrap (qk l) = qk l := i64w (qk_in l).1 (by have := (qk_in l).2; omega)
theorem qb_w {l : List Int} (i : Nat) (h : IntKind.u8.wrap (l.getD (i + 1) 0) = l.getD (i + 1) 0) : IntKind.u8.wrap (qb l i) = qb l i := by
  unfold qb; split
  · exact h
  · rfl
/-- a queue whose cells are the mended ones of another -/
theorem qk_of {l L : List Int} (h : L.getD 0 0 = qk l) : qk L = qk l := by unfold qk; rw [h]; exact clamp_clamp _
theorem qb_of {l L : List Int} (i : Nat) (h0 : L.getD 0 0 = qk l) (h : L.getD (i + 1) 0 = qb l i) : qb L i = qb l i := by
  unfold qb; rw [qk_of h0, h]; unfold qb; split <;> rfl
theorem bif_out {σ : Sig} {i : Nat} {n : Int} {c : Bool} (h : n = 0 ∨ n = 1) (hb : c = !(n == 0)) : (if c then 1 else 0 : Int) = n := by
  subst hb; rcases h with rfl | rfl <;> rfl
theorem and1 (y : Int) : IntKind.u8.wrap (BitVec.ofInt IntKind.u8.bits y &&& BitVec.ofInt IntKind.u8.bits 1).toNat = y % 2 := by
  have h : (BitVec.ofInt 8 y &&& BitVec.ofInt 8 1).toNat = (y % 2).toNat := by
    rw [BitVec.toNat_and, BitVec.toNat_ofInt, show (BitVec.ofInt 8 1).toNat = 1 from rfl, Nat.and_one_is_mod]
    omega
  show IntKind.u8.wrap (((BitVec.ofInt 8 y &&& BitVec.ofInt 8 1).toNat : Nat) : Int) = y % 2
  rw [h]
  simp [IntKind.wrap, IntKind.bits, IntKind.signed]
  omega
theorem and2 : ∀ c : Fin 256, (IntKind.u8.wrap (BitVec.ofInt IntKind.u8.bits (c.val : Int) &&& BitVec.ofInt IntKind.u8.bits 2).toNat != 0) = ((IntKind.u8.wrap ((c.val : Int).tdiv 2)).tmod 2 == 1) := by decide +kernel
theorem and2' {n : Int} (h : 0 ≤ n ∧ n ≤ 255) : (IntKind.u8.wrap (BitVec.ofInt IntKind.u8.bits n &&& BitVec.ofInt IntKind.u8.bits 2).toNat != 0) = ((IntKind.u8.wrap (n.tdiv 2)).tmod 2 == 1) := by
  have := and2 ⟨n.toNat, by omega⟩
  simpa [Int.toNat_of_nonneg h.1] using this

theorem uc_all : ∀ e, e ∈ ucTbl → (cellsOf e.outs).length ≤ 64 ∧ FnOk Try.prog e.f e.ins e.outs (ucFs e.id) := by
  intro e he
  simp only [ucTbl, List.mem_cons, List.not_mem_nil, or_false] at he
  rcases he with rfl | rfl | rfl | rfl | rfl | rfl
  · exact ⟨by decide, fmend_contract⟩
  · exact ⟨by decide, rmend_contract⟩
  · exact ⟨by decide, fpush_contract⟩
  · exact ⟨by decide, rpush_contract⟩
  · exact ⟨by decide, fpop_contract⟩
  · exact ⟨by decide, rpop_contract⟩

def uczL0 : List AVal := [.symi .i64 0, .symi .u8 1, .symi .u8 2, .symi .u8 3, .symi .u8 4, .symi .u8 5, .symi .u8 6, .symi .u8 7, .symi .u8 8]
def uczL1 : List AVal := [.symi .i64 9, .symi .u8 10, .symi .u8 11, .symi .u8 12, .symi .u8 13, .symi .u8 14, .symi .u8 15, .symi .u8 16, .symi .u8 17]
set_option maxRecDepth 100000 in
def rpeekG : List SDef := [.fn 0 .i64 uczL0,
  .fn 1 .u8 uczL0,
  .fn 2 .u8 uczL0,
  .fn 3 .u8 uczL0,
  .fn 4 .u8 uczL0,
  .fn 5 .u8 uczL0,
  .fn 6 .u8 uczL0,
  .fn 7 .u8 uczL0,
  .fn 8 .u8 uczL0,
  .fn 0 .i64 uczL1,
  .fn 1 .u8 uczL1,
  .fn 2 .u8 uczL1,
  .fn 3 .u8 uczL1,
  .fn 4 .u8 uczL1,
  .fn 5 .u8 uczL1,
  .fn 6 .u8 uczL1,
  .fn 7 .u8 uczL1,
  .fn 8 .u8 uczL1,
  .bin .geq (.symi .u8 20) (.int .u8 4),
  .bin .eql (.symi .i64 31) (.int .i64 0),
  .bin .eql (.symi .i64 21) (.int .i64 3),
  .conv .i32 (.symi .u8 23),
  .bin .eql (.symi .i64 21) (.int .i64 4),
  .bin .gtr (.symi .i64 22) (.int .i64 0),
  .bin .eql (.symi .i64 31) (.int .i64 8),
  .bin .eql (.symi .i64 21) (.int .i64 5),
  .conv .i32 (.symi .u8 19),
  .ite (.symb 18) (.int .i32 7) (.int .i32 3),
  .ite (.symb 18) (.int .i32 5) (.int .i32 1),
  .ite (.symb 46) (.symi .i32 49) (.symi .i32 50),
  .ite (.symb 18) (.int .i32 6) (.int .i32 2),
  .ite (.symb 18) (.int .i32 4) (.int .i32 0),
  .ite (.symb 46) (.symi .i32 52) (.symi .i32 53),
  .ite (.symb 45) (.symi .i32 51) (.symi .i32 54),
  .ite (.symb 47) (.symi .i32 48) (.int .i32 0),
  .ite (.symb 44) (.symi .i32 55) (.symi .i32 56),
  .ite (.symb 42) (.symi .i32 43) (.symi .i32 57)]

set_option maxRecDepth 100000 in
def rpeekT : LT := .n (.n (.n (.n (.n (.n (.e) 74533434 45 (.bin .gtr (.symi .i64 22) (.int .i64 0)) (.e)) 218675348 57 (.ite (.symb 44) (.symi .i32 55) (.symi .i32 56)) (.e)) 221523785 43 (.conv .i32 (.symi .u8 23)) (.n (.e) 354603226 53 (.ite (.symb 18) (.int .i32 4) (.int .i32 0)) (.e))) 354604726 50 (.ite (.symb 18) (.int .i32 5) (.int .i32 1)) (.n (.n (.n (.e) 354606226 52 (.ite (.symb 18) (.int .i32 6) (.int .i32 2)) (.e)) 354607726 49 (.ite (.symb 18) (.int .i32 7) (.int .i32 3)) (.e)) 375727183 31 (.fn 0 .i64 uczL1) (.n (.e) 375727226 32 (.fn 1 .u8 uczL1) (.e)))) 375727269 33 (.fn 2 .u8 uczL1) (.n (.n (.n (.n (.e) 375727312 34 (.fn 3 .u8 uczL1) (.e)) 375727355 35 (.fn 4 .u8 uczL1) (.e)) 375727398 36 (.fn 5 .u8 uczL1) (.n (.e) 375727441 37 (.fn 6 .u8 uczL1) (.e))) 375727484 38 (.fn 7 .u8 uczL1) (.n (.n (.e) 375727527 39 (.fn 8 .u8 uczL1) (.e)) 451144917 58 (.ite (.symb 42) (.symi .i32 43) (.symi .i32 57)) (.n (.e) 485560756 22 (.fn 0 .i64 uczL0) (.e))))) 485560799 23 (.fn 1 .u8 uczL0) (.n (.n (.n (.n (.n (.e) 485560842 24 (.fn 2 .u8 uczL0) (.e)) 485560885 25 (.fn 3 .u8 uczL0) (.e)) 485560928 26 (.fn 4 .u8 uczL0) (.n (.e) 485560971 27 (.fn 5 .u8 uczL0) (.e))) 485561014 28 (.fn 6 .u8 uczL0) (.n (.n (.n (.e) 485561057 29 (.fn 7 .u8 uczL0) (.e)) 485561100 30 (.fn 8 .u8 uczL0) (.e)) 533419068 55 (.ite (.symb 45) (.symi .i32 51) (.symi .i32 54)) (.n (.e) 670423649 54 (.ite (.symb 46) (.symi .i32 52) (.symi .i32 53)) (.e)))) 800336753 56 (.ite (.symb 47) (.symi .i32 48) (.int .i32 0)) (.n (.n (.n (.n (.e) 844162776 51 (.ite (.symb 46) (.symi .i32 49) (.symi .i32 50)) (.e)) 883264376 48 (.conv .i32 (.symi .u8 19)) (.e)) 946474802 40 (.bin .geq (.symi .u8 20) (.int .u8 4)) (.n (.e) 983536133 41 (.bin .eql (.symi .i64 31) (.int .i64 0)) (.e))) 983936413 46 (.bin .eql (.symi .i64 31) (.int .i64 8)) (.n (.n (.e) 1047425035 42 (.bin .eql (.symi .i64 21) (.int .i64 3)) (.e)) 1047475070 44 (.bin .eql (.symi .i64 21) (.int .i64 4)) (.n (.e) 1047525105 47 (.bin .eql (.symi .i64 21) (.int .i64 5)) (.e)))))

set_option maxRecDepth 100000 in
def rpeekW : Wr' := .run (.leaf (.symi .i32 58))
def rpeekX : Ing := { m := 22, ins := (cellsOf peekI).map kindC, G := rpeekG, T := rpeekT, hook := tblHook (tabOf ucFs) ucTbl, tab := tabOf ucFs }
theorem rpeek_ok : okG rpeekG 22 = true := by kernel_rfl
theorem rpeek_lt : okLT 22 rpeekG rpeekT = true := by kernel_rfl
theorem rpeek_run : okW (fun F => (evD Try.prog (cxOf rpeekX) true 1000 40).1 F 59 (symSh peekI 0) ⟨[], []⟩) rpeekW [] = true := by kernel_rfl
set_option maxRecDepth 100000 in
theorem rpeek_contract : FnOk Try.prog 59 peekI peekO peekF :=
  fn_of_run (X := rpeekX) (W := rpeekW) mixed ⟨rfl, rfl, rfl, rfl, rfl⟩ rpeek_ok rpeek_lt (fun F => tbl_hooks rpeek_lt rfl rfl uc_all F) rpeek_run (fun l σ hl e ht hi hb => by
    have w1 : IntKind.u8.wrap (σ.ival 1) = σ.ival 1 := by rw [hi 1 (by decide)]; exact inR_get hl 1 .u8 rfl
    have w19 : IntKind.u8.wrap (σ.ival 19) = σ.ival 19 := by rw [hi 19 (by decide)]; exact inR_get hl 19 .u8 rfl
    have r19 := u8_range w19
    have e22 : σ.ival 22 = IntKind.i64.wrap (σ.tab 0 [σ.ival 0, σ.ival 1, σ.ival 2, σ.ival 3, σ.ival 4, σ.ival 5, σ.ival 6, σ.ival 7, σ.ival 8]) := eqI (e.at 0 _ rfl rfl) rfl
    have e23 : σ.ival 23 = IntKind.u8.wrap (σ.tab 1 [σ.ival 0, σ.ival 1, σ.ival 2, σ.ival 3, σ.ival 4, σ.ival 5, σ.ival 6, σ.ival 7, σ.ival 8]) := eqI (e.at 1 _ rfl rfl) rfl
    have e31 : σ.ival 31 = IntKind.i64.wrap (σ.tab 0 [σ.ival 9, σ.ival 10, σ.ival 11, σ.ival 12, σ.ival 13, σ.ival 14, σ.ival 15, σ.ival 16, σ.ival 17]) := eqI (e.at 9 _ rfl rfl) rfl
    have e40 : σ.bval 40 = decide (σ.ival 20 ≥ 4) := eqB (e.at 18 _ rfl rfl) rfl
    have e41 : σ.bval 41 = (σ.ival 31 == 0) := eqB (e.at 19 _ rfl rfl) rfl
    have e42 : σ.bval 42 = (σ.ival 21 == 3) := eqB (e.at 20 _ rfl rfl) rfl
    have e43 : σ.ival 43 = IntKind.i32.wrap (σ.ival 23) := eqI (e.at 21 _ rfl rfl) rfl
    have e44 : σ.bval 44 = (σ.ival 21 == 4) := eqB (e.at 22 _ rfl rfl) rfl
    have e45 : σ.bval 45 = decide (σ.ival 22 > 0) := eqB (e.at 23 _ rfl rfl) rfl
    have e46 : σ.bval 46 = (σ.ival 31 == 8) := eqB (e.at 24 _ rfl rfl) rfl
    have e47 : σ.bval 47 = (σ.ival 21 == 5) := eqB (e.at 25 _ rfl rfl) rfl
    have e48 : σ.ival 48 = IntKind.i32.wrap (σ.ival 19) := eqI (e.at 26 _ rfl rfl) rfl
    have e49 : σ.ival 49 = (bif σ.bval 18 then 7 else 3) := eqIteI (e.at 27 _ rfl rfl) rfl rfl rfl
    have e50 : σ.ival 50 = (bif σ.bval 18 then 5 else 1) := eqIteI (e.at 28 _ rfl rfl) rfl rfl rfl
    have e51 : σ.ival 51 = (bif σ.bval 46 then σ.ival 49 else σ.ival 50) := eqIteI (e.at 29 _ rfl rfl) rfl rfl rfl
    have e52 : σ.ival 52 = (bif σ.bval 18 then 6 else 2) := eqIteI (e.at 30 _ rfl rfl) rfl rfl rfl
    have e53 : σ.ival 53 = (bif σ.bval 18 then 4 else 0) := eqIteI (e.at 31 _ rfl rfl) rfl rfl rfl
    have e54 : σ.ival 54 = (bif σ.bval 46 then σ.ival 52 else σ.ival 53) := eqIteI (e.at 32 _ rfl rfl) rfl rfl rfl
    have e55 : σ.ival 55 = (bif σ.bval 45 then σ.ival 51 else σ.ival 54) := eqIteI (e.at 33 _ rfl rfl) rfl rfl rfl
    have e56 : σ.ival 56 = (bif σ.bval 47 then σ.ival 48 else 0) := eqIteI (e.at 34 _ rfl rfl) rfl rfl rfl
    have e57 : σ.ival 57 = (bif σ.bval 44 then σ.ival 55 else σ.ival 56) := eqIteI (e.at 35 _ rfl rfl) rfl rfl rfl
    have e58 : σ.ival 58 = (bif σ.bval 42 then σ.ival 43 else σ.ival 57) := eqIteI (e.at 36 _ rfl rfl) rfl rfl rfl
    have m0 : σ.ival 22 = qk l := by
      rw [e22, ht]
      have : qk l = clamp (σ.ival 0) := by unfold qk; rw [hi 0 (by decide)]
      rw [this]; exact qk_w [σ.ival 0]
    have m9 : σ.ival 31 = qk (l.drop 9) := by
      rw [e31, ht]
      have : qk (l.drop 9) = clamp (σ.ival 9) := by unfold qk; rw [hi 9 (by decide)]; simp [List.getD]
      rw [this]; exact qk_w [σ.ival 9]
    have m1 : σ.ival 23 = qb l 0 := by
      rw [e23, ht]
      have : qb l 0 = qb [σ.ival 0, σ.ival 1] 0 := by unfold qb qk; rw [hi 0 (by decide), hi 1 (by decide)]; rfl
      rw [this]; exact qb_w (l := [σ.ival 0, σ.ival 1]) 0 w1
    have r1 : 0 ≤ qb l 0 ∧ qb l 0 ≤ 255 := by rw [← m1, e23]; exact u8_range (wrap_wrap _ _)
    have k0 := qk_in l
    have k9 := qk_in (l.drop 9)
    have h18 := hb 18 (by decide)
    have h19 := hi 19 (by decide)
    have h21 := hi 21 (by decide)
    intro _
    refine ⟨?_, trivial⟩
    show AVal.int .i32 (σ.ival 58) = .int .i32 (IntKind.i32.wrap ((peekF l).headD 0))
    congr 1
    by_cases c3 : l.getD 21 0 = 3
    · rw [show peekF l = [qb l 0] from if_pos c3, e58, e42, h21, c3, e43, m1]; rfl
    · rw [show peekF l = (if l.getD 21 0 = 4 then [statF (qk l) (qk (l.drop 9)) (l.getD 18 0)] else if l.getD 21 0 = 5 then [l.getD 19 0] else [0]) from if_neg c3, e58, e42, h21, show (l.getD 21 0 == 3) = false by simpa using c3]
      by_cases c4 : l.getD 21 0 = 4
      · rw [if_pos c4, e57, e44, h21, c4]
        show σ.ival 55 = IntKind.i32.wrap (statF _ _ _)
        rw [e55, e51, e54, e49, e50, e52, e53, e45, e46, h18, m0, m9]
        rw [statF_eq]
        generalize decide (qk l > 0) = a
        generalize (qk (l.drop 9) == 8) = b
        generalize (l.getD 18 0 == 0) = d
        cases a <;> cases b <;> cases d <;> rfl
      · rw [if_neg c4, e57, e44, h21, show (l.getD 21 0 == 4) = false by simpa using c4, e56, e47, e48, h21, h19]
        by_cases c5 : l.getD 21 0 = 5
        · rw [if_pos c5, c5]; rfl
        · rw [if_neg c5, show (l.getD 21 0 == 5) = false by simpa using c5]; rfl
)

set_option maxRecDepth 100000 in
def upeekG : List SDef := [.fn 0 .i64 uczL0,
  .fn 1 .u8 uczL0,
  .fn 2 .u8 uczL0,
  .fn 3 .u8 uczL0,
  .fn 4 .u8 uczL0,
  .fn 5 .u8 uczL0,
  .fn 6 .u8 uczL0,
  .fn 7 .u8 uczL0,
  .fn 8 .u8 uczL0,
  .fn 0 .i64 uczL1,
  .fn 1 .u8 uczL1,
  .fn 2 .u8 uczL1,
  .fn 3 .u8 uczL1,
  .fn 4 .u8 uczL1,
  .fn 5 .u8 uczL1,
  .fn 6 .u8 uczL1,
  .fn 7 .u8 uczL1,
  .fn 8 .u8 uczL1,
  .bin .eql (.symi .i64 31) (.int .i64 0),
  .bin .geq (.symi .u8 20) (.int .u8 4),
  .ite (.symb 41) (.int .u8 0) (.symi .u8 20),
  .ite (.symb 40) (.int .u8 0) (.symi .u8 42),
  .bin .eql (.symi .i64 21) (.int .i64 3),
  .bin .eql (.symi .i64 21) (.int .i64 4),
  .bin .eql (.symi .i64 21) (.int .i64 5),
  .conv .i32 (.symi .u8 23),
  .bin .gtr (.symi .i64 22) (.int .i64 0),
  .bin .eql (.symi .i64 31) (.int .i64 8),
  .ite (.symb 48) (.int .i32 1) (.int .i32 0),
  .ite (.symb 49) (.int .i32 2) (.int .i32 0),
  .ite (.symb 18) (.int .i32 4) (.int .i32 0),
  .bin .or (.symi .i32 50) (.int .i32 2),
  .ite (.symb 49) (.symi .i32 53) (.symi .i32 50),
  .bin .or (.symi .i32 50) (.int .i32 4),
  .ite (.symb 18) (.symi .i32 55) (.symi .i32 50),
  .bin .or (.symi .i32 54) (.int .i32 4),
  .ite (.symb 18) (.symi .i32 57) (.symi .i32 54),
  .bin .or (.symi .i32 56) (.int .i32 2),
  .ite (.symb 49) (.symi .i32 59) (.symi .i32 56),
  .bin .or (.symi .i32 51) (.int .i32 1),
  .ite (.symb 48) (.symi .i32 61) (.symi .i32 51),
  .bin .or (.symi .i32 51) (.int .i32 4),
  .ite (.symb 18) (.symi .i32 63) (.symi .i32 51),
  .bin .or (.symi .i32 62) (.int .i32 4),
  .ite (.symb 18) (.symi .i32 65) (.symi .i32 62),
  .bin .or (.symi .i32 64) (.int .i32 1),
  .ite (.symb 48) (.symi .i32 67) (.symi .i32 64),
  .bin .or (.symi .i32 52) (.int .i32 1),
  .ite (.symb 48) (.symi .i32 69) (.symi .i32 52),
  .bin .or (.symi .i32 52) (.int .i32 2),
  .ite (.symb 49) (.symi .i32 71) (.symi .i32 52),
  .bin .or (.symi .i32 70) (.int .i32 2),
  .ite (.symb 49) (.symi .i32 73) (.symi .i32 70),
  .bin .or (.symi .i32 72) (.int .i32 1),
  .ite (.symb 48) (.symi .i32 75) (.symi .i32 72),
  .conv .i32 (.symi .u8 19),
  .ite (.symb 46) (.symi .i32 77) (.int .i32 0)]

set_option maxRecDepth 100000 in
def upeekT : LT := .n (.n (.n (.n (.n (.n (.e) 21628824 67 (.bin .or (.symi .i32 64) (.int .i32 1)) (.e)) 74305101 66 (.ite (.symb 18) (.symi .i32 65) (.symi .i32 62)) (.n (.e) 74533434 48 (.bin .gtr (.symi .i64 22) (.int .i64 0)) (.e))) 85517726 57 (.bin .or (.symi .i32 54) (.int .i32 4)) (.n (.n (.e) 91044045 43 (.ite (.symb 40) (.int .u8 0) (.symi .u8 42)) (.e)) 109214488 70 (.ite (.symb 48) (.symi .i32 69) (.symi .i32 52)) (.n (.e) 129264147 42 (.ite (.symb 41) (.int .u8 0) (.symi .u8 20)) (.e)))) 221523785 47 (.conv .i32 (.symi .u8 23)) (.n (.n (.n (.e) 229771293 50 (.ite (.symb 48) (.int .i32 1) (.int .i32 0)) (.e)) 262782878 64 (.ite (.symb 18) (.symi .i32 63) (.symi .i32 51)) (.n (.e) 287418262 59 (.bin .or (.symi .i32 56) (.int .i32 2)) (.e))) 341003536 74 (.ite (.symb 49) (.symi .i32 73) (.symi .i32 70)) (.n (.n (.e) 354603226 52 (.ite (.symb 18) (.int .i32 4) (.int .i32 0)) (.e)) 368776625 51 (.ite (.symb 49) (.int .i32 2) (.int .i32 0)) (.e)))) 375727183 31 (.fn 0 .i64 uczL1) (.n (.n (.n (.n (.e) 375727226 32 (.fn 1 .u8 uczL1) (.e)) 375727269 33 (.fn 2 .u8 uczL1) (.n (.e) 375727312 34 (.fn 3 .u8 uczL1) (.e))) 375727355 35 (.fn 4 .u8 uczL1) (.n (.n (.e) 375727398 36 (.fn 5 .u8 uczL1) (.e)) 375727441 37 (.fn 6 .u8 uczL1) (.e))) 375727484 38 (.fn 7 .u8 uczL1) (.n (.n (.n (.e) 375727527 39 (.fn 8 .u8 uczL1) (.e)) 435958244 60 (.ite (.symb 49) (.symi .i32 59) (.symi .i32 56)) (.n (.e) 485560756 22 (.fn 0 .i64 uczL0) (.e))) 485560799 23 (.fn 1 .u8 uczL0) (.n (.n (.e) 485560842 24 (.fn 2 .u8 uczL0) (.e)) 485560885 25 (.fn 3 .u8 uczL0) (.e))))) 485560928 26 (.fn 4 .u8 uczL0) (.n (.n (.n (.n (.n (.e) 485560971 27 (.fn 5 .u8 uczL0) (.e)) 485561014 28 (.fn 6 .u8 uczL0) (.n (.e) 485561057 29 (.fn 7 .u8 uczL0) (.e))) 485561100 30 (.fn 8 .u8 uczL0) (.n (.n (.e) 546219969 72 (.ite (.symb 49) (.symi .i32 71) (.symi .i32 52)) (.e)) 549477203 68 (.ite (.symb 48) (.symi .i32 67) (.symi .i32 64)) (.n (.e) 627680677 73 (.bin .or (.symi .i32 70) (.int .i32 2)) (.e)))) 687377821 78 (.ite (.symb 46) (.symi .i32 77) (.int .i32 0)) (.n (.n (.n (.e) 755158271 53 (.bin .or (.symi .i32 50) (.int .i32 2)) (.e)) 755258341 55 (.bin .or (.symi .i32 50) (.int .i32 4)) (.n (.e) 783436498 54 (.ite (.symb 49) (.symi .i32 53) (.symi .i32 50)) (.e))) 802000749 76 (.ite (.symb 48) (.symi .i32 75) (.symi .i32 72)) (.n (.n (.e) 829631248 75 (.bin .or (.symi .i32 72) (.int .i32 1)) (.e)) 856108539 61 (.bin .or (.symi .i32 51) (.int .i32 1)) (.e)))) 856258644 63 (.bin .or (.symi .i32 51) (.int .i32 4)) (.n (.n (.n (.n (.e) 883264376 77 (.conv .i32 (.symi .u8 19)) (.e)) 893520150 65 (.bin .or (.symi .i32 62) (.int .i32 4)) (.n (.e) 895523382 58 (.ite (.symb 18) (.symi .i32 57) (.symi .i32 54)) (.e))) 913694113 62 (.ite (.symb 48) (.symi .i32 61) (.symi .i32 51)) (.n (.n (.e) 946474802 41 (.bin .geq (.symi .u8 20) (.int .u8 4)) (.e)) 957108842 69 (.bin .or (.symi .i32 52) (.int .i32 1)) (.e))) 957158877 71 (.bin .or (.symi .i32 52) (.int .i32 2)) (.n (.n (.n (.e) 983536133 40 (.bin .eql (.symi .i64 31) (.int .i64 0)) (.e)) 983936413 49 (.bin .eql (.symi .i64 31) (.int .i64 8)) (.n (.e) 1047425035 44 (.bin .eql (.symi .i64 21) (.int .i64 3)) (.e))) 1047475070 45 (.bin .eql (.symi .i64 21) (.int .i64 4)) (.n (.n (.e) 1047525105 46 (.bin .eql (.symi .i64 21) (.int .i64 5)) (.e)) 1067262503 56 (.ite (.symb 18) (.symi .i32 55) (.symi .i32 50)) (.e)))))

set_option maxRecDepth 100000 in
def upeekW : Wr' := .run (.node 44 (.leaf (.symi .i32 47)) (.node 45 (.or (.or (.leaf (.symi .i32 58)) (.leaf (.symi .i32 60))) (.or (.or (.leaf (.symi .i32 66)) (.leaf (.symi .i32 68))) (.or (.leaf (.symi .i32 74)) (.leaf (.symi .i32 76))))) (.leaf (.symi .i32 78))))
def upeekX : Ing := { m := 22, ins := (cellsOf peekI).map kindC, G := upeekG, T := upeekT, hook := tblHook (tabOf ucFs) ucTbl, tab := tabOf ucFs }
theorem upeek_ok : okG upeekG 22 = true := by kernel_rfl
theorem upeek_lt : okLT 22 upeekG upeekT = true := by kernel_rfl
theorem upeek_run : okW (fun F => (evD Try.prog (cxOf upeekX) true 1000 40).1 F 24 (symSh peekI 0) ⟨[], []⟩) upeekW [] = true := by kernel_rfl
set_option maxRecDepth 100000 in
theorem upeek_contract : FnOk Try.prog 24 peekI peekO peekF :=
  fn_of_run (X := upeekX) (W := upeekW) mixed ⟨rfl, rfl, rfl, rfl, rfl⟩ upeek_ok upeek_lt (fun F => tbl_hooks upeek_lt rfl rfl uc_all F) upeek_run (fun l σ hl e ht hi hb => by
    have w1 : IntKind.u8.wrap (σ.ival 1) = σ.ival 1 := by rw [hi 1 (by decide)]; exact inR_get hl 1 .u8 rfl
    have w19 : IntKind.u8.wrap (σ.ival 19) = σ.ival 19 := by rw [hi 19 (by decide)]; exact inR_get hl 19 .u8 rfl
    have r19 := u8_range w19
    have e22 : σ.ival 22 = IntKind.i64.wrap (σ.tab 0 [σ.ival 0, σ.ival 1, σ.ival 2, σ.ival 3, σ.ival 4, σ.ival 5, σ.ival 6, σ.ival 7, σ.ival 8]) := eqI (e.at 0 _ rfl rfl) rfl
    have e23 : σ.ival 23 = IntKind.u8.wrap (σ.tab 1 [σ.ival 0, σ.ival 1, σ.ival 2, σ.ival 3, σ.ival 4, σ.ival 5, σ.ival 6, σ.ival 7, σ.ival 8]) := eqI (e.at 1 _ rfl rfl) rfl
    have e31 : σ.ival 31 = IntKind.i64.wrap (σ.tab 0 [σ.ival 9, σ.ival 10, σ.ival 11, σ.ival 12, σ.ival 13, σ.ival 14, σ.ival 15, σ.ival 16, σ.ival 17]) := eqI (e.at 9 _ rfl rfl) rfl
    have e40 : σ.bval 40 = (σ.ival 31 == 0) := eqB (e.at 18 _ rfl rfl) rfl
    have e41 : σ.bval 41 = decide (σ.ival 20 ≥ 4) := eqB (e.at 19 _ rfl rfl) rfl
    have e42 : σ.ival 42 = (bif σ.bval 41 then 0 else σ.ival 20) := eqIteI (e.at 20 _ rfl rfl) rfl rfl rfl
    have e43 : σ.ival 43 = (bif σ.bval 40 then 0 else σ.ival 42) := eqIteI (e.at 21 _ rfl rfl) rfl rfl rfl
    have e44 : σ.bval 44 = (σ.ival 21 == 3) := eqB (e.at 22 _ rfl rfl) rfl
    have e45 : σ.bval 45 = (σ.ival 21 == 4) := eqB (e.at 23 _ rfl rfl) rfl
    have e46 : σ.bval 46 = (σ.ival 21 == 5) := eqB (e.at 24 _ rfl rfl) rfl
    have e47 : σ.ival 47 = IntKind.i32.wrap (σ.ival 23) := eqI (e.at 25 _ rfl rfl) rfl
    have e48 : σ.bval 48 = decide (σ.ival 22 > 0) := eqB (e.at 26 _ rfl rfl) rfl
    have e49 : σ.bval 49 = (σ.ival 31 == 8) := eqB (e.at 27 _ rfl rfl) rfl
    have e50 : σ.ival 50 = (bif σ.bval 48 then 1 else 0) := eqIteI (e.at 28 _ rfl rfl) rfl rfl rfl
    have e51 : σ.ival 51 = (bif σ.bval 49 then 2 else 0) := eqIteI (e.at 29 _ rfl rfl) rfl rfl rfl
    have e52 : σ.ival 52 = (bif σ.bval 18 then 4 else 0) := eqIteI (e.at 30 _ rfl rfl) rfl rfl rfl
    have e53 : σ.ival 53 = IntKind.i32.wrap (BitVec.ofInt IntKind.i32.bits (σ.ival 50) ||| BitVec.ofInt IntKind.i32.bits (2)).toNat := eqI (e.at 31 _ rfl rfl) rfl
    have e54 : σ.ival 54 = (bif σ.bval 49 then σ.ival 53 else σ.ival 50) := eqIteI (e.at 32 _ rfl rfl) rfl rfl rfl
    have e55 : σ.ival 55 = IntKind.i32.wrap (BitVec.ofInt IntKind.i32.bits (σ.ival 50) ||| BitVec.ofInt IntKind.i32.bits (4)).toNat := eqI (e.at 33 _ rfl rfl) rfl
    have e56 : σ.ival 56 = (bif σ.bval 18 then σ.ival 55 else σ.ival 50) := eqIteI (e.at 34 _ rfl rfl) rfl rfl rfl
    have e57 : σ.ival 57 = IntKind.i32.wrap (BitVec.ofInt IntKind.i32.bits (σ.ival 54) ||| BitVec.ofInt IntKind.i32.bits (4)).toNat := eqI (e.at 35 _ rfl rfl) rfl
    have e58 : σ.ival 58 = (bif σ.bval 18 then σ.ival 57 else σ.ival 54) := eqIteI (e.at 36 _ rfl rfl) rfl rfl rfl
    have e59 : σ.ival 59 = IntKind.i32.wrap (BitVec.ofInt IntKind.i32.bits (σ.ival 56) ||| BitVec.ofInt IntKind.i32.bits (2)).toNat := eqI (e.at 37 _ rfl rfl) rfl
    have e60 : σ.ival 60 = (bif σ.bval 49 then σ.ival 59 else σ.ival 56) := eqIteI (e.at 38 _ rfl rfl) rfl rfl rfl
    have e61 : σ.ival 61 = IntKind.i32.wrap (BitVec.ofInt IntKind.i32.bits (σ.ival 51) ||| BitVec.ofInt IntKind.i32.bits (1)).toNat := eqI (e.at 39 _ rfl rfl) rfl
    have e62 : σ.ival 62 = (bif σ.bval 48 then σ.ival 61 else σ.ival 51) := eqIteI (e.at 40 _ rfl rfl) rfl rfl rfl
    have e63 : σ.ival 63 = IntKind.i32.wrap (BitVec.ofInt IntKind.i32.bits (σ.ival 51) ||| BitVec.ofInt IntKind.i32.bits (4)).toNat := eqI (e.at 41 _ rfl rfl) rfl
    have e64 : σ.ival 64 = (bif σ.bval 18 then σ.ival 63 else σ.ival 51) := eqIteI (e.at 42 _ rfl rfl) rfl rfl rfl
    have e65 : σ.ival 65 = IntKind.i32.wrap (BitVec.ofInt IntKind.i32.bits (σ.ival 62) ||| BitVec.ofInt IntKind.i32.bits (4)).toNat := eqI (e.at 43 _ rfl rfl) rfl
    have e66 : σ.ival 66 = (bif σ.bval 18 then σ.ival 65 else σ.ival 62) := eqIteI (e.at 44 _ rfl rfl) rfl rfl rfl
    have e67 : σ.ival 67 = IntKind.i32.wrap (BitVec.ofInt IntKind.i32.bits (σ.ival 64) ||| BitVec.ofInt IntKind.i32.bits (1)).toNat := eqI (e.at 45 _ rfl rfl) rfl
    have e68 : σ.ival 68 = (bif σ.bval 48 then σ.ival 67 else σ.ival 64) := eqIteI (e.at 46 _ rfl rfl) rfl rfl rfl
    have e69 : σ.ival 69 = IntKind.i32.wrap (BitVec.ofInt IntKind.i32.bits (σ.ival 52) ||| BitVec.ofInt IntKind.i32.bits (1)).toNat := eqI (e.at 47 _ rfl rfl) rfl
    have e70 : σ.ival 70 = (bif σ.bval 48 then σ.ival 69 else σ.ival 52) := eqIteI (e.at 48 _ rfl rfl) rfl rfl rfl
    have e71 : σ.ival 71 = IntKind.i32.wrap (BitVec.ofInt IntKind.i32.bits (σ.ival 52) ||| BitVec.ofInt IntKind.i32.bits (2)).toNat := eqI (e.at 49 _ rfl rfl) rfl
    have e72 : σ.ival 72 = (bif σ.bval 49 then σ.ival 71 else σ.ival 52) := eqIteI (e.at 50 _ rfl rfl) rfl rfl rfl
    have e73 : σ.ival 73 = IntKind.i32.wrap (BitVec.ofInt IntKind.i32.bits (σ.ival 70) ||| BitVec.ofInt IntKind.i32.bits (2)).toNat := eqI (e.at 51 _ rfl rfl) rfl
    have e74 : σ.ival 74 = (bif σ.bval 49 then σ.ival 73 else σ.ival 70) := eqIteI (e.at 52 _ rfl rfl) rfl rfl rfl
    have e75 : σ.ival 75 = IntKind.i32.wrap (BitVec.ofInt IntKind.i32.bits (σ.ival 72) ||| BitVec.ofInt IntKind.i32.bits (1)).toNat := eqI (e.at 53 _ rfl rfl) rfl
    have e76 : σ.ival 76 = (bif σ.bval 48 then σ.ival 75 else σ.ival 72) := eqIteI (e.at 54 _ rfl rfl) rfl rfl rfl
    have e77 : σ.ival 77 = IntKind.i32.wrap (σ.ival 19) := eqI (e.at 55 _ rfl rfl) rfl
    have e78 : σ.ival 78 = (bif σ.bval 46 then σ.ival 77 else 0) := eqIteI (e.at 56 _ rfl rfl) rfl rfl rfl
    have m0 : σ.ival 22 = qk l := by
      rw [e22, ht]
      have : qk l = clamp (σ.ival 0) := by unfold qk; rw [hi 0 (by decide)]
      rw [this]; exact qk_w [σ.ival 0]
    have m9 : σ.ival 31 = qk (l.drop 9) := by
      rw [e31, ht]
      have : qk (l.drop 9) = clamp (σ.ival 9) := by unfold qk; rw [hi 9 (by decide)]; simp [List.getD]
      rw [this]; exact qk_w [σ.ival 9]
    have m1 : σ.ival 23 = qb l 0 := by
      rw [e23, ht]
      have : qb l 0 = qb [σ.ival 0, σ.ival 1] 0 := by unfold qb qk; rw [hi 0 (by decide), hi 1 (by decide)]; rfl
      rw [this]; exact qb_w (l := [σ.ival 0, σ.ival 1]) 0 w1
    have r1 : 0 ≤ qb l 0 ∧ qb l 0 ≤ 255 := by rw [← m1, e23]; exact u8_range (wrap_wrap _ _)
    have k0 := qk_in l
    have k9 := qk_in (l.drop 9)
    have h18 := hb 18 (by decide)
    have h19 := hi 19 (by decide)
    have h21 := hi 21 (by decide)
    have out : ∀ i n, σ.ival i = n → IntKind.i32.wrap ((peekF l).headD 0) = n → OutOk σ peekO (.symi .i32 i) (peekF l) := fun i n h1 h2 => ⟨by show AVal.int .i32 (σ.ival i) = .int .i32 _; rw [h1, h2], trivial⟩
    refine ⟨fun hF => ?_, ⟨⟨fun hF => ?_, fun hF => ?_⟩, ⟨fun hF => ?_, fun hF => ?_⟩, ⟨fun hF => ?_, fun hF => ?_⟩⟩, fun hF => ?_⟩
    all_goals simp only [Holds, Fact.holds, e44, e45, h21, beq_iff_eq, beq_eq_false_iff_ne, and_true] at hF
    · refine out 47 _ (e47.trans (by rw [m1])) (by rw [show peekF l = [qb l 0] from if_pos hF]; rfl)
    · have hp : peekF l = [statF (qk l) (qk (l.drop 9)) (l.getD 18 0)] := (if_neg hF.2).trans (if_pos hF.1)
      refine out 58 _ rfl (by
        rw [hp]
        show IntKind.i32.wrap (statF _ _ _) = _
        simp only [e76, e75, e74, e73, e72, e71, e70, e69, e68, e67, e66, e65, e64, e63, e62, e61, e60, e59, e58, e57, e56, e55, e54, e53, e52, e51, e50, e49, e48, h18, m0, m9]
        rw [statF_eq]
        generalize decide (qk l > 0) = a
        generalize (qk (l.drop 9) == 8) = b
        generalize (l.getD 18 0 == 0) = d
        cases a <;> cases b <;> cases d <;> rfl)
    · have hp : peekF l = [statF (qk l) (qk (l.drop 9)) (l.getD 18 0)] := (if_neg hF.2).trans (if_pos hF.1)
      refine out 60 _ rfl (by
        rw [hp]
        show IntKind.i32.wrap (statF _ _ _) = _
        simp only [e76, e75, e74, e73, e72, e71, e70, e69, e68, e67, e66, e65, e64, e63, e62, e61, e60, e59, e58, e57, e56, e55, e54, e53, e52, e51, e50, e49, e48, h18, m0, m9]
        rw [statF_eq]
        generalize decide (qk l > 0) = a
        generalize (qk (l.drop 9) == 8) = b
        generalize (l.getD 18 0 == 0) = d
        cases a <;> cases b <;> cases d <;> rfl)
    · have hp : peekF l = [statF (qk l) (qk (l.drop 9)) (l.getD 18 0)] := (if_neg hF.2).trans (if_pos hF.1)
      refine out 66 _ rfl (by
        rw [hp]
        show IntKind.i32.wrap (statF _ _ _) = _
        simp only [e76, e75, e74, e73, e72, e71, e70, e69, e68, e67, e66, e65, e64, e63, e62, e61, e60, e59, e58, e57, e56, e55, e54, e53, e52, e51, e50, e49, e48, h18, m0, m9]
        rw [statF_eq]
        generalize decide (qk l > 0) = a
        generalize (qk (l.drop 9) == 8) = b
        generalize (l.getD 18 0 == 0) = d
        cases a <;> cases b <;> cases d <;> rfl)
    · have hp : peekF l = [statF (qk l) (qk (l.drop 9)) (l.getD 18 0)] := (if_neg hF.2).trans (if_pos hF.1)
      refine out 68 _ rfl (by
        rw [hp]
        show IntKind.i32.wrap (statF _ _ _) = _
        simp only [e76, e75, e74, e73, e72, e71, e70, e69, e68, e67, e66, e65, e64, e63, e62, e61, e60, e59, e58, e57, e56, e55, e54, e53, e52, e51, e50, e49, e48, h18, m0, m9]
        rw [statF_eq]
        generalize decide (qk l > 0) = a
        generalize (qk (l.drop 9) == 8) = b
        generalize (l.getD 18 0 == 0) = d
        cases a <;> cases b <;> cases d <;> rfl)
    · have hp : peekF l = [statF (qk l) (qk (l.drop 9)) (l.getD 18 0)] := (if_neg hF.2).trans (if_pos hF.1)
      refine out 74 _ rfl (by
        rw [hp]
        show IntKind.i32.wrap (statF _ _ _) = _
        simp only [e76, e75, e74, e73, e72, e71, e70, e69, e68, e67, e66, e65, e64, e63, e62, e61, e60, e59, e58, e57, e56, e55, e54, e53, e52, e51, e50, e49, e48, h18, m0, m9]
        rw [statF_eq]
        generalize decide (qk l > 0) = a
        generalize (qk (l.drop 9) == 8) = b
        generalize (l.getD 18 0 == 0) = d
        cases a <;> cases b <;> cases d <;> rfl)
    · have hp : peekF l = [statF (qk l) (qk (l.drop 9)) (l.getD 18 0)] := (if_neg hF.2).trans (if_pos hF.1)
      refine out 76 _ rfl (by
        rw [hp]
        show IntKind.i32.wrap (statF _ _ _) = _
        simp only [e76, e75, e74, e73, e72, e71, e70, e69, e68, e67, e66, e65, e64, e63, e62, e61, e60, e59, e58, e57, e56, e55, e54, e53, e52, e51, e50, e49, e48, h18, m0, m9]
        rw [statF_eq]
        generalize decide (qk l > 0) = a
        generalize (qk (l.drop 9) == 8) = b
        generalize (l.getD 18 0 == 0) = d
        cases a <;> cases b <;> cases d <;> rfl)
    · have hp : peekF l = (if l.getD 21 0 = 5 then [l.getD 19 0] else [0]) := (if_neg hF.2).trans (if_neg hF.1)
      refine out 78 _ rfl (by
        rw [hp, e78, e46, e77, h21, h19]
        by_cases c5 : l.getD 21 0 = 5
        · rw [if_pos c5, c5]; rfl
        · rw [if_neg c5, show (l.getD 21 0 == 5) = false by simpa using c5]; rfl)
)

theorem up_all : ∀ e, e ∈ upTbl → (cellsOf e.outs).length ≤ 64 ∧ FnOk Try.prog e.f e.ins e.outs (upFs e.id) := by
  intro e he
  simp only [upTbl, List.mem_cons, List.not_mem_nil, or_false] at he
  rcases he with rfl | rfl | rfl | rfl | rfl | rfl | rfl | rfl
  · exact ⟨by decide, fmend_contract⟩
  · exact ⟨by decide, rmend_contract⟩
  · exact ⟨by decide, fpush_contract⟩
  · exact ⟨by decide, rpush_contract⟩
  · exact ⟨by decide, fpop_contract⟩
  · exact ⟨by decide, rpop_contract⟩
  · exact ⟨by decide, upeek_contract⟩
  · exact ⟨by decide, rpeek_contract⟩
end Go.Proofs.Ytgifnmiggloclab.uc
