/-
  The contracts of gpio, timer, irq, and of their references: each pair does the same.
  No conditions.
-/
import Derived.Test.YtgifnmiggloclabChecked
import Derived.Test.YtgifnmiggloclabEwZe
import Derived.ProofKit
namespace Go.Proofs.Ytgifnmiggloclab.bd
open Go.RowKit Go.Ev
set_option linter.unusedVariables false
set_option linter.unusedSimpArgs false

theorem mixed : Try.prog.follows .mixedOrders = true := Checked.mixed Try.checked

def g3 : Sh := .agg [.i .u8, .i .u8, .i .u8]
def t3 : Sh := .agg [.i .u16, .i .u16, .i .u16]
def c2 : Sh := .agg [.i .u8, .i .u8]

theorem low8 {v : Int} (h : IntKind.i32.wrap v = v) : IntKind.u8.wrap ((IntKind.i64.wrap ((IntKind.i64.wrap v).tmod 256 + 256)).tmod 256) = IntKind.u8.wrap v := by
  have hr : -2147483648 ≤ v ∧ v ≤ 2147483647 := by simp [IntKind.wrap, IntKind.bits, IntKind.signed] at h; omega
  have h1 : IntKind.i64.wrap v = v := by simp [IntKind.wrap, IntKind.bits, IntKind.signed]; omega
  rw [h1]
  have h2 : IntKind.i64.wrap (v.tmod 256 + 256) = v.tmod 256 + 256 := by
    have := Int.tmod_lt_of_pos v (show (0 : Int) < 256 by decide)
    have := Int.lt_tmod_of_pos v (show (0 : Int) < 256 by decide)
    simp [IntKind.wrap, IntKind.bits, IntKind.signed]; omega
  have h3 : (v.tmod 256 + 256).tmod 256 = v % 256 := by
    have := Int.lt_tmod_of_pos v (show (0 : Int) < 256 by decide)
    rw [Int.tmod_eq_emod_of_nonneg (by omega), Int.tmod_def]
    omega
  rw [h2, h3]
  simp [IntKind.wrap, IntKind.bits, IntKind.signed]
theorem low16 {v : Int} (h : IntKind.i32.wrap v = v) : IntKind.u16.wrap ((IntKind.i64.wrap ((IntKind.i64.wrap v).tmod 65536 + 65536)).tmod 65536) = IntKind.u16.wrap v := by
  have hr : -2147483648 ≤ v ∧ v ≤ 2147483647 := by simp [IntKind.wrap, IntKind.bits, IntKind.signed] at h; omega
  have h1 : IntKind.i64.wrap v = v := by simp [IntKind.wrap, IntKind.bits, IntKind.signed]; omega
  rw [h1]
  have h2 : IntKind.i64.wrap (v.tmod 65536 + 65536) = v.tmod 65536 + 65536 := by
    have := Int.tmod_lt_of_pos v (show (0 : Int) < 65536 by decide)
    have := Int.lt_tmod_of_pos v (show (0 : Int) < 65536 by decide)
    simp [IntKind.wrap, IntKind.bits, IntKind.signed]; omega
  have h3 : (v.tmod 65536 + 65536).tmod 65536 = v % 65536 := by
    have := Int.lt_tmod_of_pos v (show (0 : Int) < 65536 by decide)
    rw [Int.tmod_eq_emod_of_nonneg (by omega), Int.tmod_def]
    omega
  rw [h2, h3]
  simp [IntKind.wrap, IntKind.bits, IntKind.signed]
theorem u16_range {n : Int} (h : IntKind.u16.wrap n = n) : 0 ≤ n ∧ n ≤ 65535 := by
  simp [IntKind.wrap, IntKind.bits, IntKind.signed] at h; omega
theorem and1 {t : Int} : IntKind.u16.wrap (BitVec.ofInt IntKind.u16.bits t &&& BitVec.ofInt IntKind.u16.bits 1).toNat = t % 2 := by
  have h : (BitVec.ofInt 16 t &&& BitVec.ofInt 16 1).toNat = (t % 2).toNat := by
    rw [BitVec.toNat_and]
    have h1 : (BitVec.ofInt 16 1).toNat = 2 ^ 1 - 1 := by decide
    rw [h1, Nat.and_two_pow_sub_one_eq_mod, BitVec.toNat_ofInt]
    omega
  show IntKind.u16.wrap (((BitVec.ofInt 16 t &&& BitVec.ofInt 16 1).toNat : Nat) : Int) = t % 2
  rw [h]
  simp [IntKind.wrap, IntKind.bits, IntKind.signed]
  omega
theorem and2 {t : Int} (h0 : 0 ≤ t) (h1 : t ≤ 65535) : IntKind.u16.wrap (BitVec.ofInt IntKind.u16.bits t &&& BitVec.ofInt IntKind.u16.bits 2).toNat = 2 * (t / 2 % 2) := by
  have h : (BitVec.ofInt 16 t &&& BitVec.ofInt 16 2).toNat = (2 * (t / 2 % 2)).toNat := by
    rw [BitVec.toNat_and, BitVec.toNat_ofInt]
    have e2 : (BitVec.ofInt 16 2).toNat = 2 * (2 ^ 1 - 1) := by decide
    rw [e2]
    have e3 : (t % ((2 ^ 16 : Nat) : Int)).toNat = 2 * (t / 2).toNat + (t % 2).toNat := by omega
    rw [e3]
    have e4 : (t % 2).toNat < 2 := by omega
    generalize (t % 2).toNat = b at *
    have e5 : (2 * (t / 2).toNat + b) &&& (2 * (2 ^ 1 - 1)) = 2 * ((t / 2).toNat &&& (2 ^ 1 - 1)) := by
      apply Nat.eq_of_testBit_eq
      intro i
      cases i with
      | zero => simp [Nat.testBit_zero]
      | succ i =>
        rw [Nat.testBit_and, Nat.testBit_succ, Nat.testBit_succ, Nat.testBit_succ]
        rw [show (2 * (t / 2).toNat + b) / 2 = (t / 2).toNat by omega, show 2 * (2 ^ 1 - 1) / 2 = 2 ^ 1 - 1 by omega, show 2 * ((t / 2).toNat &&& (2 ^ 1 - 1)) / 2 = ((t / 2).toNat &&& (2 ^ 1 - 1)) by omega, Nat.testBit_and]
    rw [e5, Nat.and_two_pow_sub_one_eq_mod]
    omega
  show IntKind.u16.wrap (((BitVec.ofInt 16 t &&& BitVec.ofInt 16 2).toNat : Nat) : Int) = _
  rw [h]
  simp [IntKind.wrap, IntKind.bits, IntKind.signed]
  omega
theorem drop1 {t : Int} (h0 : 0 ≤ t) (h1 : t ≤ 65535) : IntKind.u16.wrap (BitVec.ofInt IntKind.u16.bits t &&& ~~~BitVec.ofInt IntKind.u16.bits 1).toNat = t - t % 2 := by
  have h : (BitVec.ofInt 16 t &&& ~~~BitVec.ofInt 16 1).toNat = (t - t % 2).toNat := by
    have e : (~~~BitVec.ofInt 16 1 : BitVec 16) = BitVec.ofNat 16 65534 := by decide
    rw [e, BitVec.toNat_and, BitVec.toNat_ofInt]
    have e2 : (BitVec.ofNat 16 65534).toNat = 2 * (2 ^ 15 - 1) := by decide
    rw [e2]
    have e3 : (t % ((2 ^ 16 : Nat) : Int)).toNat = 2 * (t / 2).toNat + (t % 2).toNat := by omega
    rw [e3]
    have e4 : (t % 2).toNat < 2 := by omega
    generalize (t % 2).toNat = b at *
    have e5 : (2 * (t / 2).toNat + b) &&& (2 * (2 ^ 15 - 1)) = 2 * ((t / 2).toNat &&& (2 ^ 15 - 1)) := by
      apply Nat.eq_of_testBit_eq
      intro i
      cases i with
      | zero => simp [Nat.testBit_zero]
      | succ i =>
        rw [Nat.testBit_and, Nat.testBit_succ, Nat.testBit_succ, Nat.testBit_succ]
        rw [show (2 * (t / 2).toNat + b) / 2 = (t / 2).toNat by omega, show 2 * (2 ^ 15 - 1) / 2 = 2 ^ 15 - 1 by omega, show 2 * ((t / 2).toNat &&& (2 ^ 15 - 1)) / 2 = ((t / 2).toNat &&& (2 ^ 15 - 1)) by omega, Nat.testBit_and]
    rw [e5, Nat.and_two_pow_sub_one_eq_mod]
    omega
  show IntKind.u16.wrap (((BitVec.ofInt 16 t &&& ~~~BitVec.ofInt 16 1).toNat : Nat) : Int) = _
  rw [h]
  simp [IntKind.wrap, IntKind.bits, IntKind.signed]
  omega

def gpeekI : List Sh := [g3, .one (.i .i64)]
def gpeekO : List Sh := [.one (.i .i32)]
set_option maxRecDepth 100000 in
def gpeekG : List SDef := [.bin .eql (.symi .i64 3) (.int .i64 0),
  .bin .eql (.symi .i64 3) (.int .i64 1),
  .bin .eql (.symi .i64 3) (.int .i64 2),
  .conv .i32 (.symi .u8 0),
  .conv .i32 (.symi .u8 1),
  .conv .i32 (.symi .u8 2),
  .ite (.symb 6) (.symi .i32 9) (.int .i32 0),
  .ite (.symb 5) (.symi .i32 8) (.symi .i32 10),
  .ite (.symb 4) (.symi .i32 7) (.symi .i32 11)]

set_option maxRecDepth 100000 in
def gpeekT : LT := .n (.n (.n (.n (.e) 332 7 (.conv .i32 (.symi .u8 0)) (.e)) 27549523 10 (.ite (.symb 6) (.symi .i32 9) (.int .i32 0)) (.e)) 38802913 12 (.ite (.symb 4) (.symi .i32 7) (.symi .i32 11)) (.n (.e) 103000641 8 (.conv .i32 (.symi .u8 1)) (.e))) 175807494 11 (.ite (.symb 5) (.symi .i32 8) (.symi .i32 10)) (.n (.n (.n (.e) 206000950 9 (.conv .i32 (.symi .u8 2)) (.e)) 303011303 4 (.bin .eql (.symi .i64 3) (.int .i64 0)) (.e)) 303061338 5 (.bin .eql (.symi .i64 3) (.int .i64 1)) (.n (.e) 303111373 6 (.bin .eql (.symi .i64 3) (.int .i64 2)) (.e)))

def gpeekX : Ing := { m := 4, ins := (cellsOf gpeekI).map kindC, G := gpeekG, T := gpeekT }
def gpeekA : List AVal := [.symi .i32 12]
def gpeekB : List AVal := [.symi .i32 12]
def gpeekF : List Int → List Int := dagF noTab 4 gpeekG gpeekA
theorem gpeek_ok : okG gpeekG 4 = true := by kernel_rfl
theorem gpeek_lt : okLT 4 gpeekG gpeekT = true := by kernel_rfl
theorem gpeek_run0 : okW (fun F => (evD Try.prog (cxOf gpeekX) true 1000 40).1 F 86 (symSh gpeekI 0) ⟨[], []⟩) (.run (.leaf (.symi .i32 12))) [] = true := by kernel_rfl
theorem gpeek_run1 : okW (fun F => (evD Try.prog (cxOf gpeekX) true 1000 40).1 F 104 (symSh gpeekI 0) ⟨[], []⟩) (.run (.leaf (.symi .i32 12))) [] = true := by kernel_rfl
theorem gpeek_contract0 : FnOk Try.prog 86 gpeekI gpeekO gpeekF :=
  dag_contract (X := gpeekX) (cs := gpeekA) (cs1 := gpeekA) 12 mixed ⟨rfl, rfl, rfl, rfl, rfl⟩ gpeek_ok gpeek_lt (fun F => no_hooks rfl F) gpeek_run0 (by kernel_rfl) (by kernel_rfl) (fun σ _ _ _ => rfl)
theorem gpeek_contract1 : FnOk Try.prog 104 gpeekI gpeekO gpeekF :=
  dag_contract (X := gpeekX) (cs := gpeekB) (cs1 := gpeekA) 12 mixed ⟨rfl, rfl, rfl, rfl, rfl⟩ gpeek_ok gpeek_lt (fun F => no_hooks rfl F) gpeek_run1 (by kernel_rfl) (by kernel_rfl) (fun σ _ _ _ => rfl)

def gwriteI : List Sh := [g3, .one (.i .i64), .one (.i .i32)]
def gwriteO : List Sh := [g3]
set_option maxRecDepth 100000 in
def gwriteG : List SDef := [.bin .eql (.symi .i64 3) (.int .i64 0),
  .bin .eql (.symi .i64 3) (.int .i64 1),
  .bin .eql (.symi .i64 3) (.int .i64 2),
  .bin .neq (.symi .i64 3) (.int .i64 1),
  .conv .u8 (.symi .i32 4),
  .ite (.symb 8) (.symi .u8 9) (.symi .u8 0),
  .ite (.symb 8) (.symi .u8 9) (.symi .u8 1),
  .ite (.symb 8) (.symi .u8 9) (.symi .u8 2),
  .ite (.symb 7) (.symi .u8 12) (.symi .u8 2),
  .ite (.symb 6) (.symi .u8 11) (.symi .u8 1),
  .ite (.symb 6) (.symi .u8 2) (.symi .u8 13),
  .ite (.symb 5) (.symi .u8 10) (.symi .u8 0),
  .ite (.symb 5) (.symi .u8 1) (.symi .u8 14),
  .ite (.symb 5) (.symi .u8 2) (.symi .u8 15),
  .conv .i64 (.symi .i32 4),
  .bin .rem (.symi .i64 19) (.int .i64 256),
  .bin .add (.symi .i64 20) (.int .i64 256),
  .bin .rem (.symi .i64 21) (.int .i64 256),
  .conv .u8 (.symi .i64 22),
  .ite (.symb 7) (.symi .u8 23) (.symi .u8 2),
  .ite (.symb 5) (.symi .u8 23) (.symi .u8 0)]

set_option maxRecDepth 100000 in
def gwriteT : LT := .n (.n (.n (.n (.n (.e) 36807077 18 (.ite (.symb 5) (.symi .u8 2) (.symi .u8 15)) (.e)) 37545685 16 (.ite (.symb 5) (.symi .u8 10) (.symi .u8 0)) (.e)) 118523476 23 (.conv .u8 (.symi .i64 22)) (.n (.e) 303011303 5 (.bin .eql (.symi .i64 3) (.int .i64 0)) (.e))) 303061338 6 (.bin .eql (.symi .i64 3) (.int .i64 1)) (.n (.n (.n (.e) 303061345 8 (.bin .neq (.symi .i64 3) (.int .i64 1)) (.e)) 303111373 7 (.bin .eql (.symi .i64 3) (.int .i64 2)) (.e)) 305558999 10 (.ite (.symb 8) (.symi .u8 9) (.symi .u8 0)) (.n (.e) 407077922 24 (.ite (.symb 7) (.symi .u8 23) (.symi .u8 2)) (.e)))) 412001568 9 (.conv .u8 (.symi .i32 4)) (.n (.n (.n (.n (.e) 412001568 19 (.conv .i64 (.symi .i32 4)) (.e)) 456559452 11 (.ite (.symb 8) (.symi .u8 9) (.symi .u8 1)) (.e)) 476551172 14 (.ite (.symb 6) (.symi .u8 11) (.symi .u8 1)) (.n (.n (.e) 607559905 12 (.ite (.symb 8) (.symi .u8 9) (.symi .u8 2)) (.e)) 810548004 17 (.ite (.symb 5) (.symi .u8 1) (.symi .u8 14)) (.e))) 858083235 20 (.bin .rem (.symi .i64 19) (.int .i64 256)) (.n (.n (.n (.e) 900809669 25 (.ite (.symb 5) (.symi .u8 23) (.symi .u8 0)) (.e)) 915556659 13 (.ite (.symb 7) (.symi .u8 12) (.symi .u8 2)) (.e)) 947552585 15 (.ite (.symb 6) (.symi .u8 2) (.symi .u8 13)) (.n (.n (.e) 959083510 21 (.bin .add (.symi .i64 20) (.int .i64 256)) (.e)) 1060083841 22 (.bin .rem (.symi .i64 21) (.int .i64 256)) (.e))))

def gwriteX : Ing := { m := 5, ins := (cellsOf gwriteI).map kindC, G := gwriteG, T := gwriteT }
def gwriteA : List AVal := [.symi .u8 16, .symi .u8 17, .symi .u8 18]
def gwriteB : List AVal := [.symi .u8 25, .symi .u8 1, .symi .u8 24]
def gwriteF : List Int → List Int := dagF noTab 5 gwriteG gwriteA
theorem gwrite_ok : okG gwriteG 5 = true := by kernel_rfl
theorem gwrite_lt : okLT 5 gwriteG gwriteT = true := by kernel_rfl
theorem gwrite_run0 : okW (fun F => (evD Try.prog (cxOf gwriteX) true 1000 40).1 F 132 (symSh gwriteI 0) ⟨[], []⟩) (.run (.leaf (.agg [.symi .u8 16, .symi .u8 17, .symi .u8 18]))) [] = true := by kernel_rfl
theorem gwrite_run1 : okW (fun F => (evD Try.prog (cxOf gwriteX) true 1000 40).1 F 89 (symSh gwriteI 0) ⟨[], []⟩) (.run (.leaf (.agg [.symi .u8 25, .symi .u8 1, .symi .u8 24]))) [] = true := by kernel_rfl
set_option maxRecDepth 100000 in
theorem gwrite_eq (σ : Sig) (e : Eqs σ 5 gwriteG) (hin : InsOk σ 5 ((cellsOf gwriteI).map kindC)) : numsOf σ gwriteB = numsOf σ gwriteA := by
  have e5 : σ.bval 5 = (σ.ival 3 == 0) := eqB (e.at 0 _ rfl rfl) rfl
  have e6 : σ.bval 6 = (σ.ival 3 == 1) := eqB (e.at 1 _ rfl rfl) rfl
  have e7 : σ.bval 7 = (σ.ival 3 == 2) := eqB (e.at 2 _ rfl rfl) rfl
  have e8 : σ.bval 8 = (σ.ival 3 != 1) := eqB (e.at 3 _ rfl rfl) rfl
  have e9 : σ.ival 9 = IntKind.u8.wrap (σ.ival 4) := eqI (e.at 4 _ rfl rfl) rfl
  have e10 : σ.ival 10 = (bif σ.bval 8 then σ.ival 9 else σ.ival 0) := eqIteI (e.at 5 _ rfl rfl) rfl rfl rfl
  have e11 : σ.ival 11 = (bif σ.bval 8 then σ.ival 9 else σ.ival 1) := eqIteI (e.at 6 _ rfl rfl) rfl rfl rfl
  have e12 : σ.ival 12 = (bif σ.bval 8 then σ.ival 9 else σ.ival 2) := eqIteI (e.at 7 _ rfl rfl) rfl rfl rfl
  have e13 : σ.ival 13 = (bif σ.bval 7 then σ.ival 12 else σ.ival 2) := eqIteI (e.at 8 _ rfl rfl) rfl rfl rfl
  have e14 : σ.ival 14 = (bif σ.bval 6 then σ.ival 11 else σ.ival 1) := eqIteI (e.at 9 _ rfl rfl) rfl rfl rfl
  have e15 : σ.ival 15 = (bif σ.bval 6 then σ.ival 2 else σ.ival 13) := eqIteI (e.at 10 _ rfl rfl) rfl rfl rfl
  have e16 : σ.ival 16 = (bif σ.bval 5 then σ.ival 10 else σ.ival 0) := eqIteI (e.at 11 _ rfl rfl) rfl rfl rfl
  have e17 : σ.ival 17 = (bif σ.bval 5 then σ.ival 1 else σ.ival 14) := eqIteI (e.at 12 _ rfl rfl) rfl rfl rfl
  have e18 : σ.ival 18 = (bif σ.bval 5 then σ.ival 2 else σ.ival 15) := eqIteI (e.at 13 _ rfl rfl) rfl rfl rfl
  have e19 : σ.ival 19 = IntKind.i64.wrap (σ.ival 4) := eqI (e.at 14 _ rfl rfl) rfl
  have e20 : σ.ival 20 = ((σ.ival 19 : Int).tmod 256) := eqI (e.at 15 _ rfl rfl) rfl
  have e21 : σ.ival 21 = IntKind.i64.wrap (σ.ival 20 + 256) := eqI (e.at 16 _ rfl rfl) rfl
  have e22 : σ.ival 22 = ((σ.ival 21 : Int).tmod 256) := eqI (e.at 17 _ rfl rfl) rfl
  have e23 : σ.ival 23 = IntKind.u8.wrap (σ.ival 22) := eqI (e.at 18 _ rfl rfl) rfl
  have e24 : σ.ival 24 = (bif σ.bval 7 then σ.ival 23 else σ.ival 2) := eqIteI (e.at 19 _ rfl rfl) rfl rfl rfl
  have e25 : σ.ival 25 = (bif σ.bval 5 then σ.ival 23 else σ.ival 0) := eqIteI (e.at 20 _ rfl rfl) rfl rfl rfl
  have w4 : IntKind.i32.wrap (σ.ival 4) = σ.ival 4 := hin 4 .i32 (by decide) rfl
  have p23 : σ.ival 23 = σ.ival 9 := by rw [e23, e22, e21, e20, e19, e9]; exact low8 w4
  have c25 : σ.ival 25 = σ.ival 16 := by
    rw [e25, e16, e10, p23, e5, e8]
    by_cases h : σ.ival 3 = 0
    · rw [h]; rfl
    · rw [show (σ.ival 3 == 0) = false by simpa using h]; rfl
  have c1 : σ.ival 1 = σ.ival 17 := by
    rw [e17, e14, e11, e6, e8]
    by_cases h : σ.ival 3 = 1
    · rw [h]; cases σ.bval 5 <;> rfl
    · rw [show (σ.ival 3 == 1) = false by simpa using h]; cases σ.bval 5 <;> rfl
  have c24 : σ.ival 24 = σ.ival 18 := by
    rw [e24, e18, e15, e13, e12, p23, e5, e6, e7, e8]
    by_cases h0 : σ.ival 3 = 0
    · rw [h0]; rfl
    · by_cases h1 : σ.ival 3 = 1
      · rw [h1]; rfl
      · rw [show (σ.ival 3 == 0) = false by simpa using h0, show (σ.ival 3 == 1) = false by simpa using h1, show (σ.ival 3 != 1) = true by simpa using h1]; rfl
  unfold numsOf gwriteA gwriteB
  simp only [List.map_cons, List.map_nil, den, numS]
  rw [c25, c1, c24]
theorem gwrite_contract0 : FnOk Try.prog 132 gwriteI gwriteO gwriteF :=
  dag_contract (X := gwriteX) (cs := gwriteA) (cs1 := gwriteA) 12 mixed ⟨rfl, rfl, rfl, rfl, rfl⟩ gwrite_ok gwrite_lt (fun F => no_hooks rfl F) gwrite_run0 (by kernel_rfl) (by kernel_rfl) (fun σ _ _ _ => rfl)
theorem gwrite_contract1 : FnOk Try.prog 89 gwriteI gwriteO gwriteF :=
  dag_contract (X := gwriteX) (cs := gwriteB) (cs1 := gwriteA) 12 mixed ⟨rfl, rfl, rfl, rfl, rfl⟩ gwrite_ok gwrite_lt (fun F => no_hooks rfl F) gwrite_run1 (by kernel_rfl) (by kernel_rfl) (fun σ e ht hin => gwrite_eq σ e hin)

def tpeekI : List Sh := [t3, .one (.i .i64)]
def tpeekO : List Sh := [.one (.i .i32)]
set_option maxRecDepth 100000 in
def tpeekG : List SDef := [.bin .lss (.symi .i64 3) (.int .i64 0),
  .bin .geq (.symi .i64 3) (.int .i64 3),
  .bin .eql (.symi .i64 3) (.int .i64 1),
  .conv .i32 (.symi .u16 0),
  .conv .i32 (.symi .u16 1),
  .conv .i32 (.symi .u16 2),
  .ite (.symb 6) (.symi .i32 8) (.symi .i32 9),
  .bin .eql (.symi .i64 3) (.int .i64 0),
  .ite (.symb 11) (.symi .i32 7) (.symi .i32 10),
  .ite (.symb 5) (.int .i32 0) (.symi .i32 12),
  .ite (.symb 4) (.int .i32 0) (.symi .i32 13),
  .bin .eql (.symi .i64 3) (.int .i64 2),
  .ite (.symb 15) (.symi .i32 9) (.int .i32 0),
  .ite (.symb 6) (.symi .i32 8) (.symi .i32 16),
  .ite (.symb 11) (.symi .i32 7) (.symi .i32 17)]

set_option maxRecDepth 100000 in
def tpeekT : LT := .n (.n (.n (.n (.e) 332 7 (.conv .i32 (.symi .u16 0)) (.e)) 103000641 8 (.conv .i32 (.symi .u16 1)) (.n (.e) 147072972 17 (.ite (.symb 6) (.symi .i32 8) (.symi .i32 16)) (.e))) 163811628 10 (.ite (.symb 6) (.symi .i32 8) (.symi .i32 9)) (.n (.n (.e) 204848979 16 (.ite (.symb 15) (.symi .i32 9) (.int .i32 0)) (.e)) 206000950 9 (.conv .i32 (.symi .u16 2)) (.n (.e) 303011303 11 (.bin .eql (.symi .i64 3) (.int .i64 0)) (.e)))) 303011317 4 (.bin .lss (.symi .i64 3) (.int .i64 0)) (.n (.n (.n (.e) 303061338 6 (.bin .eql (.symi .i64 3) (.int .i64 1)) (.e)) 303111373 15 (.bin .eql (.symi .i64 3) (.int .i64 2)) (.n (.e) 303161443 5 (.bin .geq (.symi .i64 3) (.int .i64 3)) (.e))) 359546353 13 (.ite (.symb 5) (.int .i32 0) (.symi .i32 12)) (.n (.n (.e) 371542219 14 (.ite (.symb 4) (.int .i32 0) (.symi .i32 13)) (.e)) 844095913 18 (.ite (.symb 11) (.symi .i32 7) (.symi .i32 17)) (.n (.e) 860834569 12 (.ite (.symb 11) (.symi .i32 7) (.symi .i32 10)) (.e))))

def tpeekX : Ing := { m := 4, ins := (cellsOf tpeekI).map kindC, G := tpeekG, T := tpeekT }
def tpeekA : List AVal := [.symi .i32 14]
def tpeekB : List AVal := [.symi .i32 18]
def tpeekF : List Int → List Int := dagF noTab 4 tpeekG tpeekA
theorem tpeek_ok : okG tpeekG 4 = true := by kernel_rfl
theorem tpeek_lt : okLT 4 tpeekG tpeekT = true := by kernel_rfl
theorem tpeek_run0 : okW (fun F => (evD Try.prog (cxOf tpeekX) true 1000 40).1 F 100 (symSh tpeekI 0) ⟨[], []⟩) (.run (.req (.node 4 (.ok) (.node 5 (.ok) (.pick 3 0 (.ok) (.pick 3 1 (.ok) (.pick 3 2 (.ok) (.no)))))) (.leaf (.symi .i32 14)))) [] = true := by kernel_rfl
theorem tpeek_run1 : okW (fun F => (evD Try.prog (cxOf tpeekX) true 1000 40).1 F 105 (symSh tpeekI 0) ⟨[], []⟩) (.run (.leaf (.symi .i32 18))) [] = true := by kernel_rfl
set_option maxRecDepth 100000 in
theorem tpeek_eq (σ : Sig) (e : Eqs σ 4 tpeekG) (hin : InsOk σ 4 ((cellsOf tpeekI).map kindC)) : numsOf σ tpeekB = numsOf σ tpeekA := by
  have e4 : σ.bval 4 = decide (σ.ival 3 < 0) := eqB (e.at 0 _ rfl rfl) rfl
  have e5 : σ.bval 5 = decide (σ.ival 3 ≥ 3) := eqB (e.at 1 _ rfl rfl) rfl
  have e6 : σ.bval 6 = (σ.ival 3 == 1) := eqB (e.at 2 _ rfl rfl) rfl
  have e7 : σ.ival 7 = IntKind.i32.wrap (σ.ival 0) := eqI (e.at 3 _ rfl rfl) rfl
  have e8 : σ.ival 8 = IntKind.i32.wrap (σ.ival 1) := eqI (e.at 4 _ rfl rfl) rfl
  have e9 : σ.ival 9 = IntKind.i32.wrap (σ.ival 2) := eqI (e.at 5 _ rfl rfl) rfl
  have e10 : σ.ival 10 = (bif σ.bval 6 then σ.ival 8 else σ.ival 9) := eqIteI (e.at 6 _ rfl rfl) rfl rfl rfl
  have e11 : σ.bval 11 = (σ.ival 3 == 0) := eqB (e.at 7 _ rfl rfl) rfl
  have e12 : σ.ival 12 = (bif σ.bval 11 then σ.ival 7 else σ.ival 10) := eqIteI (e.at 8 _ rfl rfl) rfl rfl rfl
  have e13 : σ.ival 13 = (bif σ.bval 5 then 0 else σ.ival 12) := eqIteI (e.at 9 _ rfl rfl) rfl rfl rfl
  have e14 : σ.ival 14 = (bif σ.bval 4 then 0 else σ.ival 13) := eqIteI (e.at 10 _ rfl rfl) rfl rfl rfl
  have e15 : σ.bval 15 = (σ.ival 3 == 2) := eqB (e.at 11 _ rfl rfl) rfl
  have e16 : σ.ival 16 = (bif σ.bval 15 then σ.ival 9 else 0) := eqIteI (e.at 12 _ rfl rfl) rfl rfl rfl
  have e17 : σ.ival 17 = (bif σ.bval 6 then σ.ival 8 else σ.ival 16) := eqIteI (e.at 13 _ rfl rfl) rfl rfl rfl
  have e18 : σ.ival 18 = (bif σ.bval 11 then σ.ival 7 else σ.ival 17) := eqIteI (e.at 14 _ rfl rfl) rfl rfl rfl
  have c18 : σ.ival 18 = σ.ival 14 := by
    rw [e18, e17, e16, e14, e13, e12, e10, e4, e5, e6, e11, e15]
    by_cases h0 : σ.ival 3 = 0
    · rw [h0]; rfl
    · by_cases h1 : σ.ival 3 = 1
      · rw [h1]; rfl
      · by_cases h2 : σ.ival 3 = 2
        · rw [h2]; rfl
        · rw [show (σ.ival 3 == 0) = false by simpa using h0]
          try rw [show (σ.ival 3 == 1) = false by simpa using h1]
          try rw [show (σ.ival 3 == 2) = false by simpa using h2]
          by_cases h : σ.ival 3 < 0
          · rw [show decide (σ.ival 3 < 0) = true by simpa using h]; rfl
          · rw [show decide (σ.ival 3 < 0) = false by simpa using h, show decide (σ.ival 3 ≥ 3) = true by simp only [decide_eq_true_eq]; omega]; rfl
  unfold numsOf tpeekA tpeekB
  simp only [List.map_cons, List.map_nil, den, numS]
  rw [c18]
set_option maxRecDepth 100000 in
theorem tpeek_hv0 (σ : Sig) (e : Eqs σ 4 tpeekG) (hin : InsOk σ 4 ((cellsOf tpeekI).map kindC)) (Q : AVal → Prop) (hq : Q (.symi .i32 14)) : valsW σ Q (.run (.req (.node 4 (.ok) (.node 5 (.ok) (.pick 3 0 (.ok) (.pick 3 1 (.ok) (.pick 3 2 (.ok) (.no)))))) (.leaf (.symi .i32 14)))) [] := by
  have e4 : σ.bval 4 = decide (σ.ival 3 < 0) := eqB (e.at 0 _ rfl rfl) rfl
  have e5 : σ.bval 5 = decide (σ.ival 3 ≥ 3) := eqB (e.at 1 _ rfl rfl) rfl
  have e6 : σ.bval 6 = (σ.ival 3 == 1) := eqB (e.at 2 _ rfl rfl) rfl
  have e7 : σ.ival 7 = IntKind.i32.wrap (σ.ival 0) := eqI (e.at 3 _ rfl rfl) rfl
  have e8 : σ.ival 8 = IntKind.i32.wrap (σ.ival 1) := eqI (e.at 4 _ rfl rfl) rfl
  have e9 : σ.ival 9 = IntKind.i32.wrap (σ.ival 2) := eqI (e.at 5 _ rfl rfl) rfl
  have e10 : σ.ival 10 = (bif σ.bval 6 then σ.ival 8 else σ.ival 9) := eqIteI (e.at 6 _ rfl rfl) rfl rfl rfl
  have e11 : σ.bval 11 = (σ.ival 3 == 0) := eqB (e.at 7 _ rfl rfl) rfl
  have e12 : σ.ival 12 = (bif σ.bval 11 then σ.ival 7 else σ.ival 10) := eqIteI (e.at 8 _ rfl rfl) rfl rfl rfl
  have e13 : σ.ival 13 = (bif σ.bval 5 then 0 else σ.ival 12) := eqIteI (e.at 9 _ rfl rfl) rfl rfl rfl
  have e14 : σ.ival 14 = (bif σ.bval 4 then 0 else σ.ival 13) := eqIteI (e.at 10 _ rfl rfl) rfl rfl rfl
  have e15 : σ.bval 15 = (σ.ival 3 == 2) := eqB (e.at 11 _ rfl rfl) rfl
  have e16 : σ.ival 16 = (bif σ.bval 15 then σ.ival 9 else 0) := eqIteI (e.at 12 _ rfl rfl) rfl rfl rfl
  have e17 : σ.ival 17 = (bif σ.bval 6 then σ.ival 8 else σ.ival 16) := eqIteI (e.at 13 _ rfl rfl) rfl rfl rfl
  have e18 : σ.ival 18 = (bif σ.bval 11 then σ.ival 7 else σ.ival 17) := eqIteI (e.at 14 _ rfl rfl) rfl rfl rfl
  refine ⟨fun _ => ?_, fun _ => hq⟩
  refine ⟨fun _ => trivial, fun h => ⟨fun _ => trivial, fun h' => ⟨fun _ => trivial, fun k0 => ⟨fun _ => trivial, fun k1 => ⟨fun _ => trivial, fun k2 => ?_⟩⟩⟩⟩⟩
  rw [e4] at h
  rw [e5] at h'
  simp only [ge_iff_le, decide_eq_false_iff_not] at h h'
  show False
  omega

theorem tpeek_contract0 : FnOk Try.prog 100 tpeekI tpeekO tpeekF :=
  dag_contractW (X := tpeekX) (cs := tpeekA) (cs1 := tpeekA) 12 mixed ⟨rfl, rfl, rfl, rfl, rfl⟩ tpeek_ok tpeek_lt (fun F => no_hooks rfl F) tpeek_run0 (fun σ e _ hin Q hq => tpeek_hv0 σ e hin Q hq) (by kernel_rfl) (by kernel_rfl) (fun σ _ _ _ => rfl)
theorem tpeek_contract1 : FnOk Try.prog 105 tpeekI tpeekO tpeekF :=
  dag_contract (X := tpeekX) (cs := tpeekB) (cs1 := tpeekA) 12 mixed ⟨rfl, rfl, rfl, rfl, rfl⟩ tpeek_ok tpeek_lt (fun F => no_hooks rfl F) tpeek_run1 (by kernel_rfl) (by kernel_rfl) (fun σ e ht hin => tpeek_eq σ e hin)

def twriteI : List Sh := [t3, .one (.i .i64), .one (.i .i32)]
def twriteO : List Sh := [t3]
set_option maxRecDepth 100000 in
def twriteG : List SDef := [.bin .lss (.symi .i64 3) (.int .i64 0),
  .bin .geq (.symi .i64 3) (.int .i64 3),
  .bin .eql (.symi .i64 3) (.int .i64 1),
  .conv .u16 (.symi .i32 4),
  .ite (.symb 7) (.symi .u16 8) (.symi .u16 1),
  .ite (.symb 7) (.symi .u16 2) (.symi .u16 8),
  .bin .eql (.symi .i64 3) (.int .i64 0),
  .ite (.symb 11) (.symi .u16 8) (.symi .u16 0),
  .ite (.symb 11) (.symi .u16 1) (.symi .u16 9),
  .ite (.symb 11) (.symi .u16 2) (.symi .u16 10),
  .ite (.symb 6) (.symi .u16 0) (.symi .u16 12),
  .ite (.symb 6) (.symi .u16 1) (.symi .u16 13),
  .ite (.symb 6) (.symi .u16 2) (.symi .u16 14),
  .ite (.symb 5) (.symi .u16 0) (.symi .u16 15),
  .ite (.symb 5) (.symi .u16 1) (.symi .u16 16),
  .ite (.symb 5) (.symi .u16 2) (.symi .u16 17),
  .conv .i64 (.symi .i32 4),
  .bin .rem (.symi .i64 21) (.int .i64 65536),
  .bin .add (.symi .i64 22) (.int .i64 65536),
  .bin .rem (.symi .i64 23) (.int .i64 65536),
  .conv .u16 (.symi .i64 24),
  .bin .eql (.symi .i64 3) (.int .i64 2),
  .ite (.symb 26) (.symi .u16 25) (.symi .u16 2),
  .ite (.symb 7) (.symi .u16 25) (.symi .u16 1),
  .ite (.symb 7) (.symi .u16 2) (.symi .u16 27),
  .ite (.symb 11) (.symi .u16 25) (.symi .u16 0),
  .ite (.symb 11) (.symi .u16 1) (.symi .u16 28),
  .ite (.symb 11) (.symi .u16 2) (.symi .u16 29)]

set_option maxRecDepth 100000 in
def twriteT : LT := .n (.n (.n (.n (.n (.e) 24811211 17 (.ite (.symb 6) (.symi .u16 2) (.symi .u16 14)) (.e)) 31401333 22 (.bin .rem (.symi .i64 21) (.int .i64 65536)) (.n (.e) 38807083 19 (.ite (.symb 5) (.symi .u16 1) (.symi .u16 16)) (.e))) 115832334 14 (.ite (.symb 11) (.symi .u16 2) (.symi .u16 10)) (.n (.n (.e) 124940488 27 (.ite (.symb 26) (.symi .u16 25) (.symi .u16 2)) (.e)) 132401608 23 (.bin .add (.symi .i64 22) (.int .i64 65536)) (.n (.e) 168554418 9 (.ite (.symb 7) (.symi .u16 8) (.symi .u16 1)) (.e)))) 233401939 24 (.bin .rem (.symi .i64 23) (.int .i64 65536)) (.n (.n (.n (.e) 303011303 11 (.bin .eql (.symi .i64 3) (.int .i64 0)) (.e)) 303011317 5 (.bin .lss (.symi .i64 3) (.int .i64 0)) (.n (.e) 303061338 7 (.bin .eql (.symi .i64 3) (.int .i64 1)) (.e))) 303111373 26 (.bin .eql (.symi .i64 3) (.int .i64 2)) (.n (.n (.e) 303161443 6 (.bin .geq (.symi .i64 3) (.int .i64 3)) (.e)) 324524094 25 (.conv .u16 (.symi .i64 24)) (.e)))) 331554907 10 (.ite (.symb 7) (.symi .u16 2) (.symi .u16 8)) (.n (.n (.n (.n (.e) 338807983 20 (.ite (.symb 5) (.symi .u16 2) (.symi .u16 17)) (.e)) 412001568 21 (.conv .i64 (.symi .i32 4)) (.n (.e) 412001568 8 (.conv .u16 (.symi .i32 4)) (.e))) 498551238 15 (.ite (.symb 6) (.symi .u16 0) (.symi .u16 12)) (.n (.n (.e) 537356387 31 (.ite (.symb 11) (.symi .u16 1) (.symi .u16 28)) (.e)) 554078363 28 (.ite (.symb 7) (.symi .u16 25) (.symi .u16 1)) (.e))) 573572313 12 (.ite (.symb 11) (.symi .u16 8) (.symi .u16 0)) (.n (.n (.n (.e) 798552138 16 (.ite (.symb 6) (.symi .u16 1) (.symi .u16 13)) (.e)) 812548010 18 (.ite (.symb 5) (.symi .u16 0) (.symi .u16 15)) (.n (.e) 837357287 32 (.ite (.symb 11) (.symi .u16 2) (.symi .u16 29)) (.e))) 889573261 13 (.ite (.symb 11) (.symi .u16 1) (.symi .u16 9)) (.n (.n (.e) 959096258 30 (.ite (.symb 11) (.symi .u16 25) (.symi .u16 0)) (.e)) 1053079860 29 (.ite (.symb 7) (.symi .u16 2) (.symi .u16 27)) (.e))))

def twriteX : Ing := { m := 5, ins := (cellsOf twriteI).map kindC, G := twriteG, T := twriteT }
def twriteA : List AVal := [.symi .u16 18, .symi .u16 19, .symi .u16 20]
def twriteB : List AVal := [.symi .u16 30, .symi .u16 31, .symi .u16 32]
def twriteF : List Int → List Int := dagF noTab 5 twriteG twriteA
theorem twrite_ok : okG twriteG 5 = true := by kernel_rfl
theorem twrite_lt : okLT 5 twriteG twriteT = true := by kernel_rfl
theorem twrite_run0 : okW (fun F => (evD Try.prog (cxOf twriteX) true 1000 40).1 F 137 (symSh twriteI 0) ⟨[], []⟩) (.run (.req (.node 5 (.ok) (.node 6 (.ok) (.pick 3 0 (.ok) (.pick 3 1 (.ok) (.pick 3 2 (.ok) (.no)))))) (.leaf (.agg [.symi .u16 18, .symi .u16 19, .symi .u16 20])))) [] = true := by kernel_rfl
theorem twrite_run1 : okW (fun F => (evD Try.prog (cxOf twriteX) true 1000 40).1 F 90 (symSh twriteI 0) ⟨[], []⟩) (.run (.leaf (.agg [.symi .u16 30, .symi .u16 31, .symi .u16 32]))) [] = true := by kernel_rfl
set_option maxRecDepth 100000 in
theorem twrite_eq (σ : Sig) (e : Eqs σ 5 twriteG) (hin : InsOk σ 5 ((cellsOf twriteI).map kindC)) : numsOf σ twriteB = numsOf σ twriteA := by
  have e5 : σ.bval 5 = decide (σ.ival 3 < 0) := eqB (e.at 0 _ rfl rfl) rfl
  have e6 : σ.bval 6 = decide (σ.ival 3 ≥ 3) := eqB (e.at 1 _ rfl rfl) rfl
  have e7 : σ.bval 7 = (σ.ival 3 == 1) := eqB (e.at 2 _ rfl rfl) rfl
  have e8 : σ.ival 8 = IntKind.u16.wrap (σ.ival 4) := eqI (e.at 3 _ rfl rfl) rfl
  have e9 : σ.ival 9 = (bif σ.bval 7 then σ.ival 8 else σ.ival 1) := eqIteI (e.at 4 _ rfl rfl) rfl rfl rfl
  have e10 : σ.ival 10 = (bif σ.bval 7 then σ.ival 2 else σ.ival 8) := eqIteI (e.at 5 _ rfl rfl) rfl rfl rfl
  have e11 : σ.bval 11 = (σ.ival 3 == 0) := eqB (e.at 6 _ rfl rfl) rfl
  have e12 : σ.ival 12 = (bif σ.bval 11 then σ.ival 8 else σ.ival 0) := eqIteI (e.at 7 _ rfl rfl) rfl rfl rfl
  have e13 : σ.ival 13 = (bif σ.bval 11 then σ.ival 1 else σ.ival 9) := eqIteI (e.at 8 _ rfl rfl) rfl rfl rfl
  have e14 : σ.ival 14 = (bif σ.bval 11 then σ.ival 2 else σ.ival 10) := eqIteI (e.at 9 _ rfl rfl) rfl rfl rfl
  have e15 : σ.ival 15 = (bif σ.bval 6 then σ.ival 0 else σ.ival 12) := eqIteI (e.at 10 _ rfl rfl) rfl rfl rfl
  have e16 : σ.ival 16 = (bif σ.bval 6 then σ.ival 1 else σ.ival 13) := eqIteI (e.at 11 _ rfl rfl) rfl rfl rfl
  have e17 : σ.ival 17 = (bif σ.bval 6 then σ.ival 2 else σ.ival 14) := eqIteI (e.at 12 _ rfl rfl) rfl rfl rfl
  have e18 : σ.ival 18 = (bif σ.bval 5 then σ.ival 0 else σ.ival 15) := eqIteI (e.at 13 _ rfl rfl) rfl rfl rfl
  have e19 : σ.ival 19 = (bif σ.bval 5 then σ.ival 1 else σ.ival 16) := eqIteI (e.at 14 _ rfl rfl) rfl rfl rfl
  have e20 : σ.ival 20 = (bif σ.bval 5 then σ.ival 2 else σ.ival 17) := eqIteI (e.at 15 _ rfl rfl) rfl rfl rfl
  have e21 : σ.ival 21 = IntKind.i64.wrap (σ.ival 4) := eqI (e.at 16 _ rfl rfl) rfl
  have e22 : σ.ival 22 = ((σ.ival 21 : Int).tmod 65536) := eqI (e.at 17 _ rfl rfl) rfl
  have e23 : σ.ival 23 = IntKind.i64.wrap (σ.ival 22 + 65536) := eqI (e.at 18 _ rfl rfl) rfl
  have e24 : σ.ival 24 = ((σ.ival 23 : Int).tmod 65536) := eqI (e.at 19 _ rfl rfl) rfl
  have e25 : σ.ival 25 = IntKind.u16.wrap (σ.ival 24) := eqI (e.at 20 _ rfl rfl) rfl
  have e26 : σ.bval 26 = (σ.ival 3 == 2) := eqB (e.at 21 _ rfl rfl) rfl
  have e27 : σ.ival 27 = (bif σ.bval 26 then σ.ival 25 else σ.ival 2) := eqIteI (e.at 22 _ rfl rfl) rfl rfl rfl
  have e28 : σ.ival 28 = (bif σ.bval 7 then σ.ival 25 else σ.ival 1) := eqIteI (e.at 23 _ rfl rfl) rfl rfl rfl
  have e29 : σ.ival 29 = (bif σ.bval 7 then σ.ival 2 else σ.ival 27) := eqIteI (e.at 24 _ rfl rfl) rfl rfl rfl
  have e30 : σ.ival 30 = (bif σ.bval 11 then σ.ival 25 else σ.ival 0) := eqIteI (e.at 25 _ rfl rfl) rfl rfl rfl
  have e31 : σ.ival 31 = (bif σ.bval 11 then σ.ival 1 else σ.ival 28) := eqIteI (e.at 26 _ rfl rfl) rfl rfl rfl
  have e32 : σ.ival 32 = (bif σ.bval 11 then σ.ival 2 else σ.ival 29) := eqIteI (e.at 27 _ rfl rfl) rfl rfl rfl
  have w4 : IntKind.i32.wrap (σ.ival 4) = σ.ival 4 := hin 4 .i32 (by decide) rfl
  have p25 : σ.ival 25 = σ.ival 8 := by rw [e25, e24, e23, e22, e21, e8]; exact low16 w4
  have c30 : σ.ival 30 = σ.ival 18 := by
    rw [e30, e18, e15, e12, p25, e5, e6, e11]
    by_cases h0 : σ.ival 3 = 0
    · rw [h0]; rfl
    · by_cases h1 : σ.ival 3 = 1
      · rw [h1]; rfl
      · by_cases h2 : σ.ival 3 = 2
        · rw [h2]; rfl
        · rw [show (σ.ival 3 == 0) = false by simpa using h0]
          try rw [show (σ.ival 3 == 1) = false by simpa using h1]
          try rw [show (σ.ival 3 == 2) = false by simpa using h2]
          by_cases h : σ.ival 3 < 0
          · rw [show decide (σ.ival 3 < 0) = true by simpa using h]; rfl
          · rw [show decide (σ.ival 3 < 0) = false by simpa using h, show decide (σ.ival 3 ≥ 3) = true by simp only [decide_eq_true_eq]; omega]; rfl
  have c31 : σ.ival 31 = σ.ival 19 := by
    rw [e31, e28, e19, e16, e13, e9, p25, e5, e6, e7, e11]
    by_cases h0 : σ.ival 3 = 0
    · rw [h0]; rfl
    · by_cases h1 : σ.ival 3 = 1
      · rw [h1]; rfl
      · by_cases h2 : σ.ival 3 = 2
        · rw [h2]; rfl
        · rw [show (σ.ival 3 == 0) = false by simpa using h0]
          try rw [show (σ.ival 3 == 1) = false by simpa using h1]
          try rw [show (σ.ival 3 == 2) = false by simpa using h2]
          by_cases h : σ.ival 3 < 0
          · rw [show decide (σ.ival 3 < 0) = true by simpa using h]; rfl
          · rw [show decide (σ.ival 3 < 0) = false by simpa using h, show decide (σ.ival 3 ≥ 3) = true by simp only [decide_eq_true_eq]; omega]; rfl
  have c32 : σ.ival 32 = σ.ival 20 := by
    rw [e32, e29, e27, e20, e17, e14, e10, p25, e5, e6, e7, e11, e26]
    by_cases h0 : σ.ival 3 = 0
    · rw [h0]; rfl
    · by_cases h1 : σ.ival 3 = 1
      · rw [h1]; rfl
      · by_cases h2 : σ.ival 3 = 2
        · rw [h2]; rfl
        · rw [show (σ.ival 3 == 0) = false by simpa using h0]
          try rw [show (σ.ival 3 == 1) = false by simpa using h1]
          try rw [show (σ.ival 3 == 2) = false by simpa using h2]
          by_cases h : σ.ival 3 < 0
          · rw [show decide (σ.ival 3 < 0) = true by simpa using h]; rfl
          · rw [show decide (σ.ival 3 < 0) = false by simpa using h, show decide (σ.ival 3 ≥ 3) = true by simp only [decide_eq_true_eq]; omega]; rfl
  unfold numsOf twriteA twriteB
  simp only [List.map_cons, List.map_nil, den, numS]
  rw [c30, c31, c32]
set_option maxRecDepth 100000 in
theorem twrite_hv0 (σ : Sig) (e : Eqs σ 5 twriteG) (hin : InsOk σ 5 ((cellsOf twriteI).map kindC)) (Q : AVal → Prop) (hq : Q (.agg [.symi .u16 18, .symi .u16 19, .symi .u16 20])) : valsW σ Q (.run (.req (.node 5 (.ok) (.node 6 (.ok) (.pick 3 0 (.ok) (.pick 3 1 (.ok) (.pick 3 2 (.ok) (.no)))))) (.leaf (.agg [.symi .u16 18, .symi .u16 19, .symi .u16 20])))) [] := by
  have e5 : σ.bval 5 = decide (σ.ival 3 < 0) := eqB (e.at 0 _ rfl rfl) rfl
  have e6 : σ.bval 6 = decide (σ.ival 3 ≥ 3) := eqB (e.at 1 _ rfl rfl) rfl
  have e7 : σ.bval 7 = (σ.ival 3 == 1) := eqB (e.at 2 _ rfl rfl) rfl
  have e8 : σ.ival 8 = IntKind.u16.wrap (σ.ival 4) := eqI (e.at 3 _ rfl rfl) rfl
  have e9 : σ.ival 9 = (bif σ.bval 7 then σ.ival 8 else σ.ival 1) := eqIteI (e.at 4 _ rfl rfl) rfl rfl rfl
  have e10 : σ.ival 10 = (bif σ.bval 7 then σ.ival 2 else σ.ival 8) := eqIteI (e.at 5 _ rfl rfl) rfl rfl rfl
  have e11 : σ.bval 11 = (σ.ival 3 == 0) := eqB (e.at 6 _ rfl rfl) rfl
  have e12 : σ.ival 12 = (bif σ.bval 11 then σ.ival 8 else σ.ival 0) := eqIteI (e.at 7 _ rfl rfl) rfl rfl rfl
  have e13 : σ.ival 13 = (bif σ.bval 11 then σ.ival 1 else σ.ival 9) := eqIteI (e.at 8 _ rfl rfl) rfl rfl rfl
  have e14 : σ.ival 14 = (bif σ.bval 11 then σ.ival 2 else σ.ival 10) := eqIteI (e.at 9 _ rfl rfl) rfl rfl rfl
  have e15 : σ.ival 15 = (bif σ.bval 6 then σ.ival 0 else σ.ival 12) := eqIteI (e.at 10 _ rfl rfl) rfl rfl rfl
  have e16 : σ.ival 16 = (bif σ.bval 6 then σ.ival 1 else σ.ival 13) := eqIteI (e.at 11 _ rfl rfl) rfl rfl rfl
  have e17 : σ.ival 17 = (bif σ.bval 6 then σ.ival 2 else σ.ival 14) := eqIteI (e.at 12 _ rfl rfl) rfl rfl rfl
  have e18 : σ.ival 18 = (bif σ.bval 5 then σ.ival 0 else σ.ival 15) := eqIteI (e.at 13 _ rfl rfl) rfl rfl rfl
  have e19 : σ.ival 19 = (bif σ.bval 5 then σ.ival 1 else σ.ival 16) := eqIteI (e.at 14 _ rfl rfl) rfl rfl rfl
  have e20 : σ.ival 20 = (bif σ.bval 5 then σ.ival 2 else σ.ival 17) := eqIteI (e.at 15 _ rfl rfl) rfl rfl rfl
  have e21 : σ.ival 21 = IntKind.i64.wrap (σ.ival 4) := eqI (e.at 16 _ rfl rfl) rfl
  have e22 : σ.ival 22 = ((σ.ival 21 : Int).tmod 65536) := eqI (e.at 17 _ rfl rfl) rfl
  have e23 : σ.ival 23 = IntKind.i64.wrap (σ.ival 22 + 65536) := eqI (e.at 18 _ rfl rfl) rfl
  have e24 : σ.ival 24 = ((σ.ival 23 : Int).tmod 65536) := eqI (e.at 19 _ rfl rfl) rfl
  have e25 : σ.ival 25 = IntKind.u16.wrap (σ.ival 24) := eqI (e.at 20 _ rfl rfl) rfl
  have e26 : σ.bval 26 = (σ.ival 3 == 2) := eqB (e.at 21 _ rfl rfl) rfl
  have e27 : σ.ival 27 = (bif σ.bval 26 then σ.ival 25 else σ.ival 2) := eqIteI (e.at 22 _ rfl rfl) rfl rfl rfl
  have e28 : σ.ival 28 = (bif σ.bval 7 then σ.ival 25 else σ.ival 1) := eqIteI (e.at 23 _ rfl rfl) rfl rfl rfl
  have e29 : σ.ival 29 = (bif σ.bval 7 then σ.ival 2 else σ.ival 27) := eqIteI (e.at 24 _ rfl rfl) rfl rfl rfl
  have e30 : σ.ival 30 = (bif σ.bval 11 then σ.ival 25 else σ.ival 0) := eqIteI (e.at 25 _ rfl rfl) rfl rfl rfl
  have e31 : σ.ival 31 = (bif σ.bval 11 then σ.ival 1 else σ.ival 28) := eqIteI (e.at 26 _ rfl rfl) rfl rfl rfl
  have e32 : σ.ival 32 = (bif σ.bval 11 then σ.ival 2 else σ.ival 29) := eqIteI (e.at 27 _ rfl rfl) rfl rfl rfl
  refine ⟨fun _ => ?_, fun _ => hq⟩
  refine ⟨fun _ => trivial, fun h => ⟨fun _ => trivial, fun h' => ⟨fun _ => trivial, fun k0 => ⟨fun _ => trivial, fun k1 => ⟨fun _ => trivial, fun k2 => ?_⟩⟩⟩⟩⟩
  rw [e5] at h
  rw [e6] at h'
  simp only [ge_iff_le, decide_eq_false_iff_not] at h h'
  show False
  omega

theorem twrite_contract0 : FnOk Try.prog 137 twriteI twriteO twriteF :=
  dag_contractW (X := twriteX) (cs := twriteA) (cs1 := twriteA) 12 mixed ⟨rfl, rfl, rfl, rfl, rfl⟩ twrite_ok twrite_lt (fun F => no_hooks rfl F) twrite_run0 (fun σ e _ hin Q hq => twrite_hv0 σ e hin Q hq) (by kernel_rfl) (by kernel_rfl) (fun σ _ _ _ => rfl)
theorem twrite_contract1 : FnOk Try.prog 90 twriteI twriteO twriteF :=
  dag_contract (X := twriteX) (cs := twriteB) (cs1 := twriteA) 12 mixed ⟨rfl, rfl, rfl, rfl, rfl⟩ twrite_ok twrite_lt (fun F => no_hooks rfl F) twrite_run1 (by kernel_rfl) (by kernel_rfl) (fun σ e ht hin => twrite_eq σ e hin)

def ttickI : List Sh := [t3]
def ttickO : List Sh := [t3, .one .b]
set_option maxRecDepth 100000 in
def ttickG : List SDef := [.bin .and (.symi .u16 2) (.int .u16 1),
  .bin .eql (.symi .u16 3) (.int .u16 0),
  .bin .sub (.symi .u16 1) (.symi .u16 0),
  .bin .sub (.symi .u16 5) (.int .u16 1),
  .conv .i64 (.symi .u16 6),
  .bin .add (.symi .i64 7) (.int .i64 1),
  .bin .lss (.int .i64 1) (.symi .i64 8),
  .bin .add (.symi .u16 0) (.int .u16 1),
  .bin .sub (.int .i64 1) (.symi .i64 8),
  .bin .and (.symi .u16 2) (.int .u16 2),
  .bin .eql (.symi .u16 12) (.int .u16 0),
  .bin .andNot (.symi .u16 2) (.int .u16 1),
  .bin .eql (.symi .u16 1) (.int .u16 0),
  .conv .i64 (.symi .u16 1),
  .ite (.symb 15) (.int .i64 65536) (.symi .i64 16),
  .bin .rem (.symi .i64 11) (.symi .i64 17),
  .conv .u16 (.symi .i64 18),
  .bin .quo (.symi .i64 11) (.symi .i64 17),
  .bin .add (.int .i64 1) (.symi .i64 20),
  .ite (.symb 13) (.int .u16 0) (.symi .u16 19),
  .ite (.symb 13) (.symi .u16 14) (.symi .u16 2),
  .ite (.symb 13) (.int .i64 1) (.symi .i64 21),
  .ite (.symb 9) (.symi .u16 10) (.symi .u16 22),
  .ite (.symb 9) (.symi .u16 2) (.symi .u16 23),
  .ite (.symb 9) (.int .i64 0) (.symi .i64 24),
  .ite (.symb 4) (.symi .u16 0) (.symi .u16 25),
  .ite (.symb 4) (.symi .u16 2) (.symi .u16 26),
  .ite (.symb 4) (.int .i64 0) (.symi .i64 27),
  .bin .gtr (.symi .i64 30) (.int .i64 0),
  .bin .rem (.symi .u16 2) (.int .u16 2),
  .bin .eql (.symi .u16 32) (.int .u16 0),
  .conv .i64 (.symi .u16 0),
  .bin .add (.symi .i64 34) (.int .i64 1),
  .bin .rem (.symi .i64 35) (.int .i64 65536),
  .conv .u16 (.symi .i64 36),
  .bin .neq (.symi .u16 37) (.symi .u16 1),
  .bin .quo (.symi .u16 2) (.int .u16 2),
  .bin .rem (.symi .u16 39) (.int .u16 2),
  .bin .eql (.symi .u16 40) (.int .u16 0),
  .bin .sub (.symi .u16 2) (.int .u16 1),
  .ite (.symb 41) (.symi .u16 42) (.symi .u16 2),
  .ite (.symb 38) (.symi .u16 37) (.int .u16 0),
  .ite (.symb 38) (.symi .u16 2) (.symi .u16 43),
  .un .not (.symb 38),
  .ite (.symb 33) (.symi .u16 0) (.symi .u16 44),
  .ite (.symb 33) (.symi .u16 2) (.symi .u16 45),
  .ite (.symb 33) (.bool false) (.symb 46)]

set_option maxRecDepth 100000 in
def ttickT : LT := .n (.n (.n (.n (.n (.n (.e) 332 34 (.conv .i64 (.symi .u16 0)) (.e)) 60352 10 (.bin .add (.symi .u16 0) (.int .u16 1)) (.e)) 10794609 33 (.bin .eql (.symi .u16 32) (.int .u16 0)) (.n (.n (.e) 36064299 28 (.ite (.symb 4) (.symi .u16 0) (.symi .u16 25)) (.e)) 57774207 44 (.ite (.symb 38) (.symi .u16 37) (.int .u16 0)) (.e))) 101010697 15 (.bin .eql (.symi .u16 1) (.int .u16 0)) (.n (.n (.n (.e) 101030641 5 (.bin .sub (.symi .u16 1) (.symi .u16 0)) (.e)) 103000641 16 (.conv .i64 (.symi .u16 1)) (.e)) 138272203 13 (.bin .eql (.symi .u16 12) (.int .u16 0)) (.n (.n (.e) 202060965 42 (.bin .sub (.symi .u16 2) (.int .u16 1)) (.e)) 202060993 3 (.bin .and (.symi .u16 2) (.int .u16 1)) (.e)))) 202061028 14 (.bin .andNot (.symi .u16 2) (.int .u16 1)) (.n (.n (.n (.n (.e) 202111014 39 (.bin .quo (.symi .u16 2) (.int .u16 2)) (.e)) 202111021 32 (.bin .rem (.symi .u16 2) (.int .u16 2)) (.e)) 202111028 12 (.bin .and (.symi .u16 2) (.int .u16 2)) (.n (.n (.e) 212845173 35 (.bin .add (.symi .i64 34) (.int .i64 1)) (.e)) 254934701 17 (.ite (.symb 15) (.int .i64 65536) (.symi .i64 16)) (.e))) 262036516 45 (.ite (.symb 38) (.symi .u16 2) (.symi .u16 43)) (.n (.n (.n (.e) 303011303 4 (.bin .eql (.symi .u16 3) (.int .u16 0)) (.e)) 338064907 30 (.ite (.symb 4) (.int .i64 0) (.symi .i64 27)) (.e)) 371663748 36 (.bin .rem (.symi .i64 35) (.int .i64 65536)) (.n (.n (.e) 381102566 22 (.ite (.symb 13) (.int .u16 0) (.symi .u16 19)) (.e)) 424651232 21 (.bin .add (.int .i64 1) (.symi .i64 20)) (.e))))) 448049584 43 (.ite (.symb 41) (.symi .u16 42) (.symi .u16 2)) (.n (.n (.n (.n (.n (.e) 485065646 29 (.ite (.symb 4) (.symi .u16 2) (.symi .u16 26)) (.e)) 486785975 37 (.conv .u16 (.symi .i64 36)) (.e)) 493754967 47 (.ite (.symb 33) (.symi .u16 0) (.symi .u16 44)) (.n (.n (.e) 505061874 6 (.bin .sub (.symi .u16 5) (.int .u16 1)) (.e)) 505593549 20 (.bin .quo (.symi .i64 11) (.symi .i64 17)) (.e))) 505593556 18 (.bin .rem (.symi .i64 11) (.symi .i64 17)) (.n (.n (.n (.e) 580086483 27 (.ite (.symb 9) (.int .i64 0) (.symi .i64 24)) (.e)) 599375611 11 (.bin .sub (.int .i64 1) (.symi .i64 8)) (.e)) 599375695 9 (.bin .lss (.int .i64 1) (.symi .i64 8)) (.n (.n (.e) 616901899 46 (.un .not (.symb 38)) (.e)) 618002186 7 (.conv .i64 (.symi .u16 6)) (.e)))) 683104217 24 (.ite (.symb 13) (.int .i64 1) (.symi .i64 21)) (.n (.n (.n (.n (.e) 694348518 25 (.ite (.symb 9) (.symi .u16 10) (.symi .u16 22)) (.e)) 707062473 8 (.bin .add (.symi .i64 7) (.int .i64 1)) (.e)) 717896751 40 (.bin .rem (.symi .u16 39) (.int .u16 2)) (.n (.n (.e) 727087222 26 (.ite (.symb 9) (.symi .u16 2) (.symi .u16 23)) (.e)) 780264067 19 (.conv .u16 (.symi .i64 18)) (.e))) 795966943 49 (.ite (.symb 33) (.bool false) (.symb 46)) (.n (.n (.n (.e) 818797033 41 (.bin .eql (.symi .u16 40) (.int .u16 0)) (.e)) 859169723 38 (.bin .neq (.symi .u16 37) (.symi .u16 1)) (.e)) 882535858 31 (.bin .gtr (.symi .i64 30) (.int .i64 0)) (.n (.n (.e) 942756314 48 (.ite (.symb 33) (.symi .u16 2) (.symi .u16 45)) (.e)) 973843248 23 (.ite (.symb 13) (.symi .u16 14) (.symi .u16 2)) (.e)))))

def ttickX : Ing := { m := 3, ins := (cellsOf ttickI).map kindC, G := ttickG, T := ttickT }
def ttickA : List AVal := [.symi .u16 28, .symi .u16 1, .symi .u16 29, .symb 31]
def ttickB : List AVal := [.symi .u16 47, .symi .u16 1, .symi .u16 48, .symb 49]
def ttickF : List Int → List Int := dagF noTab 3 ttickG ttickA
theorem ttick_ok : okG ttickG 3 = true := by kernel_rfl
theorem ttick_lt : okLT 3 ttickG ttickT = true := by kernel_rfl
theorem ttick_run0 : okW (fun F => (evD Try.prog (cxOf ttickX) true 1000 40).1 F 64 (symSh ttickI 0) ⟨[], []⟩) (.run (.req (.node 4 (.ok) (.node 9 (.ok) (.node 13 (.ok) (.pick 17 0 (.no) (.ok))))) (.leaf (.tuple [.agg [.symi .u16 28, .symi .u16 1, .symi .u16 29], .symb 31])))) [] = true := by kernel_rfl
theorem ttick_run1 : okW (fun F => (evD Try.prog (cxOf ttickX) true 1000 40).1 F 95 (symSh ttickI 0) ⟨[], []⟩) (.run (.leaf (.tuple [.agg [.symi .u16 47, .symi .u16 1, .symi .u16 48], .symb 49]))) [] = true := by kernel_rfl
set_option maxRecDepth 100000 in
theorem ttick_eq (σ : Sig) (e : Eqs σ 3 ttickG) (hin : InsOk σ 3 ((cellsOf ttickI).map kindC)) : numsOf σ ttickB = numsOf σ ttickA := by
  have e3 : σ.ival 3 = IntKind.u16.wrap (BitVec.ofInt IntKind.u16.bits (σ.ival 2) &&& BitVec.ofInt IntKind.u16.bits (1)).toNat := eqI (e.at 0 _ rfl rfl) rfl
  have e4 : σ.bval 4 = (σ.ival 3 == 0) := eqB (e.at 1 _ rfl rfl) rfl
  have e5 : σ.ival 5 = IntKind.u16.wrap (σ.ival 1 - σ.ival 0) := eqI (e.at 2 _ rfl rfl) rfl
  have e6 : σ.ival 6 = IntKind.u16.wrap (σ.ival 5 - 1) := eqI (e.at 3 _ rfl rfl) rfl
  have e7 : σ.ival 7 = IntKind.i64.wrap (σ.ival 6) := eqI (e.at 4 _ rfl rfl) rfl
  have e8 : σ.ival 8 = IntKind.i64.wrap (σ.ival 7 + 1) := eqI (e.at 5 _ rfl rfl) rfl
  have e9 : σ.bval 9 = decide (1 < σ.ival 8) := eqB (e.at 6 _ rfl rfl) rfl
  have e10 : σ.ival 10 = IntKind.u16.wrap (σ.ival 0 + 1) := eqI (e.at 7 _ rfl rfl) rfl
  have e11 : σ.ival 11 = IntKind.i64.wrap (1 - σ.ival 8) := eqI (e.at 8 _ rfl rfl) rfl
  have e12 : σ.ival 12 = IntKind.u16.wrap (BitVec.ofInt IntKind.u16.bits (σ.ival 2) &&& BitVec.ofInt IntKind.u16.bits (2)).toNat := eqI (e.at 9 _ rfl rfl) rfl
  have e13 : σ.bval 13 = (σ.ival 12 == 0) := eqB (e.at 10 _ rfl rfl) rfl
  have e14 : σ.ival 14 = IntKind.u16.wrap (BitVec.ofInt IntKind.u16.bits (σ.ival 2) &&& ~~~BitVec.ofInt IntKind.u16.bits (1)).toNat := eqI (e.at 11 _ rfl rfl) rfl
  have e15 : σ.bval 15 = (σ.ival 1 == 0) := eqB (e.at 12 _ rfl rfl) rfl
  have e16 : σ.ival 16 = IntKind.i64.wrap (σ.ival 1) := eqI (e.at 13 _ rfl rfl) rfl
  have e17 : σ.ival 17 = (bif σ.bval 15 then 65536 else σ.ival 16) := eqIteI (e.at 14 _ rfl rfl) rfl rfl rfl
  have w1 : IntKind.u16.wrap (σ.ival 1) = σ.ival 1 := hin 1 .u16 (by decide) rfl
  have n17 : σ.ival 17 ≠ 0 := by
    obtain ⟨p0, p1⟩ := u16_range w1
    rw [e17, e15, e16]
    by_cases z : σ.ival 1 = 0
    · rw [z]; decide
    · rw [show (σ.ival 1 == 0) = false by simpa using z]
      show IntKind.i64.wrap (σ.ival 1) ≠ 0
      simp [IntKind.wrap, IntKind.bits, IntKind.signed]
      omega
  have e18 : σ.ival 18 = (σ.ival 11).tmod (σ.ival 17) := eqI (e 15 _ rfl (fun j hj => by cases hj; exact n17)) (by show (if σ.ival 17 = 0 then none else some (AVal.int .i64 ((σ.ival 11).tmod (σ.ival 17)))) = _; rw [if_neg n17])
  have e19 : σ.ival 19 = IntKind.u16.wrap (σ.ival 18) := eqI (e.at 16 _ rfl rfl) rfl
  have e20 : σ.ival 20 = IntKind.i64.wrap ((σ.ival 11).tdiv (σ.ival 17)) := eqI (e 17 _ rfl (fun j hj => by cases hj; exact n17)) (by show (if σ.ival 17 = 0 then none else some (AVal.int .i64 (IntKind.i64.wrap ((σ.ival 11).tdiv (σ.ival 17))))) = _; rw [if_neg n17])
  have e21 : σ.ival 21 = IntKind.i64.wrap (1 + σ.ival 20) := eqI (e.at 18 _ rfl rfl) rfl
  have e22 : σ.ival 22 = (bif σ.bval 13 then 0 else σ.ival 19) := eqIteI (e.at 19 _ rfl rfl) rfl rfl rfl
  have e23 : σ.ival 23 = (bif σ.bval 13 then σ.ival 14 else σ.ival 2) := eqIteI (e.at 20 _ rfl rfl) rfl rfl rfl
  have e24 : σ.ival 24 = (bif σ.bval 13 then 1 else σ.ival 21) := eqIteI (e.at 21 _ rfl rfl) rfl rfl rfl
  have e25 : σ.ival 25 = (bif σ.bval 9 then σ.ival 10 else σ.ival 22) := eqIteI (e.at 22 _ rfl rfl) rfl rfl rfl
  have e26 : σ.ival 26 = (bif σ.bval 9 then σ.ival 2 else σ.ival 23) := eqIteI (e.at 23 _ rfl rfl) rfl rfl rfl
  have e27 : σ.ival 27 = (bif σ.bval 9 then 0 else σ.ival 24) := eqIteI (e.at 24 _ rfl rfl) rfl rfl rfl
  have e28 : σ.ival 28 = (bif σ.bval 4 then σ.ival 0 else σ.ival 25) := eqIteI (e.at 25 _ rfl rfl) rfl rfl rfl
  have e29 : σ.ival 29 = (bif σ.bval 4 then σ.ival 2 else σ.ival 26) := eqIteI (e.at 26 _ rfl rfl) rfl rfl rfl
  have e30 : σ.ival 30 = (bif σ.bval 4 then 0 else σ.ival 27) := eqIteI (e.at 27 _ rfl rfl) rfl rfl rfl
  have e31 : σ.bval 31 = decide (σ.ival 30 > 0) := eqB (e.at 28 _ rfl rfl) rfl
  have e32 : σ.ival 32 = ((σ.ival 2 : Int).tmod 2) := eqI (e.at 29 _ rfl rfl) rfl
  have e33 : σ.bval 33 = (σ.ival 32 == 0) := eqB (e.at 30 _ rfl rfl) rfl
  have e34 : σ.ival 34 = IntKind.i64.wrap (σ.ival 0) := eqI (e.at 31 _ rfl rfl) rfl
  have e35 : σ.ival 35 = IntKind.i64.wrap (σ.ival 34 + 1) := eqI (e.at 32 _ rfl rfl) rfl
  have e36 : σ.ival 36 = ((σ.ival 35 : Int).tmod 65536) := eqI (e.at 33 _ rfl rfl) rfl
  have e37 : σ.ival 37 = IntKind.u16.wrap (σ.ival 36) := eqI (e.at 34 _ rfl rfl) rfl
  have e38 : σ.bval 38 = (σ.ival 37 != σ.ival 1) := eqB (e.at 35 _ rfl rfl) rfl
  have e39 : σ.ival 39 = IntKind.u16.wrap ((σ.ival 2 : Int).tdiv 2) := eqI (e.at 36 _ rfl rfl) rfl
  have e40 : σ.ival 40 = ((σ.ival 39 : Int).tmod 2) := eqI (e.at 37 _ rfl rfl) rfl
  have e41 : σ.bval 41 = (σ.ival 40 == 0) := eqB (e.at 38 _ rfl rfl) rfl
  have e42 : σ.ival 42 = IntKind.u16.wrap (σ.ival 2 - 1) := eqI (e.at 39 _ rfl rfl) rfl
  have e43 : σ.ival 43 = (bif σ.bval 41 then σ.ival 42 else σ.ival 2) := eqIteI (e.at 40 _ rfl rfl) rfl rfl rfl
  have e44 : σ.ival 44 = (bif σ.bval 38 then σ.ival 37 else 0) := eqIteI (e.at 41 _ rfl rfl) rfl rfl rfl
  have e45 : σ.ival 45 = (bif σ.bval 38 then σ.ival 2 else σ.ival 43) := eqIteI (e.at 42 _ rfl rfl) rfl rfl rfl
  have e46 : σ.bval 46 = (!σ.bval 38) := eqB (e.at 43 _ rfl rfl) rfl
  have e47 : σ.ival 47 = (bif σ.bval 33 then σ.ival 0 else σ.ival 44) := eqIteI (e.at 44 _ rfl rfl) rfl rfl rfl
  have e48 : σ.ival 48 = (bif σ.bval 33 then σ.ival 2 else σ.ival 45) := eqIteI (e.at 45 _ rfl rfl) rfl rfl rfl
  have e49 : σ.bval 49 = (bif σ.bval 33 then false else σ.bval 46) := eqIteB (e.at 46 _ rfl rfl) rfl rfl rfl
  have w0 : IntKind.u16.wrap (σ.ival 0) = σ.ival 0 := hin 0 .u16 (by decide) rfl
  have w1 : IntKind.u16.wrap (σ.ival 1) = σ.ival 1 := hin 1 .u16 (by decide) rfl
  have w2 : IntKind.u16.wrap (σ.ival 2) = σ.ival 2 := hin 2 .u16 (by decide) rfl
  obtain ⟨c0, c1'⟩ := u16_range w0
  obtain ⟨p0, p1⟩ := u16_range w1
  obtain ⟨t0, t1⟩ := u16_range w2
  have v3 : σ.ival 3 = σ.ival 2 % 2 := by rw [e3]; exact and1
  have v12 : σ.ival 12 = 2 * (σ.ival 2 / 2 % 2) := by rw [e12]; exact and2 t0 t1
  have v14 : σ.ival 14 = σ.ival 2 - σ.ival 2 % 2 := by rw [e14]; exact drop1 t0 t1
  have v8 : σ.ival 8 = (σ.ival 1 - σ.ival 0 - 1) % 65536 + 1 := by
    rw [e8, e7, e6, e5]; simp [IntKind.wrap, IntKind.bits, IntKind.signed]; omega
  have v32 : σ.ival 32 = σ.ival 2 % 2 := by rw [e32]; exact Int.tmod_eq_emod_of_nonneg t0
  have v37 : σ.ival 37 = (σ.ival 0 + 1) % 65536 := by
    rw [e37, e36, e35, e34]
    have h1 : IntKind.i64.wrap (IntKind.i64.wrap (σ.ival 0) + 1) = σ.ival 0 + 1 := by simp [IntKind.wrap, IntKind.bits, IntKind.signed]; omega
    rw [h1, Int.tmod_eq_emod_of_nonneg (by omega)]; simp [IntKind.wrap, IntKind.bits, IntKind.signed]
  have v10 : σ.ival 10 = (σ.ival 0 + 1) % 65536 := by
    rw [e10]; simp [IntKind.wrap, IntKind.bits, IntKind.signed]
  have v40 : σ.ival 40 = σ.ival 2 / 2 % 2 := by
    rw [e40, e39, Int.tdiv_eq_ediv_of_nonneg t0]
    have h1 : IntKind.u16.wrap (σ.ival 2 / 2) = σ.ival 2 / 2 := by simp [IntKind.wrap, IntKind.bits, IntKind.signed]; omega
    rw [h1]; exact Int.tmod_eq_emod_of_nonneg (by omega)
  have b33 : σ.bval 33 = σ.bval 4 := by rw [e33, e4, v32, v3]
  have b38 : σ.bval 38 = σ.bval 9 := by
    rw [e38, e9, v37, v8]
    by_cases h : (σ.ival 0 + 1) % 65536 = σ.ival 1
    · rw [show ((σ.ival 0 + 1) % 65536 != σ.ival 1) = false by simpa using h, show decide (1 < (σ.ival 1 - σ.ival 0 - 1) % 65536 + 1) = false by simp only [decide_eq_false_iff_not]; omega]
    · rw [show ((σ.ival 0 + 1) % 65536 != σ.ival 1) = true by simpa using h, show decide (1 < (σ.ival 1 - σ.ival 0 - 1) % 65536 + 1) = true by simp only [decide_eq_true_eq]; omega]
  have b41 : σ.bval 41 = σ.bval 13 := by
    rw [e41, e13, v40, v12]
    rcases Int.emod_two_eq (σ.ival 2 / 2) with h | h <;> rw [h] <;> rfl
  have v11 : σ.bval 9 = false → σ.ival 11 = 0 := by
    intro h
    rw [e9, v8] at h
    simp only [decide_eq_false_iff_not] at h
    rw [e11, v8]; simp [IntKind.wrap, IntKind.bits, IntKind.signed]; omega
  have v19 : σ.bval 9 = false → σ.ival 19 = 0 ∧ σ.ival 21 = 1 := by
    intro h
    have := v11 h
    rw [e19, e18, e21, e20, this, Int.zero_tmod, Int.zero_tdiv]; exact ⟨rfl, rfl⟩
  have c47 : σ.ival 47 = σ.ival 28 := by
    rw [e47, e28, e44, e25, e22, b33, b38, v37, v10]
    cases h4 : σ.bval 4 <;> cases h9 : σ.bval 9
    · rw [(v19 h9).1]; cases σ.bval 13 <;> rfl
    · rfl
    · rfl
    · rfl
  have c48 : σ.ival 48 = σ.ival 29 := by
    rw [e48, e29, e45, e43, e26, e23, b33, b38, b41, v14]
    cases h4 : σ.bval 4 <;> cases h9 : σ.bval 9 <;> cases h13 : σ.bval 13 <;> try rfl
    rw [e4, v3] at h4
    simp only [beq_eq_false_iff_ne, ne_eq] at h4
    show σ.ival 42 = σ.ival 2 - σ.ival 2 % 2
    rw [e42]; simp [IntKind.wrap, IntKind.bits, IntKind.signed]; omega
  have c49 : σ.bval 49 = σ.bval 31 := by
    rw [e49, e31, e46, e30, e27, e24, b33, b38]
    cases h4 : σ.bval 4 <;> cases h9 : σ.bval 9
    · rw [(v19 h9).2]; cases σ.bval 13 <;> rfl
    · rfl
    · rfl
    · rfl
  unfold numsOf ttickA ttickB
  simp only [List.map_cons, List.map_nil, den, numS]
  rw [c47, c48, c49]
set_option maxRecDepth 100000 in
theorem ttick_hv0 (σ : Sig) (e : Eqs σ 3 ttickG) (hin : InsOk σ 3 ((cellsOf ttickI).map kindC)) (Q : AVal → Prop) (hq : Q (.tuple [.agg [.symi .u16 28, .symi .u16 1, .symi .u16 29], .symb 31])) : valsW σ Q (.run (.req (.node 4 (.ok) (.node 9 (.ok) (.node 13 (.ok) (.pick 17 0 (.no) (.ok))))) (.leaf (.tuple [.agg [.symi .u16 28, .symi .u16 1, .symi .u16 29], .symb 31])))) [] := by
  have e3 : σ.ival 3 = IntKind.u16.wrap (BitVec.ofInt IntKind.u16.bits (σ.ival 2) &&& BitVec.ofInt IntKind.u16.bits (1)).toNat := eqI (e.at 0 _ rfl rfl) rfl
  have e4 : σ.bval 4 = (σ.ival 3 == 0) := eqB (e.at 1 _ rfl rfl) rfl
  have e5 : σ.ival 5 = IntKind.u16.wrap (σ.ival 1 - σ.ival 0) := eqI (e.at 2 _ rfl rfl) rfl
  have e6 : σ.ival 6 = IntKind.u16.wrap (σ.ival 5 - 1) := eqI (e.at 3 _ rfl rfl) rfl
  have e7 : σ.ival 7 = IntKind.i64.wrap (σ.ival 6) := eqI (e.at 4 _ rfl rfl) rfl
  have e8 : σ.ival 8 = IntKind.i64.wrap (σ.ival 7 + 1) := eqI (e.at 5 _ rfl rfl) rfl
  have e9 : σ.bval 9 = decide (1 < σ.ival 8) := eqB (e.at 6 _ rfl rfl) rfl
  have e10 : σ.ival 10 = IntKind.u16.wrap (σ.ival 0 + 1) := eqI (e.at 7 _ rfl rfl) rfl
  have e11 : σ.ival 11 = IntKind.i64.wrap (1 - σ.ival 8) := eqI (e.at 8 _ rfl rfl) rfl
  have e12 : σ.ival 12 = IntKind.u16.wrap (BitVec.ofInt IntKind.u16.bits (σ.ival 2) &&& BitVec.ofInt IntKind.u16.bits (2)).toNat := eqI (e.at 9 _ rfl rfl) rfl
  have e13 : σ.bval 13 = (σ.ival 12 == 0) := eqB (e.at 10 _ rfl rfl) rfl
  have e14 : σ.ival 14 = IntKind.u16.wrap (BitVec.ofInt IntKind.u16.bits (σ.ival 2) &&& ~~~BitVec.ofInt IntKind.u16.bits (1)).toNat := eqI (e.at 11 _ rfl rfl) rfl
  have e15 : σ.bval 15 = (σ.ival 1 == 0) := eqB (e.at 12 _ rfl rfl) rfl
  have e16 : σ.ival 16 = IntKind.i64.wrap (σ.ival 1) := eqI (e.at 13 _ rfl rfl) rfl
  have e17 : σ.ival 17 = (bif σ.bval 15 then 65536 else σ.ival 16) := eqIteI (e.at 14 _ rfl rfl) rfl rfl rfl
  have w1 : IntKind.u16.wrap (σ.ival 1) = σ.ival 1 := hin 1 .u16 (by decide) rfl
  have n17 : σ.ival 17 ≠ 0 := by
    obtain ⟨p0, p1⟩ := u16_range w1
    rw [e17, e15, e16]
    by_cases z : σ.ival 1 = 0
    · rw [z]; decide
    · rw [show (σ.ival 1 == 0) = false by simpa using z]
      show IntKind.i64.wrap (σ.ival 1) ≠ 0
      simp [IntKind.wrap, IntKind.bits, IntKind.signed]
      omega
  have e18 : σ.ival 18 = (σ.ival 11).tmod (σ.ival 17) := eqI (e 15 _ rfl (fun j hj => by cases hj; exact n17)) (by show (if σ.ival 17 = 0 then none else some (AVal.int .i64 ((σ.ival 11).tmod (σ.ival 17)))) = _; rw [if_neg n17])
  have e19 : σ.ival 19 = IntKind.u16.wrap (σ.ival 18) := eqI (e.at 16 _ rfl rfl) rfl
  have e20 : σ.ival 20 = IntKind.i64.wrap ((σ.ival 11).tdiv (σ.ival 17)) := eqI (e 17 _ rfl (fun j hj => by cases hj; exact n17)) (by show (if σ.ival 17 = 0 then none else some (AVal.int .i64 (IntKind.i64.wrap ((σ.ival 11).tdiv (σ.ival 17))))) = _; rw [if_neg n17])
  have e21 : σ.ival 21 = IntKind.i64.wrap (1 + σ.ival 20) := eqI (e.at 18 _ rfl rfl) rfl
  have e22 : σ.ival 22 = (bif σ.bval 13 then 0 else σ.ival 19) := eqIteI (e.at 19 _ rfl rfl) rfl rfl rfl
  have e23 : σ.ival 23 = (bif σ.bval 13 then σ.ival 14 else σ.ival 2) := eqIteI (e.at 20 _ rfl rfl) rfl rfl rfl
  have e24 : σ.ival 24 = (bif σ.bval 13 then 1 else σ.ival 21) := eqIteI (e.at 21 _ rfl rfl) rfl rfl rfl
  have e25 : σ.ival 25 = (bif σ.bval 9 then σ.ival 10 else σ.ival 22) := eqIteI (e.at 22 _ rfl rfl) rfl rfl rfl
  have e26 : σ.ival 26 = (bif σ.bval 9 then σ.ival 2 else σ.ival 23) := eqIteI (e.at 23 _ rfl rfl) rfl rfl rfl
  have e27 : σ.ival 27 = (bif σ.bval 9 then 0 else σ.ival 24) := eqIteI (e.at 24 _ rfl rfl) rfl rfl rfl
  have e28 : σ.ival 28 = (bif σ.bval 4 then σ.ival 0 else σ.ival 25) := eqIteI (e.at 25 _ rfl rfl) rfl rfl rfl
  have e29 : σ.ival 29 = (bif σ.bval 4 then σ.ival 2 else σ.ival 26) := eqIteI (e.at 26 _ rfl rfl) rfl rfl rfl
  have e30 : σ.ival 30 = (bif σ.bval 4 then 0 else σ.ival 27) := eqIteI (e.at 27 _ rfl rfl) rfl rfl rfl
  have e31 : σ.bval 31 = decide (σ.ival 30 > 0) := eqB (e.at 28 _ rfl rfl) rfl
  have e32 : σ.ival 32 = ((σ.ival 2 : Int).tmod 2) := eqI (e.at 29 _ rfl rfl) rfl
  have e33 : σ.bval 33 = (σ.ival 32 == 0) := eqB (e.at 30 _ rfl rfl) rfl
  have e34 : σ.ival 34 = IntKind.i64.wrap (σ.ival 0) := eqI (e.at 31 _ rfl rfl) rfl
  have e35 : σ.ival 35 = IntKind.i64.wrap (σ.ival 34 + 1) := eqI (e.at 32 _ rfl rfl) rfl
  have e36 : σ.ival 36 = ((σ.ival 35 : Int).tmod 65536) := eqI (e.at 33 _ rfl rfl) rfl
  have e37 : σ.ival 37 = IntKind.u16.wrap (σ.ival 36) := eqI (e.at 34 _ rfl rfl) rfl
  have e38 : σ.bval 38 = (σ.ival 37 != σ.ival 1) := eqB (e.at 35 _ rfl rfl) rfl
  have e39 : σ.ival 39 = IntKind.u16.wrap ((σ.ival 2 : Int).tdiv 2) := eqI (e.at 36 _ rfl rfl) rfl
  have e40 : σ.ival 40 = ((σ.ival 39 : Int).tmod 2) := eqI (e.at 37 _ rfl rfl) rfl
  have e41 : σ.bval 41 = (σ.ival 40 == 0) := eqB (e.at 38 _ rfl rfl) rfl
  have e42 : σ.ival 42 = IntKind.u16.wrap (σ.ival 2 - 1) := eqI (e.at 39 _ rfl rfl) rfl
  have e43 : σ.ival 43 = (bif σ.bval 41 then σ.ival 42 else σ.ival 2) := eqIteI (e.at 40 _ rfl rfl) rfl rfl rfl
  have e44 : σ.ival 44 = (bif σ.bval 38 then σ.ival 37 else 0) := eqIteI (e.at 41 _ rfl rfl) rfl rfl rfl
  have e45 : σ.ival 45 = (bif σ.bval 38 then σ.ival 2 else σ.ival 43) := eqIteI (e.at 42 _ rfl rfl) rfl rfl rfl
  have e46 : σ.bval 46 = (!σ.bval 38) := eqB (e.at 43 _ rfl rfl) rfl
  have e47 : σ.ival 47 = (bif σ.bval 33 then σ.ival 0 else σ.ival 44) := eqIteI (e.at 44 _ rfl rfl) rfl rfl rfl
  have e48 : σ.ival 48 = (bif σ.bval 33 then σ.ival 2 else σ.ival 45) := eqIteI (e.at 45 _ rfl rfl) rfl rfl rfl
  have e49 : σ.bval 49 = (bif σ.bval 33 then false else σ.bval 46) := eqIteB (e.at 46 _ rfl rfl) rfl rfl rfl
  refine ⟨fun _ => ?_, fun _ => hq⟩
  exact ⟨fun _ => trivial, fun _ => ⟨fun _ => trivial, fun _ => ⟨fun _ => trivial, fun _ => ⟨fun h => absurd h n17, fun _ => trivial⟩⟩⟩⟩

theorem ttick_contract0 : FnOk Try.prog 64 ttickI ttickO ttickF :=
  dag_contractW (X := ttickX) (cs := ttickA) (cs1 := ttickA) 12 mixed ⟨rfl, rfl, rfl, rfl, rfl⟩ ttick_ok ttick_lt (fun F => no_hooks rfl F) ttick_run0 (fun σ e _ hin Q hq => ttick_hv0 σ e hin Q hq) (by kernel_rfl) (by kernel_rfl) (fun σ _ _ _ => rfl)
theorem ttick_contract1 : FnOk Try.prog 95 ttickI ttickO ttickF :=
  dag_contract (X := ttickX) (cs := ttickB) (cs1 := ttickA) 12 mixed ⟨rfl, rfl, rfl, rfl, rfl⟩ ttick_ok ttick_lt (fun F => no_hooks rfl F) ttick_run1 (by kernel_rfl) (by kernel_rfl) (fun σ e ht hin => ttick_eq σ e hin)

def ipeekI : List Sh := [c2, .one (.i .i64)]
def ipeekO : List Sh := [.one (.i .i32)]
set_option maxRecDepth 100000 in
def ipeekG : List SDef := [.bin .eql (.symi .i64 2) (.int .i64 12),
  .conv .i32 (.symi .u8 0),
  .bin .eql (.symi .i64 2) (.int .i64 13),
  .conv .i32 (.symi .u8 1),
  .ite (.symb 5) (.symi .i32 6) (.int .i32 0),
  .ite (.symb 3) (.symi .i32 4) (.symi .i32 7)]

set_option maxRecDepth 100000 in
def ipeekT : LT := .n (.n (.n (.e) 332 4 (.conv .i32 (.symi .u8 0)) (.e)) 103000641 6 (.conv .i32 (.symi .u8 1)) (.n (.e) 202611420 3 (.bin .eql (.symi .i64 2) (.int .i64 12)) (.e))) 202661455 5 (.bin .eql (.symi .i64 2) (.int .i64 13)) (.n (.n (.e) 515285422 7 (.ite (.symb 5) (.symi .i32 6) (.int .i32 0)) (.e)) 996278827 8 (.ite (.symb 3) (.symi .i32 4) (.symi .i32 7)) (.e))

def ipeekX : Ing := { m := 3, ins := (cellsOf ipeekI).map kindC, G := ipeekG, T := ipeekT }
def ipeekA : List AVal := [.symi .i32 8]
def ipeekB : List AVal := [.symi .i32 8]
def ipeekF : List Int → List Int := dagF noTab 3 ipeekG ipeekA
theorem ipeek_ok : okG ipeekG 3 = true := by kernel_rfl
theorem ipeek_lt : okLT 3 ipeekG ipeekT = true := by kernel_rfl
theorem ipeek_run0 : okW (fun F => (evD Try.prog (cxOf ipeekX) true 1000 40).1 F 18 (symSh ipeekI 0) ⟨[], []⟩) (.run (.leaf (.symi .i32 8))) [] = true := by kernel_rfl
theorem ipeek_run1 : okW (fun F => (evD Try.prog (cxOf ipeekX) true 1000 40).1 F 106 (symSh ipeekI 0) ⟨[], []⟩) (.run (.leaf (.symi .i32 8))) [] = true := by kernel_rfl
theorem ipeek_contract0 : FnOk Try.prog 18 ipeekI ipeekO ipeekF :=
  dag_contract (X := ipeekX) (cs := ipeekA) (cs1 := ipeekA) 12 mixed ⟨rfl, rfl, rfl, rfl, rfl⟩ ipeek_ok ipeek_lt (fun F => no_hooks rfl F) ipeek_run0 (by kernel_rfl) (by kernel_rfl) (fun σ _ _ _ => rfl)
theorem ipeek_contract1 : FnOk Try.prog 106 ipeekI ipeekO ipeekF :=
  dag_contract (X := ipeekX) (cs := ipeekB) (cs1 := ipeekA) 12 mixed ⟨rfl, rfl, rfl, rfl, rfl⟩ ipeek_ok ipeek_lt (fun F => no_hooks rfl F) ipeek_run1 (by kernel_rfl) (by kernel_rfl) (fun σ _ _ _ => rfl)

def iwriteI : List Sh := [c2, .one (.i .i64), .one (.i .i32)]
def iwriteO : List Sh := [c2]
set_option maxRecDepth 100000 in
def iwriteG : List SDef := [.conv .u8 (.symi .i32 3),
  .bin .eql (.symi .i64 2) (.int .i64 12),
  .bin .eql (.symi .i64 2) (.int .i64 13),
  .bin .or (.symi .u8 1) (.symi .u8 4),
  .bin .eql (.symi .i64 2) (.int .i64 14),
  .bin .andNot (.symi .u8 1) (.symi .u8 4),
  .ite (.symb 8) (.symi .u8 9) (.symi .u8 1),
  .ite (.symb 6) (.symi .u8 7) (.symi .u8 10),
  .ite (.symb 5) (.symi .u8 4) (.symi .u8 0),
  .ite (.symb 5) (.symi .u8 1) (.symi .u8 11)]

set_option maxRecDepth 100000 in
def iwriteT : LT := .n (.n (.n (.n (.e) 165811634 11 (.ite (.symb 6) (.symi .u8 7) (.symi .u8 10)) (.e)) 202611420 5 (.bin .eql (.symi .i64 2) (.int .i64 12)) (.e)) 202661455 6 (.bin .eql (.symi .i64 2) (.int .i64 13)) (.n (.n (.e) 202711490 8 (.bin .eql (.symi .i64 2) (.int .i64 14)) (.e)) 217284830 12 (.ite (.symb 5) (.symi .u8 4) (.symi .u8 0)) (.e))) 309001259 4 (.conv .u8 (.symi .i32 3)) (.n (.n (.n (.e) 357546645 13 (.ite (.symb 5) (.symi .u8 1) (.symi .u8 11)) (.e)) 400703161 7 (.bin .or (.symi .u8 1) (.symi .u8 4)) (.e)) 400703189 9 (.bin .andNot (.symi .u8 1) (.symi .u8 4)) (.n (.e) 456559452 10 (.ite (.symb 8) (.symi .u8 9) (.symi .u8 1)) (.e)))

def iwriteX : Ing := { m := 4, ins := (cellsOf iwriteI).map kindC, G := iwriteG, T := iwriteT }
def iwriteA : List AVal := [.symi .u8 12, .symi .u8 13]
def iwriteB : List AVal := [.symi .u8 12, .symi .u8 13]
def iwriteF : List Int → List Int := dagF noTab 4 iwriteG iwriteA
theorem iwrite_ok : okG iwriteG 4 = true := by kernel_rfl
theorem iwrite_lt : okLT 4 iwriteG iwriteT = true := by kernel_rfl
theorem iwrite_run0 : okW (fun F => (evD Try.prog (cxOf iwriteX) true 1000 40).1 F 15 (symSh iwriteI 0) ⟨[], []⟩) (.run (.leaf (.agg [.symi .u8 12, .symi .u8 13]))) [] = true := by kernel_rfl
theorem iwrite_run1 : okW (fun F => (evD Try.prog (cxOf iwriteX) true 1000 40).1 F 91 (symSh iwriteI 0) ⟨[], []⟩) (.run (.leaf (.agg [.symi .u8 12, .symi .u8 13]))) [] = true := by kernel_rfl
theorem iwrite_contract0 : FnOk Try.prog 15 iwriteI iwriteO iwriteF :=
  dag_contract (X := iwriteX) (cs := iwriteA) (cs1 := iwriteA) 12 mixed ⟨rfl, rfl, rfl, rfl, rfl⟩ iwrite_ok iwrite_lt (fun F => no_hooks rfl F) iwrite_run0 (by kernel_rfl) (by kernel_rfl) (fun σ _ _ _ => rfl)
theorem iwrite_contract1 : FnOk Try.prog 91 iwriteI iwriteO iwriteF :=
  dag_contract (X := iwriteX) (cs := iwriteB) (cs1 := iwriteA) 12 mixed ⟨rfl, rfl, rfl, rfl, rfl⟩ iwrite_ok iwrite_lt (fun F => no_hooks rfl F) iwrite_run1 (by kernel_rfl) (by kernel_rfl) (fun σ _ _ _ => rfl)

def ireqI : List Sh := [c2, .one (.i .u8)]
def ireqO : List Sh := [c2]
set_option maxRecDepth 100000 in
def ireqG : List SDef := [.bin .or (.symi .u8 1) (.symi .u8 2)]

set_option maxRecDepth 100000 in
def ireqT : LT := .n (.e) 787737832 3 (.bin .or (.symi .u8 1) (.symi .u8 2)) (.e)

def ireqX : Ing := { m := 3, ins := (cellsOf ireqI).map kindC, G := ireqG, T := ireqT }
def ireqA : List AVal := [.symi .u8 0, .symi .u8 3]
def ireqB : List AVal := [.symi .u8 0, .symi .u8 3]
def ireqF : List Int → List Int := dagF noTab 3 ireqG ireqA
theorem ireq_ok : okG ireqG 3 = true := by kernel_rfl
theorem ireq_lt : okLT 3 ireqG ireqT = true := by kernel_rfl
theorem ireq_run0 : okW (fun F => (evD Try.prog (cxOf ireqX) true 1000 40).1 F 14 (symSh ireqI 0) ⟨[], []⟩) (.run (.leaf (.agg [.symi .u8 0, .symi .u8 3]))) [] = true := by kernel_rfl
theorem ireq_run1 : okW (fun F => (evD Try.prog (cxOf ireqX) true 1000 40).1 F 103 (symSh ireqI 0) ⟨[], []⟩) (.run (.leaf (.agg [.symi .u8 0, .symi .u8 3]))) [] = true := by kernel_rfl
theorem ireq_contract0 : FnOk Try.prog 14 ireqI ireqO ireqF :=
  dag_contract (X := ireqX) (cs := ireqA) (cs1 := ireqA) 12 mixed ⟨rfl, rfl, rfl, rfl, rfl⟩ ireq_ok ireq_lt (fun F => no_hooks rfl F) ireq_run0 (by kernel_rfl) (by kernel_rfl) (fun σ _ _ _ => rfl)
theorem ireq_contract1 : FnOk Try.prog 103 ireqI ireqO ireqF :=
  dag_contract (X := ireqX) (cs := ireqB) (cs1 := ireqA) 12 mixed ⟨rfl, rfl, rfl, rfl, rfl⟩ ireq_ok ireq_lt (fun F => no_hooks rfl F) ireq_run1 (by kernel_rfl) (by kernel_rfl) (fun σ _ _ _ => rfl)

end Go.Proofs.Ytgifnmiggloclab.bd
