/-
  The contracts of timer.Ticks, Tick, Next, and of the reference's Tick.
  No conditions.
-/
import Derived.Test.YtgifnmiggloclabChecked
import Derived.Test.YtgifnmiggloclabTp
import Derived.Test.YtgifnmiggloclabEwZi
import Derived.ProofKit
namespace Go.Proofs.Ytgifnmiggloclab.tq
open Go.RowKit Go.Ev Go.Proofs.Ytgifnmiggloclab.tp
set_option linter.unusedVariables false
set_option linter.unusedSimpArgs false

theorem mixed : Try.prog.follows .mixedOrders = true := Checked.mixed Try.checked

theorem cd {P : Prop} [Decidable P] {a b : Int} : (bif decide P then a else b) = if P then a else b := by by_cases h : P <;> simp [h]
theorem cb {x y a b : Int} : (bif (x == y) then a else b) = if x = y then a else b := by
  by_cases h : x = y
  · simp [h]
  · rw [show (x == y) = false by simpa using h, if_neg h]; rfl
theorem u16_range {n : Int} (h : IntKind.u16.wrap n = n) : 0 ≤ n ∧ n ≤ 65535 := by
  simp [IntKind.wrap, IntKind.bits, IntKind.signed] at h; omega
def t3 : Sh := .agg [.i .u16, .i .u16, .i .u16]
def tkI : List Sh := [t3, .one (.i .i64)]
def tkO : List Sh := [t3, .one (.i .i64)]
def tkF : List Int → List Int
  | [c, p, t, n] => [tkC c p t n, p, tkT c p t n, tkK c p t n]
  | _ => []
def tickI : List Sh := [t3]
def tickO : List Sh := [t3, .one .b]
def tickF : List Int → List Int
  | [c, p, t] => [tkC c p t 1, p, tkT c p t 1, if IntKind.i64.wrap (tkK c p t 1) > 0 then 1 else 0]
  | _ => []
def nextF : List Int → List Int
  | [c, p, t] => [nxt c p t]
  | _ => []

set_option maxRecDepth 100000 in
def tk43G : List SDef := [.bin .leq (.symi .i64 3) (.int .i64 0),
  .bin .and (.symi .u16 2) (.int .u16 1),
  .bin .eql (.symi .u16 5) (.int .u16 0),
  .bin .sub (.symi .u16 1) (.symi .u16 0),
  .bin .sub (.symi .u16 7) (.int .u16 1),
  .conv .i64 (.symi .u16 8),
  .bin .add (.symi .i64 9) (.int .i64 1),
  .bin .lss (.symi .i64 3) (.symi .i64 10),
  .conv .u16 (.symi .i64 3),
  .bin .add (.symi .u16 0) (.symi .u16 12),
  .bin .sub (.symi .i64 3) (.symi .i64 10),
  .bin .and (.symi .u16 2) (.int .u16 2),
  .bin .eql (.symi .u16 15) (.int .u16 0),
  .bin .andNot (.symi .u16 2) (.int .u16 1),
  .bin .eql (.symi .u16 1) (.int .u16 0),
  .conv .i64 (.symi .u16 1),
  .ite (.symb 18) (.int .i64 65536) (.symi .i64 19),
  .bin .rem (.symi .i64 14) (.symi .i64 20),
  .conv .u16 (.symi .i64 21),
  .bin .quo (.symi .i64 14) (.symi .i64 20),
  .bin .add (.int .i64 1) (.symi .i64 23),
  .ite (.symb 16) (.int .u16 0) (.symi .u16 22),
  .ite (.symb 16) (.symi .u16 17) (.symi .u16 2),
  .ite (.symb 16) (.int .i64 1) (.symi .i64 24),
  .ite (.symb 11) (.symi .u16 13) (.symi .u16 25),
  .ite (.symb 11) (.symi .u16 2) (.symi .u16 26),
  .ite (.symb 11) (.int .i64 0) (.symi .i64 27),
  .ite (.symb 6) (.symi .u16 0) (.symi .u16 28),
  .ite (.symb 6) (.symi .u16 2) (.symi .u16 29),
  .ite (.symb 6) (.int .i64 0) (.symi .i64 30),
  .ite (.symb 4) (.symi .u16 0) (.symi .u16 31),
  .ite (.symb 4) (.symi .u16 2) (.symi .u16 32),
  .ite (.symb 4) (.int .i64 0) (.symi .i64 33)]

set_option maxRecDepth 100000 in
def tk43T : LT := .n (.n (.n (.n (.n (.n (.e) 15523167 22 (.conv .u16 (.symi .i64 21)) (.e)) 51207994 20 (.ite (.symb 18) (.int .i64 65536) (.symi .i64 19)) (.e)) 101010697 18 (.bin .eql (.symi .u16 1) (.int .u16 0)) (.n (.e) 101030641 7 (.bin .sub (.symi .u16 1) (.symi .u16 0)) (.e))) 103000641 19 (.conv .i64 (.symi .u16 1)) (.n (.n (.e) 142334352 32 (.ite (.symb 6) (.symi .u16 2) (.symi .u16 29)) (.e)) 170325798 36 (.ite (.symb 4) (.int .i64 0) (.symi .i64 33)) (.n (.e) 177375859 25 (.ite (.symb 16) (.int .u16 0) (.symi .u16 22)) (.e)))) 202060993 5 (.bin .and (.symi .u16 2) (.int .u16 1)) (.n (.n (.n (.e) 202061028 17 (.bin .andNot (.symi .u16 2) (.int .u16 1)) (.e)) 202111028 15 (.bin .and (.symi .u16 2) (.int .u16 2)) (.n (.e) 237355189 30 (.ite (.symb 11) (.int .i64 0) (.symi .i64 27)) (.e))) 303011324 4 (.bin .leq (.symi .i64 3) (.int .i64 0)) (.n (.n (.e) 309001259 12 (.conv .u16 (.symi .i64 3)) (.e)) 317326537 35 (.ite (.symb 4) (.symi .u16 2) (.symi .u16 32)) (.n (.e) 380970139 24 (.bin .add (.int .i64 1) (.symi .i64 23)) (.e))))) 384355928 29 (.ite (.symb 11) (.symi .u16 2) (.symi .u16 26)) (.n (.n (.n (.n (.n (.e) 441273112 16 (.bin .eql (.symi .u16 15) (.int .u16 0)) (.e)) 479377510 27 (.ite (.symb 16) (.int .i64 1) (.symi .i64 24)) (.e)) 505011909 6 (.bin .eql (.symi .u16 5) (.int .u16 0)) (.n (.e) 515341546 14 (.bin .sub (.symi .i64 3) (.symi .i64 10)) (.e))) 515341630 11 (.bin .lss (.symi .i64 3) (.symi .i64 10)) (.n (.n (.e) 707062480 8 (.bin .sub (.symi .u16 7) (.int .u16 1)) (.e)) 764116523 26 (.ite (.symb 16) (.symi .u16 17) (.symi .u16 2)) (.n (.e) 764913365 23 (.bin .quo (.symi .i64 14) (.symi .i64 20)) (.e)))) 764913372 21 (.bin .rem (.symi .i64 14) (.symi .i64 20)) (.n (.n (.n (.e) 767074832 31 (.ite (.symb 6) (.symi .u16 0) (.symi .u16 28)) (.e)) 798618565 28 (.ite (.symb 11) (.symi .u16 13) (.symi .u16 25)) (.n (.e) 824002804 9 (.conv .i64 (.symi .u16 8)) (.e))) 899047786 13 (.bin .add (.symi .u16 0) (.symi .u16 12)) (.n (.n (.e) 909063079 10 (.bin .add (.symi .i64 9) (.int .i64 1)) (.e)) 942067017 34 (.ite (.symb 4) (.symi .u16 0) (.symi .u16 31)) (.n (.e) 1069075440 33 (.ite (.symb 6) (.int .i64 0) (.symi .i64 30)) (.e)))))

set_option maxRecDepth 100000 in
def tk43W : Wr' := .run (.req (.node 4 (.ok) (.node 6 (.ok) (.node 11 (.ok) (.node 16 (.ok) (.pick 20 0 (.no) (.ok)))))) (.leaf (.tuple [.agg [.symi .u16 34, .symi .u16 1, .symi .u16 35], .symi .i64 36])))
def tk43X : Ing := { m := 4, ins := (cellsOf tkI).map kindC, G := tk43G, T := tk43T }
theorem tk_ok : okG tk43G 4 = true := by kernel_rfl
theorem tk_lt : okLT 4 tk43G tk43T = true := by kernel_rfl
theorem tk_run : okW (fun F => (evD Try.prog (cxOf tk43X) true 1000 40).1 F 37 (symSh tkI 0) ⟨[], []⟩) tk43W [] = true := by kernel_rfl
set_option maxRecDepth 100000 in
theorem ticks_contract : FnOk Try.prog 37 tkI tkO tkF :=
  fn_of_run (X := tk43X) (W := tk43W) mixed ⟨rfl, rfl, rfl, rfl, rfl⟩ tk_ok tk_lt (fun F => no_hooks rfl F) tk_run (fun l σ hl e _ hi _ => by
    match l, hl with
    | [c, p, t, n], hl =>
    obtain ⟨w0, w1, w2, w3, _⟩ := hl
    have i0 : σ.ival 0 = c := hi 0 (by decide)
    have i1 : σ.ival 1 = p := hi 1 (by decide)
    have i2 : σ.ival 2 = t := hi 2 (by decide)
    have i3 : σ.ival 3 = n := hi 3 (by decide)
    have w0 : IntKind.u16.wrap c = c := w0
    have w1 : IntKind.u16.wrap p = p := w1
    have w2 : IntKind.u16.wrap t = t := w2
    have w3 : IntKind.i64.wrap n = n := w3
    have e4 : σ.bval 4 = decide (σ.ival 3 ≤ 0) := eqB (e.at 0 _ rfl rfl) rfl
    have e5 : σ.ival 5 = IntKind.u16.wrap (BitVec.ofInt IntKind.u16.bits (σ.ival 2) &&& BitVec.ofInt IntKind.u16.bits (1)).toNat := eqI (e.at 1 _ rfl rfl) rfl
    have e6 : σ.bval 6 = (σ.ival 5 == 0) := eqB (e.at 2 _ rfl rfl) rfl
    have e7 : σ.ival 7 = IntKind.u16.wrap (σ.ival 1 - σ.ival 0) := eqI (e.at 3 _ rfl rfl) rfl
    have e8 : σ.ival 8 = IntKind.u16.wrap (σ.ival 7 - 1) := eqI (e.at 4 _ rfl rfl) rfl
    have e9 : σ.ival 9 = IntKind.i64.wrap (σ.ival 8) := eqI (e.at 5 _ rfl rfl) rfl
    have e10 : σ.ival 10 = IntKind.i64.wrap (σ.ival 9 + 1) := eqI (e.at 6 _ rfl rfl) rfl
    have e11 : σ.bval 11 = decide (σ.ival 3 < σ.ival 10) := eqB (e.at 7 _ rfl rfl) rfl
    have e12 : σ.ival 12 = IntKind.u16.wrap (σ.ival 3) := eqI (e.at 8 _ rfl rfl) rfl
    have e13 : σ.ival 13 = IntKind.u16.wrap (σ.ival 0 + σ.ival 12) := eqI (e.at 9 _ rfl rfl) rfl
    have e14 : σ.ival 14 = IntKind.i64.wrap (σ.ival 3 - σ.ival 10) := eqI (e.at 10 _ rfl rfl) rfl
    have e15 : σ.ival 15 = IntKind.u16.wrap (BitVec.ofInt IntKind.u16.bits (σ.ival 2) &&& BitVec.ofInt IntKind.u16.bits (2)).toNat := eqI (e.at 11 _ rfl rfl) rfl
    have e16 : σ.bval 16 = (σ.ival 15 == 0) := eqB (e.at 12 _ rfl rfl) rfl
    have e17 : σ.ival 17 = IntKind.u16.wrap (BitVec.ofInt IntKind.u16.bits (σ.ival 2) &&& ~~~BitVec.ofInt IntKind.u16.bits (1)).toNat := eqI (e.at 13 _ rfl rfl) rfl
    have e18 : σ.bval 18 = (σ.ival 1 == 0) := eqB (e.at 14 _ rfl rfl) rfl
    have e19 : σ.ival 19 = IntKind.i64.wrap (σ.ival 1) := eqI (e.at 15 _ rfl rfl) rfl
    have e20 : σ.ival 20 = (bif σ.bval 18 then 65536 else σ.ival 19) := eqIteI (e.at 16 _ rfl rfl) rfl rfl rfl
    have e22 : σ.ival 22 = IntKind.u16.wrap (σ.ival 21) := eqI (e.at 18 _ rfl rfl) rfl
    have e24 : σ.ival 24 = IntKind.i64.wrap (1 + σ.ival 23) := eqI (e.at 20 _ rfl rfl) rfl
    have e25 : σ.ival 25 = (bif σ.bval 16 then 0 else σ.ival 22) := eqIteI (e.at 21 _ rfl rfl) rfl rfl rfl
    have e26 : σ.ival 26 = (bif σ.bval 16 then σ.ival 17 else σ.ival 2) := eqIteI (e.at 22 _ rfl rfl) rfl rfl rfl
    have e27 : σ.ival 27 = (bif σ.bval 16 then 1 else σ.ival 24) := eqIteI (e.at 23 _ rfl rfl) rfl rfl rfl
    have e28 : σ.ival 28 = (bif σ.bval 11 then σ.ival 13 else σ.ival 25) := eqIteI (e.at 24 _ rfl rfl) rfl rfl rfl
    have e29 : σ.ival 29 = (bif σ.bval 11 then σ.ival 2 else σ.ival 26) := eqIteI (e.at 25 _ rfl rfl) rfl rfl rfl
    have e30 : σ.ival 30 = (bif σ.bval 11 then 0 else σ.ival 27) := eqIteI (e.at 26 _ rfl rfl) rfl rfl rfl
    have e31 : σ.ival 31 = (bif σ.bval 6 then σ.ival 0 else σ.ival 28) := eqIteI (e.at 27 _ rfl rfl) rfl rfl rfl
    have e32 : σ.ival 32 = (bif σ.bval 6 then σ.ival 2 else σ.ival 29) := eqIteI (e.at 28 _ rfl rfl) rfl rfl rfl
    have e33 : σ.ival 33 = (bif σ.bval 6 then 0 else σ.ival 30) := eqIteI (e.at 29 _ rfl rfl) rfl rfl rfl
    have e34 : σ.ival 34 = (bif σ.bval 4 then σ.ival 0 else σ.ival 31) := eqIteI (e.at 30 _ rfl rfl) rfl rfl rfl
    have e35 : σ.ival 35 = (bif σ.bval 4 then σ.ival 2 else σ.ival 32) := eqIteI (e.at 31 _ rfl rfl) rfl rfl rfl
    have e36 : σ.ival 36 = (bif σ.bval 4 then 0 else σ.ival 33) := eqIteI (e.at 32 _ rfl rfl) rfl rfl rfl
    rw [i1, i0] at e7
    rw [i2] at e5 e15 e17 e26 e29 e32 e35
    rw [i0] at e13 e31 e34
    rw [i1] at e18 e19
    rw [i3] at e4 e11 e12 e14
    have n20 : σ.ival 20 ≠ 0 := by
      rw [e20, e18, e19]
      by_cases z : p = 0
      · rw [z]; decide
      · rw [show (p == 0) = false by simpa using z]
        show IntKind.i64.wrap p ≠ 0
        obtain ⟨p0, p1⟩ := u16_range w1
        simp [IntKind.wrap, IntKind.bits, IntKind.signed]
        omega
    have e21 : σ.ival 21 = (σ.ival 14).tmod (σ.ival 20) := eqI (e 17 _ rfl (fun j hj => by cases hj; exact n20)) (by show (if σ.ival 20 = 0 then none else some (AVal.int .i64 ((σ.ival 14).tmod (σ.ival 20)))) = _; rw [if_neg n20])
    have e23 : σ.ival 23 = IntKind.i64.wrap ((σ.ival 14).tdiv (σ.ival 20)) := eqI (e 19 _ rfl (fun j hj => by cases hj; exact n20)) (by show (if σ.ival 20 = 0 then none else some (AVal.int .i64 (IntKind.i64.wrap ((σ.ival 14).tdiv (σ.ival 20))))) = _; rw [if_neg n20])
    have f1 : low1 t = σ.ival 5 := e5.symm
    have f2 : low2 t = σ.ival 15 := e15.symm
    have f3 : drop1 t = σ.ival 17 := e17.symm
    have f4 : first c p = σ.ival 10 := by rw [e10, e9, e8, e7]; rfl
    have f5 : over c p n = σ.ival 14 := by rw [e14, ← f4]; rfl
    have f6 : per p = σ.ival 20 := by rw [e20, e18, e19, cb]; rfl
    have hC : σ.ival 34 = tkC c p t n := by
      unfold tkC
      rw [f1, f2, f4, f5, f6, e34, e31, e28, e25, e4, e6, e11, e16, e22, e21, e13, e12]
      simp only [cd, cb]
    have hT : σ.ival 35 = tkT c p t n := by
      unfold tkT
      rw [f1, f2, f3, f4, e35, e32, e29, e26, e4, e6, e11, e16]
      simp only [cd, cb]
    have hK : σ.ival 36 = tkK c p t n := by
      unfold tkK
      rw [f1, f2, f4, f5, f6, e36, e33, e30, e27, e4, e6, e11, e16, e24, e23]
      simp only [cd, cb]
    refine ⟨fun _ => ?_, fun _ => ?_⟩
    · exact ⟨fun _ => trivial, fun _ => ⟨fun _ => trivial, fun _ => ⟨fun _ => trivial, fun _ => ⟨fun _ => trivial, fun _ => ⟨fun h => absurd h n20, fun _ => trivial⟩⟩⟩⟩⟩
    · have kC : IntKind.u16.wrap (tkC c p t n) = tkC c p t n := by
        unfold tkC; split <;> (try split) <;> (try split) <;> (try split) <;> first | exact w0 | exact wrap_wrap _ _ | rfl
      have kT : IntKind.u16.wrap (tkT c p t n) = tkT c p t n := by
        unfold tkT; split <;> (try split) <;> (try split) <;> (try split) <;> first | exact w2 | (unfold drop1; exact wrap_wrap _ _)
      have kK : IntKind.i64.wrap (tkK c p t n) = tkK c p t n := by
        unfold tkK; split <;> (try split) <;> (try split) <;> (try split) <;> first | rfl | exact wrap_wrap _ _
      refine ⟨⟨?_, ?_, ?_, trivial⟩, ?_, trivial⟩
      · show AVal.int .u16 (σ.ival 34) = .int .u16 (IntKind.u16.wrap (tkC c p t n)); rw [kC, hC]
      · show AVal.int .u16 (σ.ival 1) = .int .u16 (IntKind.u16.wrap p); rw [w1, i1]
      · show AVal.int .u16 (σ.ival 35) = .int .u16 (IntKind.u16.wrap (tkT c p t n)); rw [kT, hT]
      · show AVal.int .i64 (σ.ival 36) = .int .i64 (IntKind.i64.wrap (tkK c p t n)); rw [kK, hK])

def tqFs : Nat → List Int → List Int := fun _ => tkF
def tqTbl : List Ent := [⟨37, tkI, tkO, 0⟩]
theorem tq_all : ∀ e, e ∈ tqTbl → (cellsOf e.outs).length ≤ 64 ∧ FnOk Try.prog e.f e.ins e.outs (tqFs e.id) := by
  intro e he
  simp only [tqTbl, List.mem_singleton] at he
  subst he
  exact ⟨by decide, ticks_contract⟩

set_option maxRecDepth 100000 in
def tick41G : List SDef := [.fn 0 .u16 [.symi .u16 0, .symi .u16 1, .symi .u16 2, .int .i64 1],
  .fn 1 .u16 [.symi .u16 0, .symi .u16 1, .symi .u16 2, .int .i64 1],
  .fn 2 .u16 [.symi .u16 0, .symi .u16 1, .symi .u16 2, .int .i64 1],
  .fn 3 .i64 [.symi .u16 0, .symi .u16 1, .symi .u16 2, .int .i64 1],
  .bin .gtr (.symi .i64 6) (.int .i64 0)]

set_option maxRecDepth 100000 in
def tick41T : LT := .n (.n (.n (.e) 437999976 3 (.fn 0 .u16 [.symi .u16 0, .symi .u16 1, .symi .u16 2, .int .i64 1]) (.e)) 438000019 4 (.fn 1 .u16 [.symi .u16 0, .symi .u16 1, .symi .u16 2, .int .i64 1]) (.e)) 438000062 5 (.fn 2 .u16 [.symi .u16 0, .symi .u16 1, .symi .u16 2, .int .i64 1]) (.n (.n (.e) 438000105 6 (.fn 3 .i64 [.symi .u16 0, .symi .u16 1, .symi .u16 2, .int .i64 1]) (.e)) 606012240 7 (.bin .gtr (.symi .i64 6) (.int .i64 0)) (.e))

def tick41W : Wr' := .run (.leaf (.tuple [.agg [.symi .u16 3, .symi .u16 4, .symi .u16 5], .symb 7]))
def tick41X : Ing := { m := 3, ins := (cellsOf tickI).map kindC, G := tick41G, T := tick41T, hook := tblHook (tabOf tqFs) tqTbl, tab := tabOf tqFs }
theorem tick_ok : okG tick41G 3 = true := by kernel_rfl
theorem tick_lt : okLT 3 tick41G tick41T = true := by kernel_rfl
theorem tick_run : okW (fun F => (evD Try.prog (cxOf tick41X) true 1000 40).1 F 64 (symSh tickI 0) ⟨[], []⟩) tick41W [] = true := by kernel_rfl
theorem tick_contract : FnOk Try.prog 64 tickI tickO tickF :=
  fn_of_run (X := tick41X) (W := tick41W) mixed ⟨rfl, rfl, rfl, rfl, rfl⟩ tick_ok tick_lt (fun F => tbl_hooks tick_lt rfl rfl tq_all F) tick_run (fun l σ hl e ht hi _ => by
    match l, hl with
    | [c, p, t], hl =>
    obtain ⟨w0, w1, w2, _⟩ := hl
    have i0 : σ.ival 0 = c := hi 0 (by decide)
    have i1 : σ.ival 1 = p := hi 1 (by decide)
    have i2 : σ.ival 2 = t := hi 2 (by decide)
    have w0 : IntKind.u16.wrap c = c := w0
    have w1 : IntKind.u16.wrap p = p := w1
    have w2 : IntKind.u16.wrap t = t := w2
    have e3 : σ.ival 3 = IntKind.u16.wrap (σ.tab 0 [σ.ival 0, σ.ival 1, σ.ival 2, 1]) := eqI (e.at 0 _ rfl rfl) rfl
    have e4 : σ.ival 4 = IntKind.u16.wrap (σ.tab 1 [σ.ival 0, σ.ival 1, σ.ival 2, 1]) := eqI (e.at 1 _ rfl rfl) rfl
    have e5 : σ.ival 5 = IntKind.u16.wrap (σ.tab 2 [σ.ival 0, σ.ival 1, σ.ival 2, 1]) := eqI (e.at 2 _ rfl rfl) rfl
    have e6 : σ.ival 6 = IntKind.i64.wrap (σ.tab 3 [σ.ival 0, σ.ival 1, σ.ival 2, 1]) := eqI (e.at 3 _ rfl rfl) rfl
    have e7 : σ.bval 7 = decide (σ.ival 6 > 0) := eqB (e.at 4 _ rfl rfl) rfl
    rw [ht, i0, i1, i2] at e3 e4 e5 e6
    intro _
    refine ⟨⟨?_, ?_, ?_, trivial⟩, ?_, trivial⟩
    · show AVal.int .u16 (σ.ival 3) = _; rw [e3]; rfl
    · show AVal.int .u16 (σ.ival 4) = _; rw [e4]; rfl
    · show AVal.int .u16 (σ.ival 5) = _; rw [e5]; rfl
    · show AVal.bool (σ.bval 7) = .bool (!((if IntKind.i64.wrap (tkK c p t 1) > 0 then 1 else 0 : Int) == 0))
      rw [e7, e6]
      show AVal.bool (decide (IntKind.i64.wrap (tkK c p t 1) > 0)) = _
      by_cases h : IntKind.i64.wrap (tkK c p t 1) > 0
      · rw [if_pos h, decide_eq_true h]; rfl
      · rw [if_neg h, decide_eq_false h]; rfl)

set_option maxRecDepth 100000 in
def next37G : List SDef := [.bin .and (.symi .u16 2) (.int .u16 1),
  .bin .eql (.symi .u16 3) (.int .u16 0),
  .bin .sub (.symi .u16 1) (.symi .u16 0),
  .bin .sub (.symi .u16 5) (.int .u16 1),
  .conv .i64 (.symi .u16 6),
  .bin .add (.symi .i64 7) (.int .i64 1),
  .ite (.symb 4) (.int .i64 0) (.symi .i64 8)]

set_option maxRecDepth 100000 in
def next37T : LT := .n (.n (.n (.e) 101030641 5 (.bin .sub (.symi .u16 1) (.symi .u16 0)) (.e)) 202060993 3 (.bin .and (.symi .u16 2) (.int .u16 1)) (.n (.e) 303011303 4 (.bin .eql (.symi .u16 3) (.int .u16 0)) (.e))) 505061874 6 (.bin .sub (.symi .u16 5) (.int .u16 1)) (.n (.n (.e) 618002186 7 (.conv .i64 (.symi .u16 6)) (.e)) 690281781 9 (.ite (.symb 4) (.int .i64 0) (.symi .i64 8)) (.n (.e) 707062473 8 (.bin .add (.symi .i64 7) (.int .i64 1)) (.e)))

def next37W : Wr' := .run (.leaf (.symi .i64 9))
def next37X : Ing := { m := 3, ins := (cellsOf tickI).map kindC, G := next37G, T := next37T }
theorem next_ok : okG next37G 3 = true := by kernel_rfl
theorem next_lt : okLT 3 next37G next37T = true := by kernel_rfl
theorem next_run : okW (fun F => (evD Try.prog (cxOf next37X) true 1000 40).1 F 67 (symSh tickI 0) ⟨[], []⟩) next37W [] = true := by kernel_rfl
theorem next_contract : FnOk Try.prog 67 tickI [.one (.i .i64)] nextF :=
  fn_of_run (X := next37X) (W := next37W) mixed ⟨rfl, rfl, rfl, rfl, rfl⟩ next_ok next_lt (fun F => no_hooks rfl F) next_run (fun l σ hl e ht hi _ => by
    match l, hl with
    | [c, p, t], hl =>
    obtain ⟨w0, w1, w2, _⟩ := hl
    have i0 : σ.ival 0 = c := hi 0 (by decide)
    have i1 : σ.ival 1 = p := hi 1 (by decide)
    have i2 : σ.ival 2 = t := hi 2 (by decide)
    have w0 : IntKind.u16.wrap c = c := w0
    have w1 : IntKind.u16.wrap p = p := w1
    have w2 : IntKind.u16.wrap t = t := w2
    have e3 : σ.ival 3 = IntKind.u16.wrap (BitVec.ofInt IntKind.u16.bits (σ.ival 2) &&& BitVec.ofInt IntKind.u16.bits (1)).toNat := eqI (e.at 0 _ rfl rfl) rfl
    have e4 : σ.bval 4 = (σ.ival 3 == 0) := eqB (e.at 1 _ rfl rfl) rfl
    have e5 : σ.ival 5 = IntKind.u16.wrap (σ.ival 1 - σ.ival 0) := eqI (e.at 2 _ rfl rfl) rfl
    have e6 : σ.ival 6 = IntKind.u16.wrap (σ.ival 5 - 1) := eqI (e.at 3 _ rfl rfl) rfl
    have e7 : σ.ival 7 = IntKind.i64.wrap (σ.ival 6) := eqI (e.at 4 _ rfl rfl) rfl
    have e8 : σ.ival 8 = IntKind.i64.wrap (σ.ival 7 + 1) := eqI (e.at 5 _ rfl rfl) rfl
    have e9 : σ.ival 9 = (bif σ.bval 4 then 0 else σ.ival 8) := eqIteI (e.at 6 _ rfl rfl) rfl rfl rfl
    rw [i2] at e3
    rw [i1, i0] at e5
    intro _
    refine ⟨?_, trivial⟩
    have f4 : first c p = σ.ival 8 := by rw [e8, e7, e6, e5]; rfl
    have h : σ.ival 9 = nxt c p t := by unfold nxt; rw [e9, e4, e3, cb, ← f4]; rfl
    have hw : IntKind.i64.wrap (nxt c p t) = nxt c p t := by unfold nxt; split <;> first | rfl | exact wrap_wrap _ _
    show AVal.int .i64 (σ.ival 9) = .int .i64 (IntKind.i64.wrap (nxt c p t))
    rw [hw, h])

set_option maxRecDepth 100000 in
def rtick42G : List SDef := [.bin .rem (.symi .u16 2) (.int .u16 2),
  .bin .eql (.symi .u16 3) (.int .u16 0),
  .conv .i64 (.symi .u16 0),
  .bin .add (.symi .i64 5) (.int .i64 1),
  .bin .rem (.symi .i64 6) (.int .i64 65536),
  .conv .u16 (.symi .i64 7),
  .bin .neq (.symi .u16 8) (.symi .u16 1),
  .bin .quo (.symi .u16 2) (.int .u16 2),
  .bin .rem (.symi .u16 10) (.int .u16 2),
  .bin .eql (.symi .u16 11) (.int .u16 0),
  .bin .sub (.symi .u16 2) (.int .u16 1),
  .ite (.symb 12) (.symi .u16 13) (.symi .u16 2),
  .ite (.symb 9) (.symi .u16 8) (.int .u16 0),
  .ite (.symb 9) (.symi .u16 2) (.symi .u16 14),
  .un .not (.symb 9),
  .ite (.symb 4) (.symi .u16 0) (.symi .u16 15),
  .ite (.symb 4) (.symi .u16 2) (.symi .u16 16),
  .ite (.symb 4) (.bool false) (.symb 17)]

set_option maxRecDepth 100000 in
def rtick42T : LT := .n (.n (.n (.n (.n (.e) 332 5 (.conv .i64 (.symi .u16 0)) (.e)) 37271900 12 (.bin .eql (.symi .u16 11) (.int .u16 0)) (.e)) 48802943 19 (.ite (.symb 4) (.symi .u16 2) (.symi .u16 16)) (.n (.e) 77644590 9 (.bin .neq (.symi .u16 8) (.symi .u16 1)) (.e))) 202060965 13 (.bin .sub (.symi .u16 2) (.int .u16 1)) (.n (.n (.n (.e) 202111014 10 (.bin .quo (.symi .u16 2) (.int .u16 2)) (.e)) 202111021 3 (.bin .rem (.symi .u16 2) (.int .u16 2)) (.e)) 295562837 15 (.ite (.symb 9) (.symi .u16 8) (.int .u16 0)) (.n (.e) 303011303 4 (.bin .eql (.symi .u16 3) (.int .u16 0)) (.e)))) 441824972 16 (.ite (.symb 9) (.symi .u16 2) (.symi .u16 14)) (.n (.n (.n (.n (.e) 505061867 6 (.bin .add (.symi .i64 5) (.int .i64 1)) (.e)) 663880442 7 (.bin .rem (.symi .i64 6) (.int .i64 65536)) (.e)) 673543423 18 (.ite (.symb 4) (.symi .u16 0) (.symi .u16 15)) (.n (.e) 685838214 14 (.ite (.symb 12) (.symi .u16 13) (.symi .u16 2)) (.e))) 721002495 8 (.conv .u16 (.symi .i64 7)) (.n (.n (.e) 909030723 17 (.un .not (.symb 9)) (.e)) 975624029 20 (.ite (.symb 4) (.bool false) (.symb 17)) (.n (.e) 1010113445 11 (.bin .rem (.symi .u16 10) (.int .u16 2)) (.e))))

def rtick42W : Wr' := .run (.leaf (.tuple [.agg [.symi .u16 18, .symi .u16 1, .symi .u16 19], .symb 20]))
def rtick42X : Ing := { m := 3, ins := (cellsOf tickI).map kindC, G := rtick42G, T := rtick42T }
theorem rtick_ok : okG rtick42G 3 = true := by kernel_rfl
theorem rtick_lt : okLT 3 rtick42G rtick42T = true := by kernel_rfl
theorem rtick_run : okW (fun F => (evD Try.prog (cxOf rtick42X) true 1000 40).1 F 95 (symSh tickI 0) ⟨[], []⟩) rtick42W [] = true := by kernel_rfl
theorem rtick_contract : FnOk Try.prog 95 tickI tickO tickF :=
  fn_of_run (X := rtick42X) (W := rtick42W) mixed ⟨rfl, rfl, rfl, rfl, rfl⟩ rtick_ok rtick_lt (fun F => no_hooks rfl F) rtick_run (fun l σ hl e ht hi _ => by
    match l, hl with
    | [c, p, t], hl =>
    obtain ⟨w0, w1, w2, _⟩ := hl
    have i0 : σ.ival 0 = c := hi 0 (by decide)
    have i1 : σ.ival 1 = p := hi 1 (by decide)
    have i2 : σ.ival 2 = t := hi 2 (by decide)
    have w0 : IntKind.u16.wrap c = c := w0
    have w1 : IntKind.u16.wrap p = p := w1
    have w2 : IntKind.u16.wrap t = t := w2
    have e3 : σ.ival 3 = ((σ.ival 2 : Int).tmod 2) := eqI (e.at 0 _ rfl rfl) rfl
    have e4 : σ.bval 4 = (σ.ival 3 == 0) := eqB (e.at 1 _ rfl rfl) rfl
    have e5 : σ.ival 5 = IntKind.i64.wrap (σ.ival 0) := eqI (e.at 2 _ rfl rfl) rfl
    have e6 : σ.ival 6 = IntKind.i64.wrap (σ.ival 5 + 1) := eqI (e.at 3 _ rfl rfl) rfl
    have e7 : σ.ival 7 = ((σ.ival 6 : Int).tmod 65536) := eqI (e.at 4 _ rfl rfl) rfl
    have e8 : σ.ival 8 = IntKind.u16.wrap (σ.ival 7) := eqI (e.at 5 _ rfl rfl) rfl
    have e9 : σ.bval 9 = (σ.ival 8 != σ.ival 1) := eqB (e.at 6 _ rfl rfl) rfl
    have e10 : σ.ival 10 = IntKind.u16.wrap ((σ.ival 2 : Int).tdiv 2) := eqI (e.at 7 _ rfl rfl) rfl
    have e11 : σ.ival 11 = ((σ.ival 10 : Int).tmod 2) := eqI (e.at 8 _ rfl rfl) rfl
    have e12 : σ.bval 12 = (σ.ival 11 == 0) := eqB (e.at 9 _ rfl rfl) rfl
    have e13 : σ.ival 13 = IntKind.u16.wrap (σ.ival 2 - 1) := eqI (e.at 10 _ rfl rfl) rfl
    have e14 : σ.ival 14 = (bif σ.bval 12 then σ.ival 13 else σ.ival 2) := eqIteI (e.at 11 _ rfl rfl) rfl rfl rfl
    have e15 : σ.ival 15 = (bif σ.bval 9 then σ.ival 8 else 0) := eqIteI (e.at 12 _ rfl rfl) rfl rfl rfl
    have e16 : σ.ival 16 = (bif σ.bval 9 then σ.ival 2 else σ.ival 14) := eqIteI (e.at 13 _ rfl rfl) rfl rfl rfl
    have e17 : σ.bval 17 = (!σ.bval 9) := eqB (e.at 14 _ rfl rfl) rfl
    have e18 : σ.ival 18 = (bif σ.bval 4 then σ.ival 0 else σ.ival 15) := eqIteI (e.at 15 _ rfl rfl) rfl rfl rfl
    have e19 : σ.ival 19 = (bif σ.bval 4 then σ.ival 2 else σ.ival 16) := eqIteI (e.at 16 _ rfl rfl) rfl rfl rfl
    have e20 : σ.bval 20 = (bif σ.bval 4 then false else σ.bval 17) := eqIteB (e.at 17 _ rfl rfl) rfl rfl rfl
    rw [i0] at e5 e18
    rw [i1] at e9
    rw [i2] at e3 e10 e13 e14 e16 e19
    obtain ⟨c0, c1⟩ := u16_range w0
    obtain ⟨p0, p1⟩ := u16_range w1
    obtain ⟨t0, t1⟩ := u16_range w2
    obtain ⟨a1, a2, a3⟩ := tk_all (t := t) (n := 1) c0 c1 p0 p1 (by decide) (by decide)
    have k1 : low1 t = t % 2 := low1_nice
    have k2 : low2 t = 2 * (t / 2 % 2) := low2_nice
    have k3 : drop1 t = t - t % 2 := drop1_nice t0 t1
    obtain ⟨q0, q1⟩ := q_pos p0 p1
    have g3 : σ.ival 3 = t % 2 := by rw [e3]; exact Int.tmod_eq_emod_of_nonneg t0
    have g8 : σ.ival 8 = (c + 1) % 65536 := by
      have h5 : σ.ival 5 = c := by rw [e5]; simp [IntKind.wrap, IntKind.bits, IntKind.signed]; omega
      have h6 : σ.ival 6 = c + 1 := by rw [e6, h5]; simp [IntKind.wrap, IntKind.bits, IntKind.signed]; omega
      have h7 : σ.ival 7 = (c + 1) % 65536 := by rw [e7, h6]; exact Int.tmod_eq_emod_of_nonneg (by omega)
      rw [e8, h7]; simp [IntKind.wrap, IntKind.bits, IntKind.signed]
    have g11 : σ.ival 11 = t / 2 % 2 := by
      have h10 : σ.ival 10 = t / 2 := by rw [e10, Int.tdiv_eq_ediv_of_nonneg t0]; simp [IntKind.wrap, IntKind.bits, IntKind.signed]; omega
      rw [e11, h10]; exact Int.tmod_eq_emod_of_nonneg (by omega)
    have g13 : 1 ≤ t → σ.ival 13 = t - 1 := by intro h; rw [e13]; simp [IntKind.wrap, IntKind.bits, IntKind.signed]; omega
    have hF : F c p = (p - c - 1) % 65536 + 1 := rfl
    have key : σ.ival 18 = tkC c p t 1 ∧ σ.ival 19 = tkT c p t 1 ∧ σ.bval 20 = decide (IntKind.i64.wrap (tkK c p t 1) > 0) := by
      by_cases l1 : t % 2 = 0
      · obtain ⟨x1, x2, x3⟩ := a1 (by rw [k1]; exact l1)
        have b4 : σ.bval 4 = true := by rw [e4, g3, l1]; rfl
        rw [x1, x2, x3, e18, e19, e20, b4]
        exact ⟨rfl, rfl, by show false = decide (IntKind.i64.wrap 0 > 0); decide⟩
      · have b4 : σ.bval 4 = false := by rw [e4, g3]; simpa using l1
        rw [e18, e19, e20, b4, e15, e16, e17, e14]
        have b9 : σ.bval 9 = ((c + 1) % 65536 != p) := by rw [e9, g8]
        by_cases hp : (c + 1) % 65536 = p
        · have b9' : σ.bval 9 = false := by rw [b9, hp]; simp
          have hf : F c p = 1 := by rw [hF]; omega
          rw [b9']
          by_cases l2 : t / 2 % 2 = 0
          · obtain ⟨x1, x2, x3⟩ := a2 (by rw [k1]; exact l1) (by rw [k2, l2]; rfl)
            have b12 : σ.bval 12 = true := by rw [e12, g11, l2]; rfl
            rw [x1, x2, x3, b12, hf, k3, if_neg (by decide), if_neg (by decide), if_neg (by decide)]
            refine ⟨rfl, ?_, by decide⟩
            show σ.ival 13 = _
            rw [g13 (by omega)]; omega
          · obtain ⟨x1, x2, x3⟩ := a3 (by rw [k1]; exact l1) (by rw [k2]; omega)
            have b12 : σ.bval 12 = false := by rw [e12, g11]; simpa using l2
            rw [x1, x2, x3, b12, hf, if_neg (by decide), if_neg (by decide)]
            refine ⟨?_, rfl, ?_⟩
            · show (0 : Int) = _; simp
            · show true = _; simp; decide
        · have b9' : σ.bval 9 = true := by rw [b9]; simpa using hp
          have hf : 1 < F c p := by rw [hF]; omega
          rw [b9']
          by_cases l2 : t / 2 % 2 = 0
          · obtain ⟨x1, x2, x3⟩ := a2 (by rw [k1]; exact l1) (by rw [k2, l2]; rfl)
            rw [x1, x2, x3, if_pos hf, if_pos hf, if_pos hf]
            exact ⟨g8, rfl, by decide⟩
          · obtain ⟨x1, x2, x3⟩ := a3 (by rw [k1]; exact l1) (by rw [k2]; omega)
            rw [x1, x2, x3, if_pos hf, if_pos hf]
            exact ⟨g8, rfl, by decide⟩
    obtain ⟨h1, h2, h3⟩ := key
    have r := tkC_range (t := t) (n := 1) c0 c1 p0 p1 (by decide) (by decide)
    intro _
    refine ⟨⟨?_, ?_, ?_, trivial⟩, ?_, trivial⟩
    · show AVal.int .u16 (σ.ival 18) = .int .u16 (IntKind.u16.wrap (tkC c p t 1)); rw [h1, wrap16_of r.1 r.2]
    · show AVal.int .u16 (σ.ival 1) = .int .u16 (IntKind.u16.wrap p); rw [i1, w1]
    · show AVal.int .u16 (σ.ival 19) = .int .u16 (IntKind.u16.wrap (tkT c p t 1))
      have kT : IntKind.u16.wrap (tkT c p t 1) = tkT c p t 1 := by
        unfold tkT; split <;> (try split) <;> (try split) <;> (try split) <;> first | exact w2 | (unfold drop1; exact wrap_wrap _ _)
      rw [h2, kT]
    · show AVal.bool (σ.bval 20) = .bool (!((if IntKind.i64.wrap (tkK c p t 1) > 0 then 1 else 0 : Int) == 0))
      rw [h3]
      by_cases h : IntKind.i64.wrap (tkK c p t 1) > 0
      · rw [if_pos h, decide_eq_true h]; rfl
      · rw [if_neg h, decide_eq_false h]; rfl)

theorem wrC {c p t n : Int} (w : IntKind.u16.wrap c = c) : IntKind.u16.wrap (tkC c p t n) = tkC c p t n := by
  unfold tkC; split <;> (try split) <;> (try split) <;> (try split) <;> first | exact w | exact wrap_wrap _ _ | rfl
theorem wrT {c p t n : Int} (w : IntKind.u16.wrap t = t) : IntKind.u16.wrap (tkT c p t n) = tkT c p t n := by
  unfold tkT; split <;> (try split) <;> (try split) <;> (try split) <;> first | exact w | (unfold drop1; exact wrap_wrap _ _)
theorem wrK {c p t n : Int} : IntKind.i64.wrap (tkK c p t n) = tkK c p t n := by
  unfold tkK; split <;> (try split) <;> (try split) <;> (try split) <;> first | rfl | exact wrap_wrap _ _
theorem i64_range {n : Int} (h : IntKind.i64.wrap n = n) : -9223372036854775808 ≤ n ∧ n ≤ 9223372036854775807 := by
  simp [IntKind.wrap, IntKind.bits, IntKind.signed] at h; omega
theorem w64 {n : Int} (h0 : -9223372036854775808 ≤ n) (h1 : n ≤ 9223372036854775807) : IntKind.i64.wrap n = n := by
  simp [IntKind.wrap, IntKind.bits, IntKind.signed]; omega
/-- what one tick asks -/
theorem one_K {c p t : Int} (c0 : 0 ≤ c) (c1 : c ≤ 65535) (p0 : 0 ≤ p) (p1 : p ≤ 65535) : tkK c p t 1 = 0 ∨ tkK c p t 1 = 1 := by
  obtain ⟨a1, a2, a3⟩ := tk_all (t := t) (n := 1) c0 c1 p0 p1 (by decide) (by decide)
  obtain ⟨f0, f1⟩ := F_pos c p
  by_cases l1 : low1 t = 0
  · exact .inl (a1 l1).2.2
  · by_cases l2 : low2 t = 0
    · rw [(a2 l1 l2).2.2]; split <;> simp
    · rw [(a3 l1 l2).2.2]
      split
      · simp
      · rw [show (1 : Int) - F c p = 0 by omega]; simp

theorem tk0 (c p t : Int) : tkC c p t 0 = c ∧ tkT c p t 0 = t ∧ tkK c p t 0 = 0 := ⟨rfl, rfl, rfl⟩
end Go.Proofs.Ytgifnmiggloclab.tq
