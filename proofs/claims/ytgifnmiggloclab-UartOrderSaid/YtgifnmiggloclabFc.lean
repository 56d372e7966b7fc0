/-
  The contracts of fifo.Mend, Push, Pop, and of ploverref10's: what they make of a queue's numbers.
  No conditions.
-/
import Derived.Test.YtgifnmiggloclabChecked
import Derived.Test.YtgifnmiggloclabEwY
import Derived.ProofKit
namespace Go.Proofs.Ytgifnmiggloclab.fc
open Go.RowKit Go.Ev
set_option linter.unusedVariables false
set_option linter.unusedSimpArgs false

theorem mixed : Try.prog.follows .mixedOrders = true := Checked.mixed Try.checked

def q9 : List Sh := [.agg [.i .i64, .i .u8, .i .u8, .i .u8, .i .u8, .i .u8, .i .u8, .i .u8, .i .u8]]
def q9b : List Sh := [.agg [.i .i64, .i .u8, .i .u8, .i .u8, .i .u8, .i .u8, .i .u8, .i .u8, .i .u8], .one (.i .u8)]
def pushO : List Sh := [.agg [.i .i64, .i .u8, .i .u8, .i .u8, .i .u8, .i .u8, .i .u8, .i .u8, .i .u8], .one .b]
def popO : List Sh := [.one (.i .u8), .agg [.i .i64, .i .u8, .i .u8, .i .u8, .i .u8, .i .u8, .i .u8, .i .u8, .i .u8], .one .b]

/-- how many bytes a queue has -/
def clamp (n : Int) : Int := if n ≤ 0 then 0 else if 8 ≤ n then 8 else n
theorem clamp_in (n : Int) : 0 ≤ clamp n ∧ clamp n ≤ 8 := by unfold clamp; split <;> (try split) <;> omega
def qk (l : List Int) : Int := clamp (l.getD 0 0)
def qb (l : List Int) (i : Nat) : Int := if (i : Int) < qk l then l.getD (i + 1) 0 else 0
/-- its i-th byte, with b behind the last one -/
def qp (l : List Int) (b : Int) (i : Nat) : Int := if (i : Int) = qk l then b else qb l i
def mendF (l : List Int) : List Int := [qk l, qb l 0, qb l 1, qb l 2, qb l 3, qb l 4, qb l 5, qb l 6, qb l 7]
def pushF (l : List Int) : List Int := if qk l = 8 then [8, qb l 0, qb l 1, qb l 2, qb l 3, qb l 4, qb l 5, qb l 6, qb l 7, 0]
  else [qk l + 1, qp l (l.getD 9 0) 0, qp l (l.getD 9 0) 1, qp l (l.getD 9 0) 2, qp l (l.getD 9 0) 3, qp l (l.getD 9 0) 4, qp l (l.getD 9 0) 5, qp l (l.getD 9 0) 6, qp l (l.getD 9 0) 7, 1]
def popF (l : List Int) : List Int := if qk l = 0 then [0, 0, 0, 0, 0, 0, 0, 0, 0, 0, 0] else [qb l 0, qk l - 1, qb l 1, qb l 2, qb l 3, qb l 4, qb l 5, qb l 6, qb l 7, 0, 1]

set_option maxRecDepth 100000 in
def fmendG : List SDef := [.low [.symi .i64 0, .int .i64 8],
  .high [.int .i64 0, .symi .i64 9]]

set_option maxRecDepth 100000 in
def fmendT : LT := .n (.n (.e) 239174 9 (.low [.symi .i64 0, .int .i64 8]) (.e)) 346435103 10 (.high [.int .i64 0, .symi .i64 9]) (.e)

set_option maxRecDepth 100000 in
def fmendW : Wr' := .pick 10 0 (.run (.leaf (.agg [.int .i64 0, .int .u8 0, .int .u8 0, .int .u8 0, .int .u8 0, .int .u8 0, .int .u8 0, .int .u8 0, .int .u8 0]))) (.pick 10 1 (.run (.leaf (.agg [.int .i64 1, .symi .u8 1, .int .u8 0, .int .u8 0, .int .u8 0, .int .u8 0, .int .u8 0, .int .u8 0, .int .u8 0]))) (.pick 10 2 (.run (.leaf (.agg [.int .i64 2, .symi .u8 1, .symi .u8 2, .int .u8 0, .int .u8 0, .int .u8 0, .int .u8 0, .int .u8 0, .int .u8 0]))) (.pick 10 3 (.run (.leaf (.agg [.int .i64 3, .symi .u8 1, .symi .u8 2, .symi .u8 3, .int .u8 0, .int .u8 0, .int .u8 0, .int .u8 0, .int .u8 0]))) (.pick 10 4 (.run (.leaf (.agg [.int .i64 4, .symi .u8 1, .symi .u8 2, .symi .u8 3, .symi .u8 4, .int .u8 0, .int .u8 0, .int .u8 0, .int .u8 0]))) (.pick 10 5 (.run (.leaf (.agg [.int .i64 5, .symi .u8 1, .symi .u8 2, .symi .u8 3, .symi .u8 4, .symi .u8 5, .int .u8 0, .int .u8 0, .int .u8 0]))) (.pick 10 6 (.run (.leaf (.agg [.int .i64 6, .symi .u8 1, .symi .u8 2, .symi .u8 3, .symi .u8 4, .symi .u8 5, .symi .u8 6, .int .u8 0, .int .u8 0]))) (.pick 10 7 (.run (.leaf (.agg [.int .i64 7, .symi .u8 1, .symi .u8 2, .symi .u8 3, .symi .u8 4, .symi .u8 5, .symi .u8 6, .symi .u8 7, .int .u8 0]))) (.pick 10 8 (.run (.leaf (.agg [.int .i64 8, .symi .u8 1, .symi .u8 2, .symi .u8 3, .symi .u8 4, .symi .u8 5, .symi .u8 6, .symi .u8 7, .symi .u8 8]))) (.dead)))))))))
def fmendX : Ing := { m := 9, ins := (cellsOf q9).map kindC, G := fmendG, T := fmendT }
theorem fmend_ok : okG fmendG 9 = true := by kernel_rfl
theorem fmend_lt : okLT 9 fmendG fmendT = true := by kernel_rfl
theorem fmend_run : okW (fun F => (evD Try.prog (cxOf fmendX) true 1000 40).1 F 54 (symSh q9 0) ⟨[], []⟩) fmendW [] = true := by kernel_rfl
set_option maxRecDepth 100000 in
theorem fmend_contract : FnOk Try.prog 54 q9 q9 mendF :=
  fn_of_run (X := fmendX) (W := fmendW) mixed ⟨rfl, rfl, rfl, rfl, rfl⟩ fmend_ok fmend_lt (fun F => no_hooks rfl F) fmend_run (fun l σ hl e _ hi _ => by
    match l, hl with
    | [a0, a1, a2, a3, a4, a5, a6, a7, a8], hl =>
    obtain ⟨w0, w1, w2, w3, w4, w5, w6, w7, w8, _⟩ := hl
    have v0 : σ.ival 0 = a0 := hi 0 (by decide)
    replace w0 : IntKind.i64.wrap a0 = a0 := w0
    have v1 : σ.ival 1 = a1 := hi 1 (by decide)
    replace w1 : IntKind.u8.wrap a1 = a1 := w1
    have v2 : σ.ival 2 = a2 := hi 2 (by decide)
    replace w2 : IntKind.u8.wrap a2 = a2 := w2
    have v3 : σ.ival 3 = a3 := hi 3 (by decide)
    replace w3 : IntKind.u8.wrap a3 = a3 := w3
    have v4 : σ.ival 4 = a4 := hi 4 (by decide)
    replace w4 : IntKind.u8.wrap a4 = a4 := w4
    have v5 : σ.ival 5 = a5 := hi 5 (by decide)
    replace w5 : IntKind.u8.wrap a5 = a5 := w5
    have v6 : σ.ival 6 = a6 := hi 6 (by decide)
    replace w6 : IntKind.u8.wrap a6 = a6 := w6
    have v7 : σ.ival 7 = a7 := hi 7 (by decide)
    replace w7 : IntKind.u8.wrap a7 = a7 := w7
    have v8 : σ.ival 8 = a8 := hi 8 (by decide)
    replace w8 : IntKind.u8.wrap a8 = a8 := w8
    have e9 : σ.ival 9 = (if 8 < σ.ival 0 then 8 else σ.ival 0) := eqI (e.at 0 _ rfl rfl) rfl
    have e10 : σ.ival 10 = (if σ.ival 9 > 0 then σ.ival 9 else 0) := eqI (e.at 1 _ rfl rfl) rfl
    have hc : clamp a0 = σ.ival 10 := by rw [e10, e9, v0]; unfold clamp; split <;> split <;> split <;> (try split) <;> omega
    exact ⟨(fun hF => by
      have hq : clamp a0 = 0 := hc.trans hF.1
      simp only [mendF, qk, qb, List.getD_cons_zero, List.getD_cons_succ, hq]
      simp only [OutOk, OutSh, OutCs, den, denC, List.headD_cons, List.tail_cons, List.drop_succ_cons, List.drop_zero, List.length_cons, List.length_nil, v0, v1, v2, v3, v4, v5, v6, v7, v8]
      repeat' apply And.intro
      all_goals first | rfl | trivial | (simp only [den, denC, v0, v1, v2, v3, v4, v5, v6, v7, v8, w0, w1, w2, w3, w4, w5, w6, w7, w8]; done) | (simp [den, denC, v0, v1, v2, v3, v4, v5, v6, v7, v8, w0, w1, w2, w3, w4, w5, w6, w7, w8]; done)),
    ⟨(fun hF => by
      have hq : clamp a0 = 1 := hc.trans hF.1
      simp only [mendF, qk, qb, List.getD_cons_zero, List.getD_cons_succ, hq]
      simp only [OutOk, OutSh, OutCs, den, denC, List.headD_cons, List.tail_cons, List.drop_succ_cons, List.drop_zero, List.length_cons, List.length_nil, v0, v1, v2, v3, v4, v5, v6, v7, v8]
      repeat' apply And.intro
      all_goals first | rfl | trivial | (simp only [den, denC, v0, v1, v2, v3, v4, v5, v6, v7, v8, w0, w1, w2, w3, w4, w5, w6, w7, w8]; done) | (simp [den, denC, v0, v1, v2, v3, v4, v5, v6, v7, v8, w0, w1, w2, w3, w4, w5, w6, w7, w8]; done)),
    ⟨(fun hF => by
      have hq : clamp a0 = 2 := hc.trans hF.1
      simp only [mendF, qk, qb, List.getD_cons_zero, List.getD_cons_succ, hq]
      simp only [OutOk, OutSh, OutCs, den, denC, List.headD_cons, List.tail_cons, List.drop_succ_cons, List.drop_zero, List.length_cons, List.length_nil, v0, v1, v2, v3, v4, v5, v6, v7, v8]
      repeat' apply And.intro
      all_goals first | rfl | trivial | (simp only [den, denC, v0, v1, v2, v3, v4, v5, v6, v7, v8, w0, w1, w2, w3, w4, w5, w6, w7, w8]; done) | (simp [den, denC, v0, v1, v2, v3, v4, v5, v6, v7, v8, w0, w1, w2, w3, w4, w5, w6, w7, w8]; done)),
    ⟨(fun hF => by
      have hq : clamp a0 = 3 := hc.trans hF.1
      simp only [mendF, qk, qb, List.getD_cons_zero, List.getD_cons_succ, hq]
      simp only [OutOk, OutSh, OutCs, den, denC, List.headD_cons, List.tail_cons, List.drop_succ_cons, List.drop_zero, List.length_cons, List.length_nil, v0, v1, v2, v3, v4, v5, v6, v7, v8]
      repeat' apply And.intro
      all_goals first | rfl | trivial | (simp only [den, denC, v0, v1, v2, v3, v4, v5, v6, v7, v8, w0, w1, w2, w3, w4, w5, w6, w7, w8]; done) | (simp [den, denC, v0, v1, v2, v3, v4, v5, v6, v7, v8, w0, w1, w2, w3, w4, w5, w6, w7, w8]; done)),
    ⟨(fun hF => by
      have hq : clamp a0 = 4 := hc.trans hF.1
      simp only [mendF, qk, qb, List.getD_cons_zero, List.getD_cons_succ, hq]
      simp only [OutOk, OutSh, OutCs, den, denC, List.headD_cons, List.tail_cons, List.drop_succ_cons, List.drop_zero, List.length_cons, List.length_nil, v0, v1, v2, v3, v4, v5, v6, v7, v8]
      repeat' apply And.intro
      all_goals first | rfl | trivial | (simp only [den, denC, v0, v1, v2, v3, v4, v5, v6, v7, v8, w0, w1, w2, w3, w4, w5, w6, w7, w8]; done) | (simp [den, denC, v0, v1, v2, v3, v4, v5, v6, v7, v8, w0, w1, w2, w3, w4, w5, w6, w7, w8]; done)),
    ⟨(fun hF => by
      have hq : clamp a0 = 5 := hc.trans hF.1
      simp only [mendF, qk, qb, List.getD_cons_zero, List.getD_cons_succ, hq]
      simp only [OutOk, OutSh, OutCs, den, denC, List.headD_cons, List.tail_cons, List.drop_succ_cons, List.drop_zero, List.length_cons, List.length_nil, v0, v1, v2, v3, v4, v5, v6, v7, v8]
      repeat' apply And.intro
      all_goals first | rfl | trivial | (simp only [den, denC, v0, v1, v2, v3, v4, v5, v6, v7, v8, w0, w1, w2, w3, w4, w5, w6, w7, w8]; done) | (simp [den, denC, v0, v1, v2, v3, v4, v5, v6, v7, v8, w0, w1, w2, w3, w4, w5, w6, w7, w8]; done)),
    ⟨(fun hF => by
      have hq : clamp a0 = 6 := hc.trans hF.1
      simp only [mendF, qk, qb, List.getD_cons_zero, List.getD_cons_succ, hq]
      simp only [OutOk, OutSh, OutCs, den, denC, List.headD_cons, List.tail_cons, List.drop_succ_cons, List.drop_zero, List.length_cons, List.length_nil, v0, v1, v2, v3, v4, v5, v6, v7, v8]
      repeat' apply And.intro
      all_goals first | rfl | trivial | (simp only [den, denC, v0, v1, v2, v3, v4, v5, v6, v7, v8, w0, w1, w2, w3, w4, w5, w6, w7, w8]; done) | (simp [den, denC, v0, v1, v2, v3, v4, v5, v6, v7, v8, w0, w1, w2, w3, w4, w5, w6, w7, w8]; done)),
    ⟨(fun hF => by
      have hq : clamp a0 = 7 := hc.trans hF.1
      simp only [mendF, qk, qb, List.getD_cons_zero, List.getD_cons_succ, hq]
      simp only [OutOk, OutSh, OutCs, den, denC, List.headD_cons, List.tail_cons, List.drop_succ_cons, List.drop_zero, List.length_cons, List.length_nil, v0, v1, v2, v3, v4, v5, v6, v7, v8]
      repeat' apply And.intro
      all_goals first | rfl | trivial | (simp only [den, denC, v0, v1, v2, v3, v4, v5, v6, v7, v8, w0, w1, w2, w3, w4, w5, w6, w7, w8]; done) | (simp [den, denC, v0, v1, v2, v3, v4, v5, v6, v7, v8, w0, w1, w2, w3, w4, w5, w6, w7, w8]; done)),
    ⟨(fun hF => by
      have hq : clamp a0 = 8 := hc.trans hF.1
      simp only [mendF, qk, qb, List.getD_cons_zero, List.getD_cons_succ, hq]
      simp only [OutOk, OutSh, OutCs, den, denC, List.headD_cons, List.tail_cons, List.drop_succ_cons, List.drop_zero, List.length_cons, List.length_nil, v0, v1, v2, v3, v4, v5, v6, v7, v8]
      repeat' apply And.intro
      all_goals first | rfl | trivial | (simp only [den, denC, v0, v1, v2, v3, v4, v5, v6, v7, v8, w0, w1, w2, w3, w4, w5, w6, w7, w8]; done) | (simp [den, denC, v0, v1, v2, v3, v4, v5, v6, v7, v8, w0, w1, w2, w3, w4, w5, w6, w7, w8]; done)),
    (fun hF => by
      simp only [Holds, Fact.holds, ← hc, and_true] at hF
      have := clamp_in a0
      omega)⟩⟩⟩⟩⟩⟩⟩⟩⟩)

set_option maxRecDepth 100000 in
def rmendG : List SDef := [.bin .lss (.int .i64 0) (.symi .i64 0),
  .bin .lss (.int .i64 1) (.symi .i64 0),
  .bin .lss (.int .i64 2) (.symi .i64 0),
  .bin .lss (.int .i64 3) (.symi .i64 0),
  .bin .lss (.int .i64 4) (.symi .i64 0),
  .bin .lss (.int .i64 5) (.symi .i64 0),
  .bin .lss (.int .i64 6) (.symi .i64 0),
  .bin .lss (.int .i64 7) (.symi .i64 0)]

set_option maxRecDepth 100000 in
def rmendT : LT := .n (.n (.n (.n (.e) 30220 9 (.bin .lss (.int .i64 0) (.symi .i64 0)) (.e)) 30725 10 (.bin .lss (.int .i64 1) (.symi .i64 0)) (.e)) 31230 11 (.bin .lss (.int .i64 2) (.symi .i64 0)) (.n (.e) 31735 12 (.bin .lss (.int .i64 3) (.symi .i64 0)) (.e))) 32240 13 (.bin .lss (.int .i64 4) (.symi .i64 0)) (.n (.n (.e) 32745 14 (.bin .lss (.int .i64 5) (.symi .i64 0)) (.e)) 33250 15 (.bin .lss (.int .i64 6) (.symi .i64 0)) (.n (.e) 33755 16 (.bin .lss (.int .i64 7) (.symi .i64 0)) (.e)))

set_option maxRecDepth 100000 in
def rmendW : Wr' := .node 9 (.node 10 (.node 11 (.node 12 (.node 13 (.node 14 (.node 15 (.node 16 (.run (.leaf (.agg [.int .i64 8, .symi .u8 1, .symi .u8 2, .symi .u8 3, .symi .u8 4, .symi .u8 5, .symi .u8 6, .symi .u8 7, .symi .u8 8]))) (.run (.leaf (.agg [.int .i64 7, .symi .u8 1, .symi .u8 2, .symi .u8 3, .symi .u8 4, .symi .u8 5, .symi .u8 6, .symi .u8 7, .int .u8 0])))) (.node 16 (.dead) (.run (.leaf (.agg [.int .i64 6, .symi .u8 1, .symi .u8 2, .symi .u8 3, .symi .u8 4, .symi .u8 5, .symi .u8 6, .int .u8 0, .int .u8 0]))))) (.node 15 (.dead) (.node 16 (.dead) (.run (.leaf (.agg [.int .i64 5, .symi .u8 1, .symi .u8 2, .symi .u8 3, .symi .u8 4, .symi .u8 5, .int .u8 0, .int .u8 0, .int .u8 0])))))) (.node 14 (.dead) (.node 15 (.dead) (.node 16 (.dead) (.run (.leaf (.agg [.int .i64 4, .symi .u8 1, .symi .u8 2, .symi .u8 3, .symi .u8 4, .int .u8 0, .int .u8 0, .int .u8 0, .int .u8 0]))))))) (.node 13 (.dead) (.node 14 (.dead) (.node 15 (.dead) (.node 16 (.dead) (.run (.leaf (.agg [.int .i64 3, .symi .u8 1, .symi .u8 2, .symi .u8 3, .int .u8 0, .int .u8 0, .int .u8 0, .int .u8 0, .int .u8 0])))))))) (.node 12 (.dead) (.node 13 (.dead) (.node 14 (.dead) (.node 15 (.dead) (.node 16 (.dead) (.run (.leaf (.agg [.int .i64 2, .symi .u8 1, .symi .u8 2, .int .u8 0, .int .u8 0, .int .u8 0, .int .u8 0, .int .u8 0, .int .u8 0]))))))))) (.node 11 (.dead) (.node 12 (.dead) (.node 13 (.dead) (.node 14 (.dead) (.node 15 (.dead) (.node 16 (.dead) (.run (.leaf (.agg [.int .i64 1, .symi .u8 1, .int .u8 0, .int .u8 0, .int .u8 0, .int .u8 0, .int .u8 0, .int .u8 0, .int .u8 0])))))))))) (.node 10 (.dead) (.node 11 (.dead) (.node 12 (.dead) (.node 13 (.dead) (.node 14 (.dead) (.node 15 (.dead) (.node 16 (.dead) (.run (.leaf (.agg [.int .i64 0, .int .u8 0, .int .u8 0, .int .u8 0, .int .u8 0, .int .u8 0, .int .u8 0, .int .u8 0, .int .u8 0]))))))))))
def rmendX : Ing := { m := 9, ins := (cellsOf q9).map kindC, G := rmendG, T := rmendT }
theorem rmend_ok : okG rmendG 9 = true := by kernel_rfl
theorem rmend_lt : okLT 9 rmendG rmendT = true := by kernel_rfl
theorem rmend_run : okW (fun F => (evD Try.prog (cxOf rmendX) true 1000 40).1 F 84 (symSh q9 0) ⟨[], []⟩) rmendW [] = true := by kernel_rfl
set_option maxRecDepth 100000 in
theorem rmend_contract : FnOk Try.prog 84 q9 q9 mendF :=
  fn_of_run (X := rmendX) (W := rmendW) mixed ⟨rfl, rfl, rfl, rfl, rfl⟩ rmend_ok rmend_lt (fun F => no_hooks rfl F) rmend_run (fun l σ hl e _ hi _ => by
    match l, hl with
    | [a0, a1, a2, a3, a4, a5, a6, a7, a8], hl =>
    obtain ⟨w0, w1, w2, w3, w4, w5, w6, w7, w8, _⟩ := hl
    have v0 : σ.ival 0 = a0 := hi 0 (by decide)
    replace w0 : IntKind.i64.wrap a0 = a0 := w0
    have v1 : σ.ival 1 = a1 := hi 1 (by decide)
    replace w1 : IntKind.u8.wrap a1 = a1 := w1
    have v2 : σ.ival 2 = a2 := hi 2 (by decide)
    replace w2 : IntKind.u8.wrap a2 = a2 := w2
    have v3 : σ.ival 3 = a3 := hi 3 (by decide)
    replace w3 : IntKind.u8.wrap a3 = a3 := w3
    have v4 : σ.ival 4 = a4 := hi 4 (by decide)
    replace w4 : IntKind.u8.wrap a4 = a4 := w4
    have v5 : σ.ival 5 = a5 := hi 5 (by decide)
    replace w5 : IntKind.u8.wrap a5 = a5 := w5
    have v6 : σ.ival 6 = a6 := hi 6 (by decide)
    replace w6 : IntKind.u8.wrap a6 = a6 := w6
    have v7 : σ.ival 7 = a7 := hi 7 (by decide)
    replace w7 : IntKind.u8.wrap a7 = a7 := w7
    have v8 : σ.ival 8 = a8 := hi 8 (by decide)
    replace w8 : IntKind.u8.wrap a8 = a8 := w8
    have e9 : σ.bval 9 = decide (0 < σ.ival 0) := eqB (e.at 0 _ rfl rfl) rfl
    have e10 : σ.bval 10 = decide (1 < σ.ival 0) := eqB (e.at 1 _ rfl rfl) rfl
    have e11 : σ.bval 11 = decide (2 < σ.ival 0) := eqB (e.at 2 _ rfl rfl) rfl
    have e12 : σ.bval 12 = decide (3 < σ.ival 0) := eqB (e.at 3 _ rfl rfl) rfl
    have e13 : σ.bval 13 = decide (4 < σ.ival 0) := eqB (e.at 4 _ rfl rfl) rfl
    have e14 : σ.bval 14 = decide (5 < σ.ival 0) := eqB (e.at 5 _ rfl rfl) rfl
    have e15 : σ.bval 15 = decide (6 < σ.ival 0) := eqB (e.at 6 _ rfl rfl) rfl
    have e16 : σ.bval 16 = decide (7 < σ.ival 0) := eqB (e.at 7 _ rfl rfl) rfl
    exact ⟨⟨⟨⟨⟨⟨⟨⟨(fun hF => by
      simp only [Holds, Fact.holds, e9, e10, e11, e12, e13, e14, e15, e16, v0, decide_eq_true_eq, decide_eq_false_iff_not, and_true] at hF
      have hq : clamp a0 = 8 := by unfold clamp; split <;> (try split) <;> omega
      simp only [mendF, qk, qb, List.getD_cons_zero, List.getD_cons_succ, hq]
      simp only [OutOk, OutSh, OutCs, den, denC, List.headD_cons, List.tail_cons, List.drop_succ_cons, List.drop_zero, List.length_cons, List.length_nil, v0, v1, v2, v3, v4, v5, v6, v7, v8]
      repeat' apply And.intro
      all_goals first | rfl | trivial | (simp only [den, denC, v0, v1, v2, v3, v4, v5, v6, v7, v8, w0, w1, w2, w3, w4, w5, w6, w7, w8]; done) | (simp [den, denC, v0, v1, v2, v3, v4, v5, v6, v7, v8, w0, w1, w2, w3, w4, w5, w6, w7, w8]; done)),
    (fun hF => by
      simp only [Holds, Fact.holds, e9, e10, e11, e12, e13, e14, e15, e16, v0, decide_eq_true_eq, decide_eq_false_iff_not, and_true] at hF
      have hq : clamp a0 = 7 := by unfold clamp; split <;> (try split) <;> omega
      simp only [mendF, qk, qb, List.getD_cons_zero, List.getD_cons_succ, hq]
      simp only [OutOk, OutSh, OutCs, den, denC, List.headD_cons, List.tail_cons, List.drop_succ_cons, List.drop_zero, List.length_cons, List.length_nil, v0, v1, v2, v3, v4, v5, v6, v7, v8]
      repeat' apply And.intro
      all_goals first | rfl | trivial | (simp only [den, denC, v0, v1, v2, v3, v4, v5, v6, v7, v8, w0, w1, w2, w3, w4, w5, w6, w7, w8]; done) | (simp [den, denC, v0, v1, v2, v3, v4, v5, v6, v7, v8, w0, w1, w2, w3, w4, w5, w6, w7, w8]; done))⟩,
    ⟨(fun hF => by
      simp only [Holds, Fact.holds, e9, e10, e11, e12, e13, e14, e15, e16, v0, decide_eq_true_eq, decide_eq_false_iff_not, and_true] at hF
      omega),
    (fun hF => by
      simp only [Holds, Fact.holds, e9, e10, e11, e12, e13, e14, e15, e16, v0, decide_eq_true_eq, decide_eq_false_iff_not, and_true] at hF
      have hq : clamp a0 = 6 := by unfold clamp; split <;> (try split) <;> omega
      simp only [mendF, qk, qb, List.getD_cons_zero, List.getD_cons_succ, hq]
      simp only [OutOk, OutSh, OutCs, den, denC, List.headD_cons, List.tail_cons, List.drop_succ_cons, List.drop_zero, List.length_cons, List.length_nil, v0, v1, v2, v3, v4, v5, v6, v7, v8]
      repeat' apply And.intro
      all_goals first | rfl | trivial | (simp only [den, denC, v0, v1, v2, v3, v4, v5, v6, v7, v8, w0, w1, w2, w3, w4, w5, w6, w7, w8]; done) | (simp [den, denC, v0, v1, v2, v3, v4, v5, v6, v7, v8, w0, w1, w2, w3, w4, w5, w6, w7, w8]; done))⟩⟩,
    ⟨(fun hF => by
      simp only [Holds, Fact.holds, e9, e10, e11, e12, e13, e14, e15, e16, v0, decide_eq_true_eq, decide_eq_false_iff_not, and_true] at hF
      omega),
    ⟨(fun hF => by
      simp only [Holds, Fact.holds, e9, e10, e11, e12, e13, e14, e15, e16, v0, decide_eq_true_eq, decide_eq_false_iff_not, and_true] at hF
      omega),
    (fun hF => by
      simp only [Holds, Fact.holds, e9, e10, e11, e12, e13, e14, e15, e16, v0, decide_eq_true_eq, decide_eq_false_iff_not, and_true] at hF
      have hq : clamp a0 = 5 := by unfold clamp; split <;> (try split) <;> omega
      simp only [mendF, qk, qb, List.getD_cons_zero, List.getD_cons_succ, hq]
      simp only [OutOk, OutSh, OutCs, den, denC, List.headD_cons, List.tail_cons, List.drop_succ_cons, List.drop_zero, List.length_cons, List.length_nil, v0, v1, v2, v3, v4, v5, v6, v7, v8]
      repeat' apply And.intro
      all_goals first | rfl | trivial | (simp only [den, denC, v0, v1, v2, v3, v4, v5, v6, v7, v8, w0, w1, w2, w3, w4, w5, w6, w7, w8]; done) | (simp [den, denC, v0, v1, v2, v3, v4, v5, v6, v7, v8, w0, w1, w2, w3, w4, w5, w6, w7, w8]; done))⟩⟩⟩,
    ⟨(fun hF => by
      simp only [Holds, Fact.holds, e9, e10, e11, e12, e13, e14, e15, e16, v0, decide_eq_true_eq, decide_eq_false_iff_not, and_true] at hF
      omega),
    ⟨(fun hF => by
      simp only [Holds, Fact.holds, e9, e10, e11, e12, e13, e14, e15, e16, v0, decide_eq_true_eq, decide_eq_false_iff_not, and_true] at hF
      omega),
    ⟨(fun hF => by
      simp only [Holds, Fact.holds, e9, e10, e11, e12, e13, e14, e15, e16, v0, decide_eq_true_eq, decide_eq_false_iff_not, and_true] at hF
      omega),
    (fun hF => by
      simp only [Holds, Fact.holds, e9, e10, e11, e12, e13, e14, e15, e16, v0, decide_eq_true_eq, decide_eq_false_iff_not, and_true] at hF
      have hq : clamp a0 = 4 := by unfold clamp; split <;> (try split) <;> omega
      simp only [mendF, qk, qb, List.getD_cons_zero, List.getD_cons_succ, hq]
      simp only [OutOk, OutSh, OutCs, den, denC, List.headD_cons, List.tail_cons, List.drop_succ_cons, List.drop_zero, List.length_cons, List.length_nil, v0, v1, v2, v3, v4, v5, v6, v7, v8]
      repeat' apply And.intro
      all_goals first | rfl | trivial | (simp only [den, denC, v0, v1, v2, v3, v4, v5, v6, v7, v8, w0, w1, w2, w3, w4, w5, w6, w7, w8]; done) | (simp [den, denC, v0, v1, v2, v3, v4, v5, v6, v7, v8, w0, w1, w2, w3, w4, w5, w6, w7, w8]; done))⟩⟩⟩⟩,
    ⟨(fun hF => by
      simp only [Holds, Fact.holds, e9, e10, e11, e12, e13, e14, e15, e16, v0, decide_eq_true_eq, decide_eq_false_iff_not, and_true] at hF
      omega),
    ⟨(fun hF => by
      simp only [Holds, Fact.holds, e9, e10, e11, e12, e13, e14, e15, e16, v0, decide_eq_true_eq, decide_eq_false_iff_not, and_true] at hF
      omega),
    ⟨(fun hF => by
      simp only [Holds, Fact.holds, e9, e10, e11, e12, e13, e14, e15, e16, v0, decide_eq_true_eq, decide_eq_false_iff_not, and_true] at hF
      omega),
    ⟨(fun hF => by
      simp only [Holds, Fact.holds, e9, e10, e11, e12, e13, e14, e15, e16, v0, decide_eq_true_eq, decide_eq_false_iff_not, and_true] at hF
      omega),
    (fun hF => by
      simp only [Holds, Fact.holds, e9, e10, e11, e12, e13, e14, e15, e16, v0, decide_eq_true_eq, decide_eq_false_iff_not, and_true] at hF
      have hq : clamp a0 = 3 := by unfold clamp; split <;> (try split) <;> omega
      simp only [mendF, qk, qb, List.getD_cons_zero, List.getD_cons_succ, hq]
      simp only [OutOk, OutSh, OutCs, den, denC, List.headD_cons, List.tail_cons, List.drop_succ_cons, List.drop_zero, List.length_cons, List.length_nil, v0, v1, v2, v3, v4, v5, v6, v7, v8]
      repeat' apply And.intro
      all_goals first | rfl | trivial | (simp only [den, denC, v0, v1, v2, v3, v4, v5, v6, v7, v8, w0, w1, w2, w3, w4, w5, w6, w7, w8]; done) | (simp [den, denC, v0, v1, v2, v3, v4, v5, v6, v7, v8, w0, w1, w2, w3, w4, w5, w6, w7, w8]; done))⟩⟩⟩⟩⟩,
    ⟨(fun hF => by
      simp only [Holds, Fact.holds, e9, e10, e11, e12, e13, e14, e15, e16, v0, decide_eq_true_eq, decide_eq_false_iff_not, and_true] at hF
      omega),
    ⟨(fun hF => by
      simp only [Holds, Fact.holds, e9, e10, e11, e12, e13, e14, e15, e16, v0, decide_eq_true_eq, decide_eq_false_iff_not, and_true] at hF
      omega),
    ⟨(fun hF => by
      simp only [Holds, Fact.holds, e9, e10, e11, e12, e13, e14, e15, e16, v0, decide_eq_true_eq, decide_eq_false_iff_not, and_true] at hF
      omega),
    ⟨(fun hF => by
      simp only [Holds, Fact.holds, e9, e10, e11, e12, e13, e14, e15, e16, v0, decide_eq_true_eq, decide_eq_false_iff_not, and_true] at hF
      omega),
    ⟨(fun hF => by
      simp only [Holds, Fact.holds, e9, e10, e11, e12, e13, e14, e15, e16, v0, decide_eq_true_eq, decide_eq_false_iff_not, and_true] at hF
      omega),
    (fun hF => by
      simp only [Holds, Fact.holds, e9, e10, e11, e12, e13, e14, e15, e16, v0, decide_eq_true_eq, decide_eq_false_iff_not, and_true] at hF
      have hq : clamp a0 = 2 := by unfold clamp; split <;> (try split) <;> omega
      simp only [mendF, qk, qb, List.getD_cons_zero, List.getD_cons_succ, hq]
      simp only [OutOk, OutSh, OutCs, den, denC, List.headD_cons, List.tail_cons, List.drop_succ_cons, List.drop_zero, List.length_cons, List.length_nil, v0, v1, v2, v3, v4, v5, v6, v7, v8]
      repeat' apply And.intro
      all_goals first | rfl | trivial | (simp only [den, denC, v0, v1, v2, v3, v4, v5, v6, v7, v8, w0, w1, w2, w3, w4, w5, w6, w7, w8]; done) | (simp [den, denC, v0, v1, v2, v3, v4, v5, v6, v7, v8, w0, w1, w2, w3, w4, w5, w6, w7, w8]; done))⟩⟩⟩⟩⟩⟩,
    ⟨(fun hF => by
      simp only [Holds, Fact.holds, e9, e10, e11, e12, e13, e14, e15, e16, v0, decide_eq_true_eq, decide_eq_false_iff_not, and_true] at hF
      omega),
    ⟨(fun hF => by
      simp only [Holds, Fact.holds, e9, e10, e11, e12, e13, e14, e15, e16, v0, decide_eq_true_eq, decide_eq_false_iff_not, and_true] at hF
      omega),
    ⟨(fun hF => by
      simp only [Holds, Fact.holds, e9, e10, e11, e12, e13, e14, e15, e16, v0, decide_eq_true_eq, decide_eq_false_iff_not, and_true] at hF
      omega),
    ⟨(fun hF => by
      simp only [Holds, Fact.holds, e9, e10, e11, e12, e13, e14, e15, e16, v0, decide_eq_true_eq, decide_eq_false_iff_not, and_true] at hF
      omega),
    ⟨(fun hF => by
      simp only [Holds, Fact.holds, e9, e10, e11, e12, e13, e14, e15, e16, v0, decide_eq_true_eq, decide_eq_false_iff_not, and_true] at hF
      omega),
    ⟨(fun hF => by
      simp only [Holds, Fact.holds, e9, e10, e11, e12, e13, e14, e15, e16, v0, decide_eq_true_eq, decide_eq_false_iff_not, and_true] at hF
      omega),
    (fun hF => by
      simp only [Holds, Fact.holds, e9, e10, e11, e12, e13, e14, e15, e16, v0, decide_eq_true_eq, decide_eq_false_iff_not, and_true] at hF
      have hq : clamp a0 = 1 := by unfold clamp; split <;> (try split) <;> omega
      simp only [mendF, qk, qb, List.getD_cons_zero, List.getD_cons_succ, hq]
      simp only [OutOk, OutSh, OutCs, den, denC, List.headD_cons, List.tail_cons, List.drop_succ_cons, List.drop_zero, List.length_cons, List.length_nil, v0, v1, v2, v3, v4, v5, v6, v7, v8]
      repeat' apply And.intro
      all_goals first | rfl | trivial | (simp only [den, denC, v0, v1, v2, v3, v4, v5, v6, v7, v8, w0, w1, w2, w3, w4, w5, w6, w7, w8]; done) | (simp [den, denC, v0, v1, v2, v3, v4, v5, v6, v7, v8, w0, w1, w2, w3, w4, w5, w6, w7, w8]; done))⟩⟩⟩⟩⟩⟩⟩,
    ⟨(fun hF => by
      simp only [Holds, Fact.holds, e9, e10, e11, e12, e13, e14, e15, e16, v0, decide_eq_true_eq, decide_eq_false_iff_not, and_true] at hF
      omega),
    ⟨(fun hF => by
      simp only [Holds, Fact.holds, e9, e10, e11, e12, e13, e14, e15, e16, v0, decide_eq_true_eq, decide_eq_false_iff_not, and_true] at hF
      omega),
    ⟨(fun hF => by
      simp only [Holds, Fact.holds, e9, e10, e11, e12, e13, e14, e15, e16, v0, decide_eq_true_eq, decide_eq_false_iff_not, and_true] at hF
      omega),
    ⟨(fun hF => by
      simp only [Holds, Fact.holds, e9, e10, e11, e12, e13, e14, e15, e16, v0, decide_eq_true_eq, decide_eq_false_iff_not, and_true] at hF
      omega),
    ⟨(fun hF => by
      simp only [Holds, Fact.holds, e9, e10, e11, e12, e13, e14, e15, e16, v0, decide_eq_true_eq, decide_eq_false_iff_not, and_true] at hF
      omega),
    ⟨(fun hF => by
      simp only [Holds, Fact.holds, e9, e10, e11, e12, e13, e14, e15, e16, v0, decide_eq_true_eq, decide_eq_false_iff_not, and_true] at hF
      omega),
    ⟨(fun hF => by
      simp only [Holds, Fact.holds, e9, e10, e11, e12, e13, e14, e15, e16, v0, decide_eq_true_eq, decide_eq_false_iff_not, and_true] at hF
      omega),
    (fun hF => by
      simp only [Holds, Fact.holds, e9, e10, e11, e12, e13, e14, e15, e16, v0, decide_eq_true_eq, decide_eq_false_iff_not, and_true] at hF
      have hq : clamp a0 = 0 := by unfold clamp; split <;> (try split) <;> omega
      simp only [mendF, qk, qb, List.getD_cons_zero, List.getD_cons_succ, hq]
      simp only [OutOk, OutSh, OutCs, den, denC, List.headD_cons, List.tail_cons, List.drop_succ_cons, List.drop_zero, List.length_cons, List.length_nil, v0, v1, v2, v3, v4, v5, v6, v7, v8]
      repeat' apply And.intro
      all_goals first | rfl | trivial | (simp only [den, denC, v0, v1, v2, v3, v4, v5, v6, v7, v8, w0, w1, w2, w3, w4, w5, w6, w7, w8]; done) | (simp [den, denC, v0, v1, v2, v3, v4, v5, v6, v7, v8, w0, w1, w2, w3, w4, w5, w6, w7, w8]; done))⟩⟩⟩⟩⟩⟩⟩⟩)

set_option maxRecDepth 100000 in
def fpushG : List SDef := [.low [.symi .i64 0, .int .i64 8],
  .high [.int .i64 0, .symi .i64 10]]

set_option maxRecDepth 100000 in
def fpushT : LT := .n (.n (.e) 239174 10 (.low [.symi .i64 0, .int .i64 8]) (.e)) 504219759 11 (.high [.int .i64 0, .symi .i64 10]) (.e)

set_option maxRecDepth 100000 in
def fpushW : Wr' := .pick 11 0 (.run (.leaf (.tuple [.agg [.int .i64 1, .symi .u8 9, .int .u8 0, .int .u8 0, .int .u8 0, .int .u8 0, .int .u8 0, .int .u8 0, .int .u8 0], .bool true]))) (.pick 11 1 (.run (.leaf (.tuple [.agg [.int .i64 2, .symi .u8 1, .symi .u8 9, .int .u8 0, .int .u8 0, .int .u8 0, .int .u8 0, .int .u8 0, .int .u8 0], .bool true]))) (.pick 11 2 (.run (.leaf (.tuple [.agg [.int .i64 3, .symi .u8 1, .symi .u8 2, .symi .u8 9, .int .u8 0, .int .u8 0, .int .u8 0, .int .u8 0, .int .u8 0], .bool true]))) (.pick 11 3 (.run (.leaf (.tuple [.agg [.int .i64 4, .symi .u8 1, .symi .u8 2, .symi .u8 3, .symi .u8 9, .int .u8 0, .int .u8 0, .int .u8 0, .int .u8 0], .bool true]))) (.pick 11 4 (.run (.leaf (.tuple [.agg [.int .i64 5, .symi .u8 1, .symi .u8 2, .symi .u8 3, .symi .u8 4, .symi .u8 9, .int .u8 0, .int .u8 0, .int .u8 0], .bool true]))) (.pick 11 5 (.run (.leaf (.tuple [.agg [.int .i64 6, .symi .u8 1, .symi .u8 2, .symi .u8 3, .symi .u8 4, .symi .u8 5, .symi .u8 9, .int .u8 0, .int .u8 0], .bool true]))) (.pick 11 6 (.run (.leaf (.tuple [.agg [.int .i64 7, .symi .u8 1, .symi .u8 2, .symi .u8 3, .symi .u8 4, .symi .u8 5, .symi .u8 6, .symi .u8 9, .int .u8 0], .bool true]))) (.pick 11 7 (.run (.leaf (.tuple [.agg [.int .i64 8, .symi .u8 1, .symi .u8 2, .symi .u8 3, .symi .u8 4, .symi .u8 5, .symi .u8 6, .symi .u8 7, .symi .u8 9], .bool true]))) (.pick 11 8 (.run (.leaf (.tuple [.agg [.int .i64 8, .symi .u8 1, .symi .u8 2, .symi .u8 3, .symi .u8 4, .symi .u8 5, .symi .u8 6, .symi .u8 7, .symi .u8 8], .bool false]))) (.dead)))))))))
def fpushX : Ing := { m := 10, ins := (cellsOf q9b).map kindC, G := fpushG, T := fpushT }
theorem fpush_ok : okG fpushG 10 = true := by kernel_rfl
theorem fpush_lt : okLT 10 fpushG fpushT = true := by kernel_rfl
theorem fpush_run : okW (fun F => (evD Try.prog (cxOf fpushX) true 1000 40).1 F 46 (symSh q9b 0) ⟨[], []⟩) fpushW [] = true := by kernel_rfl
set_option maxRecDepth 100000 in
theorem fpush_contract : FnOk Try.prog 46 q9b pushO pushF :=
  fn_of_run (X := fpushX) (W := fpushW) mixed ⟨rfl, rfl, rfl, rfl, rfl⟩ fpush_ok fpush_lt (fun F => no_hooks rfl F) fpush_run (fun l σ hl e _ hi _ => by
    match l, hl with
    | [a0, a1, a2, a3, a4, a5, a6, a7, a8, a9], hl =>
    obtain ⟨w0, w1, w2, w3, w4, w5, w6, w7, w8, w9, _⟩ := hl
    have v0 : σ.ival 0 = a0 := hi 0 (by decide)
    replace w0 : IntKind.i64.wrap a0 = a0 := w0
    have v1 : σ.ival 1 = a1 := hi 1 (by decide)
    replace w1 : IntKind.u8.wrap a1 = a1 := w1
    have v2 : σ.ival 2 = a2 := hi 2 (by decide)
    replace w2 : IntKind.u8.wrap a2 = a2 := w2
    have v3 : σ.ival 3 = a3 := hi 3 (by decide)
    replace w3 : IntKind.u8.wrap a3 = a3 := w3
    have v4 : σ.ival 4 = a4 := hi 4 (by decide)
    replace w4 : IntKind.u8.wrap a4 = a4 := w4
    have v5 : σ.ival 5 = a5 := hi 5 (by decide)
    replace w5 : IntKind.u8.wrap a5 = a5 := w5
    have v6 : σ.ival 6 = a6 := hi 6 (by decide)
    replace w6 : IntKind.u8.wrap a6 = a6 := w6
    have v7 : σ.ival 7 = a7 := hi 7 (by decide)
    replace w7 : IntKind.u8.wrap a7 = a7 := w7
    have v8 : σ.ival 8 = a8 := hi 8 (by decide)
    replace w8 : IntKind.u8.wrap a8 = a8 := w8
    have v9 : σ.ival 9 = a9 := hi 9 (by decide)
    replace w9 : IntKind.u8.wrap a9 = a9 := w9
    have e10 : σ.ival 10 = (if 8 < σ.ival 0 then 8 else σ.ival 0) := eqI (e.at 0 _ rfl rfl) rfl
    have e11 : σ.ival 11 = (if σ.ival 10 > 0 then σ.ival 10 else 0) := eqI (e.at 1 _ rfl rfl) rfl
    have hc : clamp a0 = σ.ival 11 := by rw [e11, e10, v0]; unfold clamp; split <;> split <;> split <;> (try split) <;> omega
    exact ⟨(fun hF => by
      have hq : clamp a0 = 0 := hc.trans hF.1
      simp only [pushF, qp, qk, qb, List.getD_cons_zero, List.getD_cons_succ, hq]
      simp only [OutOk, OutSh, OutCs, den, denC, List.headD_cons, List.tail_cons, List.drop_succ_cons, List.drop_zero, List.length_cons, List.length_nil, v0, v1, v2, v3, v4, v5, v6, v7, v8, v9]
      repeat' apply And.intro
      all_goals first | rfl | trivial | (simp only [den, denC, v0, v1, v2, v3, v4, v5, v6, v7, v8, v9, w0, w1, w2, w3, w4, w5, w6, w7, w8, w9]; done) | (simp [den, denC, v0, v1, v2, v3, v4, v5, v6, v7, v8, v9, w0, w1, w2, w3, w4, w5, w6, w7, w8, w9]; done)),
    ⟨(fun hF => by
      have hq : clamp a0 = 1 := hc.trans hF.1
      simp only [pushF, qp, qk, qb, List.getD_cons_zero, List.getD_cons_succ, hq]
      simp only [OutOk, OutSh, OutCs, den, denC, List.headD_cons, List.tail_cons, List.drop_succ_cons, List.drop_zero, List.length_cons, List.length_nil, v0, v1, v2, v3, v4, v5, v6, v7, v8, v9]
      repeat' apply And.intro
      all_goals first | rfl | trivial | (simp only [den, denC, v0, v1, v2, v3, v4, v5, v6, v7, v8, v9, w0, w1, w2, w3, w4, w5, w6, w7, w8, w9]; done) | (simp [den, denC, v0, v1, v2, v3, v4, v5, v6, v7, v8, v9, w0, w1, w2, w3, w4, w5, w6, w7, w8, w9]; done)),
    ⟨(fun hF => by
      have hq : clamp a0 = 2 := hc.trans hF.1
      simp only [pushF, qp, qk, qb, List.getD_cons_zero, List.getD_cons_succ, hq]
      simp only [OutOk, OutSh, OutCs, den, denC, List.headD_cons, List.tail_cons, List.drop_succ_cons, List.drop_zero, List.length_cons, List.length_nil, v0, v1, v2, v3, v4, v5, v6, v7, v8, v9]
      repeat' apply And.intro
      all_goals first | rfl | trivial | (simp only [den, denC, v0, v1, v2, v3, v4, v5, v6, v7, v8, v9, w0, w1, w2, w3, w4, w5, w6, w7, w8, w9]; done) | (simp [den, denC, v0, v1, v2, v3, v4, v5, v6, v7, v8, v9, w0, w1, w2, w3, w4, w5, w6, w7, w8, w9]; done)),
    ⟨(fun hF => by
      have hq : clamp a0 = 3 := hc.trans hF.1
      simp only [pushF, qp, qk, qb, List.getD_cons_zero, List.getD_cons_succ, hq]
      simp only [OutOk, OutSh, OutCs, den, denC, List.headD_cons, List.tail_cons, List.drop_succ_cons, List.drop_zero, List.length_cons, List.length_nil, v0, v1, v2, v3, v4, v5, v6, v7, v8, v9]
      repeat' apply And.intro
      all_goals first | rfl | trivial | (simp only [den, denC, v0, v1, v2, v3, v4, v5, v6, v7, v8, v9, w0, w1, w2, w3, w4, w5, w6, w7, w8, w9]; done) | (simp [den, denC, v0, v1, v2, v3, v4, v5, v6, v7, v8, v9, w0, w1, w2, w3, w4, w5, w6, w7, w8, w9]; done)),
    ⟨(fun hF => by
      have hq : clamp a0 = 4 := hc.trans hF.1
      simp only [pushF, qp, qk, qb, List.getD_cons_zero, List.getD_cons_succ, hq]
      simp only [OutOk, OutSh, OutCs, den, denC, List.headD_cons, List.tail_cons, List.drop_succ_cons, List.drop_zero, List.length_cons, List.length_nil, v0, v1, v2, v3, v4, v5, v6, v7, v8, v9]
      repeat' apply And.intro
      all_goals first | rfl | trivial | (simp only [den, denC, v0, v1, v2, v3, v4, v5, v6, v7, v8, v9, w0, w1, w2, w3, w4, w5, w6, w7, w8, w9]; done) | (simp [den, denC, v0, v1, v2, v3, v4, v5, v6, v7, v8, v9, w0, w1, w2, w3, w4, w5, w6, w7, w8, w9]; done)),
    ⟨(fun hF => by
      have hq : clamp a0 = 5 := hc.trans hF.1
      simp only [pushF, qp, qk, qb, List.getD_cons_zero, List.getD_cons_succ, hq]
      simp only [OutOk, OutSh, OutCs, den, denC, List.headD_cons, List.tail_cons, List.drop_succ_cons, List.drop_zero, List.length_cons, List.length_nil, v0, v1, v2, v3, v4, v5, v6, v7, v8, v9]
      repeat' apply And.intro
      all_goals first | rfl | trivial | (simp only [den, denC, v0, v1, v2, v3, v4, v5, v6, v7, v8, v9, w0, w1, w2, w3, w4, w5, w6, w7, w8, w9]; done) | (simp [den, denC, v0, v1, v2, v3, v4, v5, v6, v7, v8, v9, w0, w1, w2, w3, w4, w5, w6, w7, w8, w9]; done)),
    ⟨(fun hF => by
      have hq : clamp a0 = 6 := hc.trans hF.1
      simp only [pushF, qp, qk, qb, List.getD_cons_zero, List.getD_cons_succ, hq]
      simp only [OutOk, OutSh, OutCs, den, denC, List.headD_cons, List.tail_cons, List.drop_succ_cons, List.drop_zero, List.length_cons, List.length_nil, v0, v1, v2, v3, v4, v5, v6, v7, v8, v9]
      repeat' apply And.intro
      all_goals first | rfl | trivial | (simp only [den, denC, v0, v1, v2, v3, v4, v5, v6, v7, v8, v9, w0, w1, w2, w3, w4, w5, w6, w7, w8, w9]; done) | (simp [den, denC, v0, v1, v2, v3, v4, v5, v6, v7, v8, v9, w0, w1, w2, w3, w4, w5, w6, w7, w8, w9]; done)),
    ⟨(fun hF => by
      have hq : clamp a0 = 7 := hc.trans hF.1
      simp only [pushF, qp, qk, qb, List.getD_cons_zero, List.getD_cons_succ, hq]
      simp only [OutOk, OutSh, OutCs, den, denC, List.headD_cons, List.tail_cons, List.drop_succ_cons, List.drop_zero, List.length_cons, List.length_nil, v0, v1, v2, v3, v4, v5, v6, v7, v8, v9]
      repeat' apply And.intro
      all_goals first | rfl | trivial | (simp only [den, denC, v0, v1, v2, v3, v4, v5, v6, v7, v8, v9, w0, w1, w2, w3, w4, w5, w6, w7, w8, w9]; done) | (simp [den, denC, v0, v1, v2, v3, v4, v5, v6, v7, v8, v9, w0, w1, w2, w3, w4, w5, w6, w7, w8, w9]; done)),
    ⟨(fun hF => by
      have hq : clamp a0 = 8 := hc.trans hF.1
      simp only [pushF, qp, qk, qb, List.getD_cons_zero, List.getD_cons_succ, hq]
      simp only [OutOk, OutSh, OutCs, den, denC, List.headD_cons, List.tail_cons, List.drop_succ_cons, List.drop_zero, List.length_cons, List.length_nil, v0, v1, v2, v3, v4, v5, v6, v7, v8, v9]
      repeat' apply And.intro
      all_goals first | rfl | trivial | (simp only [den, denC, v0, v1, v2, v3, v4, v5, v6, v7, v8, v9, w0, w1, w2, w3, w4, w5, w6, w7, w8, w9]; done) | (simp [den, denC, v0, v1, v2, v3, v4, v5, v6, v7, v8, v9, w0, w1, w2, w3, w4, w5, w6, w7, w8, w9]; done)),
    (fun hF => by
      simp only [Holds, Fact.holds, ← hc, and_true] at hF
      have := clamp_in a0
      omega)⟩⟩⟩⟩⟩⟩⟩⟩⟩)

set_option maxRecDepth 100000 in
def rpushG : List SDef := [.bin .lss (.int .i64 0) (.symi .i64 0),
  .bin .lss (.int .i64 1) (.symi .i64 0),
  .bin .lss (.int .i64 2) (.symi .i64 0),
  .bin .lss (.int .i64 3) (.symi .i64 0),
  .bin .lss (.int .i64 4) (.symi .i64 0),
  .bin .lss (.int .i64 5) (.symi .i64 0),
  .bin .lss (.int .i64 6) (.symi .i64 0),
  .bin .lss (.int .i64 7) (.symi .i64 0)]

set_option maxRecDepth 100000 in
def rpushT : LT := .n (.n (.n (.n (.e) 30220 10 (.bin .lss (.int .i64 0) (.symi .i64 0)) (.e)) 30725 11 (.bin .lss (.int .i64 1) (.symi .i64 0)) (.e)) 31230 12 (.bin .lss (.int .i64 2) (.symi .i64 0)) (.n (.e) 31735 13 (.bin .lss (.int .i64 3) (.symi .i64 0)) (.e))) 32240 14 (.bin .lss (.int .i64 4) (.symi .i64 0)) (.n (.n (.e) 32745 15 (.bin .lss (.int .i64 5) (.symi .i64 0)) (.e)) 33250 16 (.bin .lss (.int .i64 6) (.symi .i64 0)) (.n (.e) 33755 17 (.bin .lss (.int .i64 7) (.symi .i64 0)) (.e)))

set_option maxRecDepth 100000 in
def rpushW : Wr' := .node 10 (.node 11 (.node 12 (.node 13 (.node 14 (.node 15 (.node 16 (.node 17 (.run (.leaf (.tuple [.agg [.int .i64 8, .symi .u8 1, .symi .u8 2, .symi .u8 3, .symi .u8 4, .symi .u8 5, .symi .u8 6, .symi .u8 7, .symi .u8 8], .bool false]))) (.run (.leaf (.tuple [.agg [.int .i64 8, .symi .u8 1, .symi .u8 2, .symi .u8 3, .symi .u8 4, .symi .u8 5, .symi .u8 6, .symi .u8 7, .symi .u8 9], .bool true])))) (.node 17 (.dead) (.run (.leaf (.tuple [.agg [.int .i64 7, .symi .u8 1, .symi .u8 2, .symi .u8 3, .symi .u8 4, .symi .u8 5, .symi .u8 6, .symi .u8 9, .int .u8 0], .bool true]))))) (.node 16 (.dead) (.node 17 (.dead) (.run (.leaf (.tuple [.agg [.int .i64 6, .symi .u8 1, .symi .u8 2, .symi .u8 3, .symi .u8 4, .symi .u8 5, .symi .u8 9, .int .u8 0, .int .u8 0], .bool true])))))) (.node 15 (.dead) (.node 16 (.dead) (.node 17 (.dead) (.run (.leaf (.tuple [.agg [.int .i64 5, .symi .u8 1, .symi .u8 2, .symi .u8 3, .symi .u8 4, .symi .u8 9, .int .u8 0, .int .u8 0, .int .u8 0], .bool true]))))))) (.node 14 (.dead) (.node 15 (.dead) (.node 16 (.dead) (.node 17 (.dead) (.run (.leaf (.tuple [.agg [.int .i64 4, .symi .u8 1, .symi .u8 2, .symi .u8 3, .symi .u8 9, .int .u8 0, .int .u8 0, .int .u8 0, .int .u8 0], .bool true])))))))) (.node 13 (.dead) (.node 14 (.dead) (.node 15 (.dead) (.node 16 (.dead) (.node 17 (.dead) (.run (.leaf (.tuple [.agg [.int .i64 3, .symi .u8 1, .symi .u8 2, .symi .u8 9, .int .u8 0, .int .u8 0, .int .u8 0, .int .u8 0, .int .u8 0], .bool true]))))))))) (.node 12 (.dead) (.node 13 (.dead) (.node 14 (.dead) (.node 15 (.dead) (.node 16 (.dead) (.node 17 (.dead) (.run (.leaf (.tuple [.agg [.int .i64 2, .symi .u8 1, .symi .u8 9, .int .u8 0, .int .u8 0, .int .u8 0, .int .u8 0, .int .u8 0, .int .u8 0], .bool true])))))))))) (.node 11 (.dead) (.node 12 (.dead) (.node 13 (.dead) (.node 14 (.dead) (.node 15 (.dead) (.node 16 (.dead) (.node 17 (.dead) (.run (.leaf (.tuple [.agg [.int .i64 1, .symi .u8 9, .int .u8 0, .int .u8 0, .int .u8 0, .int .u8 0, .int .u8 0, .int .u8 0, .int .u8 0], .bool true]))))))))))
def rpushX : Ing := { m := 10, ins := (cellsOf q9b).map kindC, G := rpushG, T := rpushT }
theorem rpush_ok : okG rpushG 10 = true := by kernel_rfl
theorem rpush_lt : okLT 10 rpushG rpushT = true := by kernel_rfl
theorem rpush_run : okW (fun F => (evD Try.prog (cxOf rpushX) true 1000 40).1 F 83 (symSh q9b 0) ⟨[], []⟩) rpushW [] = true := by kernel_rfl
set_option maxRecDepth 100000 in
theorem rpush_contract : FnOk Try.prog 83 q9b pushO pushF :=
  fn_of_run (X := rpushX) (W := rpushW) mixed ⟨rfl, rfl, rfl, rfl, rfl⟩ rpush_ok rpush_lt (fun F => no_hooks rfl F) rpush_run (fun l σ hl e _ hi _ => by
    match l, hl with
    | [a0, a1, a2, a3, a4, a5, a6, a7, a8, a9], hl =>
    obtain ⟨w0, w1, w2, w3, w4, w5, w6, w7, w8, w9, _⟩ := hl
    have v0 : σ.ival 0 = a0 := hi 0 (by decide)
    replace w0 : IntKind.i64.wrap a0 = a0 := w0
    have v1 : σ.ival 1 = a1 := hi 1 (by decide)
    replace w1 : IntKind.u8.wrap a1 = a1 := w1
    have v2 : σ.ival 2 = a2 := hi 2 (by decide)
    replace w2 : IntKind.u8.wrap a2 = a2 := w2
    have v3 : σ.ival 3 = a3 := hi 3 (by decide)
    replace w3 : IntKind.u8.wrap a3 = a3 := w3
    have v4 : σ.ival 4 = a4 := hi 4 (by decide)
    replace w4 : IntKind.u8.wrap a4 = a4 := w4
    have v5 : σ.ival 5 = a5 := hi 5 (by decide)
    replace w5 : IntKind.u8.wrap a5 = a5 := w5
    have v6 : σ.ival 6 = a6 := hi 6 (by decide)
    replace w6 : IntKind.u8.wrap a6 = a6 := w6
    have v7 : σ.ival 7 = a7 := hi 7 (by decide)
    replace w7 : IntKind.u8.wrap a7 = a7 := w7
    have v8 : σ.ival 8 = a8 := hi 8 (by decide)
    replace w8 : IntKind.u8.wrap a8 = a8 := w8
    have v9 : σ.ival 9 = a9 := hi 9 (by decide)
    replace w9 : IntKind.u8.wrap a9 = a9 := w9
    have e10 : σ.bval 10 = decide (0 < σ.ival 0) := eqB (e.at 0 _ rfl rfl) rfl
    have e11 : σ.bval 11 = decide (1 < σ.ival 0) := eqB (e.at 1 _ rfl rfl) rfl
    have e12 : σ.bval 12 = decide (2 < σ.ival 0) := eqB (e.at 2 _ rfl rfl) rfl
    have e13 : σ.bval 13 = decide (3 < σ.ival 0) := eqB (e.at 3 _ rfl rfl) rfl
    have e14 : σ.bval 14 = decide (4 < σ.ival 0) := eqB (e.at 4 _ rfl rfl) rfl
    have e15 : σ.bval 15 = decide (5 < σ.ival 0) := eqB (e.at 5 _ rfl rfl) rfl
    have e16 : σ.bval 16 = decide (6 < σ.ival 0) := eqB (e.at 6 _ rfl rfl) rfl
    have e17 : σ.bval 17 = decide (7 < σ.ival 0) := eqB (e.at 7 _ rfl rfl) rfl
    exact ⟨⟨⟨⟨⟨⟨⟨⟨(fun hF => by
      simp only [Holds, Fact.holds, e10, e11, e12, e13, e14, e15, e16, e17, v0, decide_eq_true_eq, decide_eq_false_iff_not, and_true] at hF
      have hq : clamp a0 = 8 := by unfold clamp; split <;> (try split) <;> omega
      simp only [pushF, qp, qk, qb, List.getD_cons_zero, List.getD_cons_succ, hq]
      simp only [OutOk, OutSh, OutCs, den, denC, List.headD_cons, List.tail_cons, List.drop_succ_cons, List.drop_zero, List.length_cons, List.length_nil, v0, v1, v2, v3, v4, v5, v6, v7, v8, v9]
      repeat' apply And.intro
      all_goals first | rfl | trivial | (simp only [den, denC, v0, v1, v2, v3, v4, v5, v6, v7, v8, v9, w0, w1, w2, w3, w4, w5, w6, w7, w8, w9]; done) | (simp [den, denC, v0, v1, v2, v3, v4, v5, v6, v7, v8, v9, w0, w1, w2, w3, w4, w5, w6, w7, w8, w9]; done)),
    (fun hF => by
      simp only [Holds, Fact.holds, e10, e11, e12, e13, e14, e15, e16, e17, v0, decide_eq_true_eq, decide_eq_false_iff_not, and_true] at hF
      have hq : clamp a0 = 7 := by unfold clamp; split <;> (try split) <;> omega
      simp only [pushF, qp, qk, qb, List.getD_cons_zero, List.getD_cons_succ, hq]
      simp only [OutOk, OutSh, OutCs, den, denC, List.headD_cons, List.tail_cons, List.drop_succ_cons, List.drop_zero, List.length_cons, List.length_nil, v0, v1, v2, v3, v4, v5, v6, v7, v8, v9]
      repeat' apply And.intro
      all_goals first | rfl | trivial | (simp only [den, denC, v0, v1, v2, v3, v4, v5, v6, v7, v8, v9, w0, w1, w2, w3, w4, w5, w6, w7, w8, w9]; done) | (simp [den, denC, v0, v1, v2, v3, v4, v5, v6, v7, v8, v9, w0, w1, w2, w3, w4, w5, w6, w7, w8, w9]; done))⟩,
    ⟨(fun hF => by
      simp only [Holds, Fact.holds, e10, e11, e12, e13, e14, e15, e16, e17, v0, decide_eq_true_eq, decide_eq_false_iff_not, and_true] at hF
      omega),
    (fun hF => by
      simp only [Holds, Fact.holds, e10, e11, e12, e13, e14, e15, e16, e17, v0, decide_eq_true_eq, decide_eq_false_iff_not, and_true] at hF
      have hq : clamp a0 = 6 := by unfold clamp; split <;> (try split) <;> omega
      simp only [pushF, qp, qk, qb, List.getD_cons_zero, List.getD_cons_succ, hq]
      simp only [OutOk, OutSh, OutCs, den, denC, List.headD_cons, List.tail_cons, List.drop_succ_cons, List.drop_zero, List.length_cons, List.length_nil, v0, v1, v2, v3, v4, v5, v6, v7, v8, v9]
      repeat' apply And.intro
      all_goals first | rfl | trivial | (simp only [den, denC, v0, v1, v2, v3, v4, v5, v6, v7, v8, v9, w0, w1, w2, w3, w4, w5, w6, w7, w8, w9]; done) | (simp [den, denC, v0, v1, v2, v3, v4, v5, v6, v7, v8, v9, w0, w1, w2, w3, w4, w5, w6, w7, w8, w9]; done))⟩⟩,
    ⟨(fun hF => by
      simp only [Holds, Fact.holds, e10, e11, e12, e13, e14, e15, e16, e17, v0, decide_eq_true_eq, decide_eq_false_iff_not, and_true] at hF
      omega),
    ⟨(fun hF => by
      simp only [Holds, Fact.holds, e10, e11, e12, e13, e14, e15, e16, e17, v0, decide_eq_true_eq, decide_eq_false_iff_not, and_true] at hF
      omega),
    (fun hF => by
      simp only [Holds, Fact.holds, e10, e11, e12, e13, e14, e15, e16, e17, v0, decide_eq_true_eq, decide_eq_false_iff_not, and_true] at hF
      have hq : clamp a0 = 5 := by unfold clamp; split <;> (try split) <;> omega
      simp only [pushF, qp, qk, qb, List.getD_cons_zero, List.getD_cons_succ, hq]
      simp only [OutOk, OutSh, OutCs, den, denC, List.headD_cons, List.tail_cons, List.drop_succ_cons, List.drop_zero, List.length_cons, List.length_nil, v0, v1, v2, v3, v4, v5, v6, v7, v8, v9]
      repeat' apply And.intro
      all_goals first | rfl | trivial | (simp only [den, denC, v0, v1, v2, v3, v4, v5, v6, v7, v8, v9, w0, w1, w2, w3, w4, w5, w6, w7, w8, w9]; done) | (simp [den, denC, v0, v1, v2, v3, v4, v5, v6, v7, v8, v9, w0, w1, w2, w3, w4, w5, w6, w7, w8, w9]; done))⟩⟩⟩,
    ⟨(fun hF => by
      simp only [Holds, Fact.holds, e10, e11, e12, e13, e14, e15, e16, e17, v0, decide_eq_true_eq, decide_eq_false_iff_not, and_true] at hF
      omega),
    ⟨(fun hF => by
      simp only [Holds, Fact.holds, e10, e11, e12, e13, e14, e15, e16, e17, v0, decide_eq_true_eq, decide_eq_false_iff_not, and_true] at hF
      omega),
    ⟨(fun hF => by
      simp only [Holds, Fact.holds, e10, e11, e12, e13, e14, e15, e16, e17, v0, decide_eq_true_eq, decide_eq_false_iff_not, and_true] at hF
      omega),
    (fun hF => by
      simp only [Holds, Fact.holds, e10, e11, e12, e13, e14, e15, e16, e17, v0, decide_eq_true_eq, decide_eq_false_iff_not, and_true] at hF
      have hq : clamp a0 = 4 := by unfold clamp; split <;> (try split) <;> omega
      simp only [pushF, qp, qk, qb, List.getD_cons_zero, List.getD_cons_succ, hq]
      simp only [OutOk, OutSh, OutCs, den, denC, List.headD_cons, List.tail_cons, List.drop_succ_cons, List.drop_zero, List.length_cons, List.length_nil, v0, v1, v2, v3, v4, v5, v6, v7, v8, v9]
      repeat' apply And.intro
      all_goals first | rfl | trivial | (simp only [den, denC, v0, v1, v2, v3, v4, v5, v6, v7, v8, v9, w0, w1, w2, w3, w4, w5, w6, w7, w8, w9]; done) | (simp [den, denC, v0, v1, v2, v3, v4, v5, v6, v7, v8, v9, w0, w1, w2, w3, w4, w5, w6, w7, w8, w9]; done))⟩⟩⟩⟩,
    ⟨(fun hF => by
      simp only [Holds, Fact.holds, e10, e11, e12, e13, e14, e15, e16, e17, v0, decide_eq_true_eq, decide_eq_false_iff_not, and_true] at hF
      omega),
    ⟨(fun hF => by
      simp only [Holds, Fact.holds, e10, e11, e12, e13, e14, e15, e16, e17, v0, decide_eq_true_eq, decide_eq_false_iff_not, and_true] at hF
      omega),
    ⟨(fun hF => by
      simp only [Holds, Fact.holds, e10, e11, e12, e13, e14, e15, e16, e17, v0, decide_eq_true_eq, decide_eq_false_iff_not, and_true] at hF
      omega),
    ⟨(fun hF => by
      simp only [Holds, Fact.holds, e10, e11, e12, e13, e14, e15, e16, e17, v0, decide_eq_true_eq, decide_eq_false_iff_not, and_true] at hF
      omega),
    (fun hF => by
      simp only [Holds, Fact.holds, e10, e11, e12, e13, e14, e15, e16, e17, v0, decide_eq_true_eq, decide_eq_false_iff_not, and_true] at hF
      have hq : clamp a0 = 3 := by unfold clamp; split <;> (try split) <;> omega
      simp only [pushF, qp, qk, qb, List.getD_cons_zero, List.getD_cons_succ, hq]
      simp only [OutOk, OutSh, OutCs, den, denC, List.headD_cons, List.tail_cons, List.drop_succ_cons, List.drop_zero, List.length_cons, List.length_nil, v0, v1, v2, v3, v4, v5, v6, v7, v8, v9]
      repeat' apply And.intro
      all_goals first | rfl | trivial | (simp only [den, denC, v0, v1, v2, v3, v4, v5, v6, v7, v8, v9, w0, w1, w2, w3, w4, w5, w6, w7, w8, w9]; done) | (simp [den, denC, v0, v1, v2, v3, v4, v5, v6, v7, v8, v9, w0, w1, w2, w3, w4, w5, w6, w7, w8, w9]; done))⟩⟩⟩⟩⟩,
    ⟨(fun hF => by
      simp only [Holds, Fact.holds, e10, e11, e12, e13, e14, e15, e16, e17, v0, decide_eq_true_eq, decide_eq_false_iff_not, and_true] at hF
      omega),
    ⟨(fun hF => by
      simp only [Holds, Fact.holds, e10, e11, e12, e13, e14, e15, e16, e17, v0, decide_eq_true_eq, decide_eq_false_iff_not, and_true] at hF
      omega),
    ⟨(fun hF => by
      simp only [Holds, Fact.holds, e10, e11, e12, e13, e14, e15, e16, e17, v0, decide_eq_true_eq, decide_eq_false_iff_not, and_true] at hF
      omega),
    ⟨(fun hF => by
      simp only [Holds, Fact.holds, e10, e11, e12, e13, e14, e15, e16, e17, v0, decide_eq_true_eq, decide_eq_false_iff_not, and_true] at hF
      omega),
    ⟨(fun hF => by
      simp only [Holds, Fact.holds, e10, e11, e12, e13, e14, e15, e16, e17, v0, decide_eq_true_eq, decide_eq_false_iff_not, and_true] at hF
      omega),
    (fun hF => by
      simp only [Holds, Fact.holds, e10, e11, e12, e13, e14, e15, e16, e17, v0, decide_eq_true_eq, decide_eq_false_iff_not, and_true] at hF
      have hq : clamp a0 = 2 := by unfold clamp; split <;> (try split) <;> omega
      simp only [pushF, qp, qk, qb, List.getD_cons_zero, List.getD_cons_succ, hq]
      simp only [OutOk, OutSh, OutCs, den, denC, List.headD_cons, List.tail_cons, List.drop_succ_cons, List.drop_zero, List.length_cons, List.length_nil, v0, v1, v2, v3, v4, v5, v6, v7, v8, v9]
      repeat' apply And.intro
      all_goals first | rfl | trivial | (simp only [den, denC, v0, v1, v2, v3, v4, v5, v6, v7, v8, v9, w0, w1, w2, w3, w4, w5, w6, w7, w8, w9]; done) | (simp [den, denC, v0, v1, v2, v3, v4, v5, v6, v7, v8, v9, w0, w1, w2, w3, w4, w5, w6, w7, w8, w9]; done))⟩⟩⟩⟩⟩⟩,
    ⟨(fun hF => by
      simp only [Holds, Fact.holds, e10, e11, e12, e13, e14, e15, e16, e17, v0, decide_eq_true_eq, decide_eq_false_iff_not, and_true] at hF
      omega),
    ⟨(fun hF => by
      simp only [Holds, Fact.holds, e10, e11, e12, e13, e14, e15, e16, e17, v0, decide_eq_true_eq, decide_eq_false_iff_not, and_true] at hF
      omega),
    ⟨(fun hF => by
      simp only [Holds, Fact.holds, e10, e11, e12, e13, e14, e15, e16, e17, v0, decide_eq_true_eq, decide_eq_false_iff_not, and_true] at hF
      omega),
    ⟨(fun hF => by
      simp only [Holds, Fact.holds, e10, e11, e12, e13, e14, e15, e16, e17, v0, decide_eq_true_eq, decide_eq_false_iff_not, and_true] at hF
      omega),
    ⟨(fun hF => by
      simp only [Holds, Fact.holds, e10, e11, e12, e13, e14, e15, e16, e17, v0, decide_eq_true_eq, decide_eq_false_iff_not, and_true] at hF
      omega),
    ⟨(fun hF => by
      simp only [Holds, Fact.holds, e10, e11, e12, e13, e14, e15, e16, e17, v0, decide_eq_true_eq, decide_eq_false_iff_not, and_true] at hF
      omega),
    (fun hF => by
      simp only [Holds, Fact.holds, e10, e11, e12, e13, e14, e15, e16, e17, v0, decide_eq_true_eq, decide_eq_false_iff_not, and_true] at hF
      have hq : clamp a0 = 1 := by unfold clamp; split <;> (try split) <;> omega
      simp only [pushF, qp, qk, qb, List.getD_cons_zero, List.getD_cons_succ, hq]
      simp only [OutOk, OutSh, OutCs, den, denC, List.headD_cons, List.tail_cons, List.drop_succ_cons, List.drop_zero, List.length_cons, List.length_nil, v0, v1, v2, v3, v4, v5, v6, v7, v8, v9]
      repeat' apply And.intro
      all_goals first | rfl | trivial | (simp only [den, denC, v0, v1, v2, v3, v4, v5, v6, v7, v8, v9, w0, w1, w2, w3, w4, w5, w6, w7, w8, w9]; done) | (simp [den, denC, v0, v1, v2, v3, v4, v5, v6, v7, v8, v9, w0, w1, w2, w3, w4, w5, w6, w7, w8, w9]; done))⟩⟩⟩⟩⟩⟩⟩,
    ⟨(fun hF => by
      simp only [Holds, Fact.holds, e10, e11, e12, e13, e14, e15, e16, e17, v0, decide_eq_true_eq, decide_eq_false_iff_not, and_true] at hF
      omega),
    ⟨(fun hF => by
      simp only [Holds, Fact.holds, e10, e11, e12, e13, e14, e15, e16, e17, v0, decide_eq_true_eq, decide_eq_false_iff_not, and_true] at hF
      omega),
    ⟨(fun hF => by
      simp only [Holds, Fact.holds, e10, e11, e12, e13, e14, e15, e16, e17, v0, decide_eq_true_eq, decide_eq_false_iff_not, and_true] at hF
      omega),
    ⟨(fun hF => by
      simp only [Holds, Fact.holds, e10, e11, e12, e13, e14, e15, e16, e17, v0, decide_eq_true_eq, decide_eq_false_iff_not, and_true] at hF
      omega),
    ⟨(fun hF => by
      simp only [Holds, Fact.holds, e10, e11, e12, e13, e14, e15, e16, e17, v0, decide_eq_true_eq, decide_eq_false_iff_not, and_true] at hF
      omega),
    ⟨(fun hF => by
      simp only [Holds, Fact.holds, e10, e11, e12, e13, e14, e15, e16, e17, v0, decide_eq_true_eq, decide_eq_false_iff_not, and_true] at hF
      omega),
    ⟨(fun hF => by
      simp only [Holds, Fact.holds, e10, e11, e12, e13, e14, e15, e16, e17, v0, decide_eq_true_eq, decide_eq_false_iff_not, and_true] at hF
      omega),
    (fun hF => by
      simp only [Holds, Fact.holds, e10, e11, e12, e13, e14, e15, e16, e17, v0, decide_eq_true_eq, decide_eq_false_iff_not, and_true] at hF
      have hq : clamp a0 = 0 := by unfold clamp; split <;> (try split) <;> omega
      simp only [pushF, qp, qk, qb, List.getD_cons_zero, List.getD_cons_succ, hq]
      simp only [OutOk, OutSh, OutCs, den, denC, List.headD_cons, List.tail_cons, List.drop_succ_cons, List.drop_zero, List.length_cons, List.length_nil, v0, v1, v2, v3, v4, v5, v6, v7, v8, v9]
      repeat' apply And.intro
      all_goals first | rfl | trivial | (simp only [den, denC, v0, v1, v2, v3, v4, v5, v6, v7, v8, v9, w0, w1, w2, w3, w4, w5, w6, w7, w8, w9]; done) | (simp [den, denC, v0, v1, v2, v3, v4, v5, v6, v7, v8, v9, w0, w1, w2, w3, w4, w5, w6, w7, w8, w9]; done))⟩⟩⟩⟩⟩⟩⟩⟩)

set_option maxRecDepth 100000 in
def fpopG : List SDef := [.low [.symi .i64 0, .int .i64 8],
  .high [.int .i64 0, .symi .i64 9]]

set_option maxRecDepth 100000 in
def fpopT : LT := .n (.n (.e) 239174 9 (.low [.symi .i64 0, .int .i64 8]) (.e)) 346435103 10 (.high [.int .i64 0, .symi .i64 9]) (.e)

set_option maxRecDepth 100000 in
def fpopW : Wr' := .pick 10 0 (.run (.leaf (.tuple [.int .u8 0, .agg [.int .i64 0, .int .u8 0, .int .u8 0, .int .u8 0, .int .u8 0, .int .u8 0, .int .u8 0, .int .u8 0, .int .u8 0], .bool false]))) (.pick 10 1 (.run (.leaf (.tuple [.symi .u8 1, .agg [.int .i64 0, .int .u8 0, .int .u8 0, .int .u8 0, .int .u8 0, .int .u8 0, .int .u8 0, .int .u8 0, .int .u8 0], .bool true]))) (.pick 10 2 (.run (.leaf (.tuple [.symi .u8 1, .agg [.int .i64 1, .symi .u8 2, .int .u8 0, .int .u8 0, .int .u8 0, .int .u8 0, .int .u8 0, .int .u8 0, .int .u8 0], .bool true]))) (.pick 10 3 (.run (.leaf (.tuple [.symi .u8 1, .agg [.int .i64 2, .symi .u8 2, .symi .u8 3, .int .u8 0, .int .u8 0, .int .u8 0, .int .u8 0, .int .u8 0, .int .u8 0], .bool true]))) (.pick 10 4 (.run (.leaf (.tuple [.symi .u8 1, .agg [.int .i64 3, .symi .u8 2, .symi .u8 3, .symi .u8 4, .int .u8 0, .int .u8 0, .int .u8 0, .int .u8 0, .int .u8 0], .bool true]))) (.pick 10 5 (.run (.leaf (.tuple [.symi .u8 1, .agg [.int .i64 4, .symi .u8 2, .symi .u8 3, .symi .u8 4, .symi .u8 5, .int .u8 0, .int .u8 0, .int .u8 0, .int .u8 0], .bool true]))) (.pick 10 6 (.run (.leaf (.tuple [.symi .u8 1, .agg [.int .i64 5, .symi .u8 2, .symi .u8 3, .symi .u8 4, .symi .u8 5, .symi .u8 6, .int .u8 0, .int .u8 0, .int .u8 0], .bool true]))) (.pick 10 7 (.run (.leaf (.tuple [.symi .u8 1, .agg [.int .i64 6, .symi .u8 2, .symi .u8 3, .symi .u8 4, .symi .u8 5, .symi .u8 6, .symi .u8 7, .int .u8 0, .int .u8 0], .bool true]))) (.pick 10 8 (.run (.leaf (.tuple [.symi .u8 1, .agg [.int .i64 7, .symi .u8 2, .symi .u8 3, .symi .u8 4, .symi .u8 5, .symi .u8 6, .symi .u8 7, .symi .u8 8, .int .u8 0], .bool true]))) (.dead)))))))))
def fpopX : Ing := { m := 9, ins := (cellsOf q9).map kindC, G := fpopG, T := fpopT }
theorem fpop_ok : okG fpopG 9 = true := by kernel_rfl
theorem fpop_lt : okLT 9 fpopG fpopT = true := by kernel_rfl
theorem fpop_run : okW (fun F => (evD Try.prog (cxOf fpopX) true 1000 40).1 F 50 (symSh q9 0) ⟨[], []⟩) fpopW [] = true := by kernel_rfl
set_option maxRecDepth 100000 in
theorem fpop_contract : FnOk Try.prog 50 q9 popO popF :=
  fn_of_run (X := fpopX) (W := fpopW) mixed ⟨rfl, rfl, rfl, rfl, rfl⟩ fpop_ok fpop_lt (fun F => no_hooks rfl F) fpop_run (fun l σ hl e _ hi _ => by
    match l, hl with
    | [a0, a1, a2, a3, a4, a5, a6, a7, a8], hl =>
    obtain ⟨w0, w1, w2, w3, w4, w5, w6, w7, w8, _⟩ := hl
    have v0 : σ.ival 0 = a0 := hi 0 (by decide)
    replace w0 : IntKind.i64.wrap a0 = a0 := w0
    have v1 : σ.ival 1 = a1 := hi 1 (by decide)
    replace w1 : IntKind.u8.wrap a1 = a1 := w1
    have v2 : σ.ival 2 = a2 := hi 2 (by decide)
    replace w2 : IntKind.u8.wrap a2 = a2 := w2
    have v3 : σ.ival 3 = a3 := hi 3 (by decide)
    replace w3 : IntKind.u8.wrap a3 = a3 := w3
    have v4 : σ.ival 4 = a4 := hi 4 (by decide)
    replace w4 : IntKind.u8.wrap a4 = a4 := w4
    have v5 : σ.ival 5 = a5 := hi 5 (by decide)
    replace w5 : IntKind.u8.wrap a5 = a5 := w5
    have v6 : σ.ival 6 = a6 := hi 6 (by decide)
    replace w6 : IntKind.u8.wrap a6 = a6 := w6
    have v7 : σ.ival 7 = a7 := hi 7 (by decide)
    replace w7 : IntKind.u8.wrap a7 = a7 := w7
    have v8 : σ.ival 8 = a8 := hi 8 (by decide)
    replace w8 : IntKind.u8.wrap a8 = a8 := w8
    have e9 : σ.ival 9 = (if 8 < σ.ival 0 then 8 else σ.ival 0) := eqI (e.at 0 _ rfl rfl) rfl
    have e10 : σ.ival 10 = (if σ.ival 9 > 0 then σ.ival 9 else 0) := eqI (e.at 1 _ rfl rfl) rfl
    have hc : clamp a0 = σ.ival 10 := by rw [e10, e9, v0]; unfold clamp; split <;> split <;> split <;> (try split) <;> omega
    exact ⟨(fun hF => by
      have hq : clamp a0 = 0 := hc.trans hF.1
      simp only [popF, qk, qb, List.getD_cons_zero, List.getD_cons_succ, hq]
      simp only [OutOk, OutSh, OutCs, den, denC, List.headD_cons, List.tail_cons, List.drop_succ_cons, List.drop_zero, List.length_cons, List.length_nil, v0, v1, v2, v3, v4, v5, v6, v7, v8]
      repeat' apply And.intro
      all_goals first | rfl | trivial | (simp only [den, denC, v0, v1, v2, v3, v4, v5, v6, v7, v8, w0, w1, w2, w3, w4, w5, w6, w7, w8]; done) | (simp [den, denC, v0, v1, v2, v3, v4, v5, v6, v7, v8, w0, w1, w2, w3, w4, w5, w6, w7, w8]; done)),
    ⟨(fun hF => by
      have hq : clamp a0 = 1 := hc.trans hF.1
      simp only [popF, qk, qb, List.getD_cons_zero, List.getD_cons_succ, hq]
      simp only [OutOk, OutSh, OutCs, den, denC, List.headD_cons, List.tail_cons, List.drop_succ_cons, List.drop_zero, List.length_cons, List.length_nil, v0, v1, v2, v3, v4, v5, v6, v7, v8]
      repeat' apply And.intro
      all_goals first | rfl | trivial | (simp only [den, denC, v0, v1, v2, v3, v4, v5, v6, v7, v8, w0, w1, w2, w3, w4, w5, w6, w7, w8]; done) | (simp [den, denC, v0, v1, v2, v3, v4, v5, v6, v7, v8, w0, w1, w2, w3, w4, w5, w6, w7, w8]; done)),
    ⟨(fun hF => by
      have hq : clamp a0 = 2 := hc.trans hF.1
      simp only [popF, qk, qb, List.getD_cons_zero, List.getD_cons_succ, hq]
      simp only [OutOk, OutSh, OutCs, den, denC, List.headD_cons, List.tail_cons, List.drop_succ_cons, List.drop_zero, List.length_cons, List.length_nil, v0, v1, v2, v3, v4, v5, v6, v7, v8]
      repeat' apply And.intro
      all_goals first | rfl | trivial | (simp only [den, denC, v0, v1, v2, v3, v4, v5, v6, v7, v8, w0, w1, w2, w3, w4, w5, w6, w7, w8]; done) | (simp [den, denC, v0, v1, v2, v3, v4, v5, v6, v7, v8, w0, w1, w2, w3, w4, w5, w6, w7, w8]; done)),
    ⟨(fun hF => by
      have hq : clamp a0 = 3 := hc.trans hF.1
      simp only [popF, qk, qb, List.getD_cons_zero, List.getD_cons_succ, hq]
      simp only [OutOk, OutSh, OutCs, den, denC, List.headD_cons, List.tail_cons, List.drop_succ_cons, List.drop_zero, List.length_cons, List.length_nil, v0, v1, v2, v3, v4, v5, v6, v7, v8]
      repeat' apply And.intro
      all_goals first | rfl | trivial | (simp only [den, denC, v0, v1, v2, v3, v4, v5, v6, v7, v8, w0, w1, w2, w3, w4, w5, w6, w7, w8]; done) | (simp [den, denC, v0, v1, v2, v3, v4, v5, v6, v7, v8, w0, w1, w2, w3, w4, w5, w6, w7, w8]; done)),
    ⟨(fun hF => by
      have hq : clamp a0 = 4 := hc.trans hF.1
      simp only [popF, qk, qb, List.getD_cons_zero, List.getD_cons_succ, hq]
      simp only [OutOk, OutSh, OutCs, den, denC, List.headD_cons, List.tail_cons, List.drop_succ_cons, List.drop_zero, List.length_cons, List.length_nil, v0, v1, v2, v3, v4, v5, v6, v7, v8]
      repeat' apply And.intro
      all_goals first | rfl | trivial | (simp only [den, denC, v0, v1, v2, v3, v4, v5, v6, v7, v8, w0, w1, w2, w3, w4, w5, w6, w7, w8]; done) | (simp [den, denC, v0, v1, v2, v3, v4, v5, v6, v7, v8, w0, w1, w2, w3, w4, w5, w6, w7, w8]; done)),
    ⟨(fun hF => by
      have hq : clamp a0 = 5 := hc.trans hF.1
      simp only [popF, qk, qb, List.getD_cons_zero, List.getD_cons_succ, hq]
      simp only [OutOk, OutSh, OutCs, den, denC, List.headD_cons, List.tail_cons, List.drop_succ_cons, List.drop_zero, List.length_cons, List.length_nil, v0, v1, v2, v3, v4, v5, v6, v7, v8]
      repeat' apply And.intro
      all_goals first | rfl | trivial | (simp only [den, denC, v0, v1, v2, v3, v4, v5, v6, v7, v8, w0, w1, w2, w3, w4, w5, w6, w7, w8]; done) | (simp [den, denC, v0, v1, v2, v3, v4, v5, v6, v7, v8, w0, w1, w2, w3, w4, w5, w6, w7, w8]; done)),
    ⟨(fun hF => by
      have hq : clamp a0 = 6 := hc.trans hF.1
      simp only [popF, qk, qb, List.getD_cons_zero, List.getD_cons_succ, hq]
      simp only [OutOk, OutSh, OutCs, den, denC, List.headD_cons, List.tail_cons, List.drop_succ_cons, List.drop_zero, List.length_cons, List.length_nil, v0, v1, v2, v3, v4, v5, v6, v7, v8]
      repeat' apply And.intro
      all_goals first | rfl | trivial | (simp only [den, denC, v0, v1, v2, v3, v4, v5, v6, v7, v8, w0, w1, w2, w3, w4, w5, w6, w7, w8]; done) | (simp [den, denC, v0, v1, v2, v3, v4, v5, v6, v7, v8, w0, w1, w2, w3, w4, w5, w6, w7, w8]; done)),
    ⟨(fun hF => by
      have hq : clamp a0 = 7 := hc.trans hF.1
      simp only [popF, qk, qb, List.getD_cons_zero, List.getD_cons_succ, hq]
      simp only [OutOk, OutSh, OutCs, den, denC, List.headD_cons, List.tail_cons, List.drop_succ_cons, List.drop_zero, List.length_cons, List.length_nil, v0, v1, v2, v3, v4, v5, v6, v7, v8]
      repeat' apply And.intro
      all_goals first | rfl | trivial | (simp only [den, denC, v0, v1, v2, v3, v4, v5, v6, v7, v8, w0, w1, w2, w3, w4, w5, w6, w7, w8]; done) | (simp [den, denC, v0, v1, v2, v3, v4, v5, v6, v7, v8, w0, w1, w2, w3, w4, w5, w6, w7, w8]; done)),
    ⟨(fun hF => by
      have hq : clamp a0 = 8 := hc.trans hF.1
      simp only [popF, qk, qb, List.getD_cons_zero, List.getD_cons_succ, hq]
      simp only [OutOk, OutSh, OutCs, den, denC, List.headD_cons, List.tail_cons, List.drop_succ_cons, List.drop_zero, List.length_cons, List.length_nil, v0, v1, v2, v3, v4, v5, v6, v7, v8]
      repeat' apply And.intro
      all_goals first | rfl | trivial | (simp only [den, denC, v0, v1, v2, v3, v4, v5, v6, v7, v8, w0, w1, w2, w3, w4, w5, w6, w7, w8]; done) | (simp [den, denC, v0, v1, v2, v3, v4, v5, v6, v7, v8, w0, w1, w2, w3, w4, w5, w6, w7, w8]; done)),
    (fun hF => by
      simp only [Holds, Fact.holds, ← hc, and_true] at hF
      have := clamp_in a0
      omega)⟩⟩⟩⟩⟩⟩⟩⟩⟩)

set_option maxRecDepth 100000 in
def rpopG : List SDef := [.bin .lss (.int .i64 0) (.symi .i64 0),
  .bin .lss (.int .i64 1) (.symi .i64 0),
  .bin .lss (.int .i64 2) (.symi .i64 0),
  .bin .lss (.int .i64 3) (.symi .i64 0),
  .bin .lss (.int .i64 4) (.symi .i64 0),
  .bin .lss (.int .i64 5) (.symi .i64 0),
  .bin .lss (.int .i64 6) (.symi .i64 0),
  .bin .lss (.int .i64 7) (.symi .i64 0)]

set_option maxRecDepth 100000 in
def rpopT : LT := .n (.n (.n (.n (.e) 30220 9 (.bin .lss (.int .i64 0) (.symi .i64 0)) (.e)) 30725 10 (.bin .lss (.int .i64 1) (.symi .i64 0)) (.e)) 31230 11 (.bin .lss (.int .i64 2) (.symi .i64 0)) (.n (.e) 31735 12 (.bin .lss (.int .i64 3) (.symi .i64 0)) (.e))) 32240 13 (.bin .lss (.int .i64 4) (.symi .i64 0)) (.n (.n (.e) 32745 14 (.bin .lss (.int .i64 5) (.symi .i64 0)) (.e)) 33250 15 (.bin .lss (.int .i64 6) (.symi .i64 0)) (.n (.e) 33755 16 (.bin .lss (.int .i64 7) (.symi .i64 0)) (.e)))

set_option maxRecDepth 100000 in
def rpopW : Wr' := .node 9 (.node 10 (.node 11 (.node 12 (.node 13 (.node 14 (.node 15 (.node 16 (.run (.leaf (.tuple [.symi .u8 1, .agg [.int .i64 7, .symi .u8 2, .symi .u8 3, .symi .u8 4, .symi .u8 5, .symi .u8 6, .symi .u8 7, .symi .u8 8, .int .u8 0], .bool true]))) (.run (.leaf (.tuple [.symi .u8 1, .agg [.int .i64 6, .symi .u8 2, .symi .u8 3, .symi .u8 4, .symi .u8 5, .symi .u8 6, .symi .u8 7, .int .u8 0, .int .u8 0], .bool true])))) (.node 16 (.dead) (.run (.leaf (.tuple [.symi .u8 1, .agg [.int .i64 5, .symi .u8 2, .symi .u8 3, .symi .u8 4, .symi .u8 5, .symi .u8 6, .int .u8 0, .int .u8 0, .int .u8 0], .bool true]))))) (.node 15 (.dead) (.node 16 (.dead) (.run (.leaf (.tuple [.symi .u8 1, .agg [.int .i64 4, .symi .u8 2, .symi .u8 3, .symi .u8 4, .symi .u8 5, .int .u8 0, .int .u8 0, .int .u8 0, .int .u8 0], .bool true])))))) (.node 14 (.dead) (.node 15 (.dead) (.node 16 (.dead) (.run (.leaf (.tuple [.symi .u8 1, .agg [.int .i64 3, .symi .u8 2, .symi .u8 3, .symi .u8 4, .int .u8 0, .int .u8 0, .int .u8 0, .int .u8 0, .int .u8 0], .bool true]))))))) (.node 13 (.dead) (.node 14 (.dead) (.node 15 (.dead) (.node 16 (.dead) (.run (.leaf (.tuple [.symi .u8 1, .agg [.int .i64 2, .symi .u8 2, .symi .u8 3, .int .u8 0, .int .u8 0, .int .u8 0, .int .u8 0, .int .u8 0, .int .u8 0], .bool true])))))))) (.node 12 (.dead) (.node 13 (.dead) (.node 14 (.dead) (.node 15 (.dead) (.node 16 (.dead) (.run (.leaf (.tuple [.symi .u8 1, .agg [.int .i64 1, .symi .u8 2, .int .u8 0, .int .u8 0, .int .u8 0, .int .u8 0, .int .u8 0, .int .u8 0, .int .u8 0], .bool true]))))))))) (.node 11 (.dead) (.node 12 (.dead) (.node 13 (.dead) (.node 14 (.dead) (.node 15 (.dead) (.node 16 (.dead) (.run (.leaf (.tuple [.symi .u8 1, .agg [.int .i64 0, .int .u8 0, .int .u8 0, .int .u8 0, .int .u8 0, .int .u8 0, .int .u8 0, .int .u8 0, .int .u8 0], .bool true])))))))))) (.node 10 (.dead) (.node 11 (.dead) (.node 12 (.dead) (.node 13 (.dead) (.node 14 (.dead) (.node 15 (.dead) (.node 16 (.dead) (.run (.leaf (.tuple [.int .u8 0, .agg [.int .i64 0, .int .u8 0, .int .u8 0, .int .u8 0, .int .u8 0, .int .u8 0, .int .u8 0, .int .u8 0, .int .u8 0], .bool false]))))))))))
def rpopX : Ing := { m := 9, ins := (cellsOf q9).map kindC, G := rpopG, T := rpopT }
theorem rpop_ok : okG rpopG 9 = true := by kernel_rfl
theorem rpop_lt : okLT 9 rpopG rpopT = true := by kernel_rfl
theorem rpop_run : okW (fun F => (evD Try.prog (cxOf rpopX) true 1000 40).1 F 82 (symSh q9 0) ⟨[], []⟩) rpopW [] = true := by kernel_rfl
set_option maxRecDepth 100000 in
theorem rpop_contract : FnOk Try.prog 82 q9 popO popF :=
  fn_of_run (X := rpopX) (W := rpopW) mixed ⟨rfl, rfl, rfl, rfl, rfl⟩ rpop_ok rpop_lt (fun F => no_hooks rfl F) rpop_run (fun l σ hl e _ hi _ => by
    match l, hl with
    | [a0, a1, a2, a3, a4, a5, a6, a7, a8], hl =>
    obtain ⟨w0, w1, w2, w3, w4, w5, w6, w7, w8, _⟩ := hl
    have v0 : σ.ival 0 = a0 := hi 0 (by decide)
    replace w0 : IntKind.i64.wrap a0 = a0 := w0
    have v1 : σ.ival 1 = a1 := hi 1 (by decide)
    replace w1 : IntKind.u8.wrap a1 = a1 := w1
    have v2 : σ.ival 2 = a2 := hi 2 (by decide)
    replace w2 : IntKind.u8.wrap a2 = a2 := w2
    have v3 : σ.ival 3 = a3 := hi 3 (by decide)
    replace w3 : IntKind.u8.wrap a3 = a3 := w3
    have v4 : σ.ival 4 = a4 := hi 4 (by decide)
    replace w4 : IntKind.u8.wrap a4 = a4 := w4
    have v5 : σ.ival 5 = a5 := hi 5 (by decide)
    replace w5 : IntKind.u8.wrap a5 = a5 := w5
    have v6 : σ.ival 6 = a6 := hi 6 (by decide)
    replace w6 : IntKind.u8.wrap a6 = a6 := w6
    have v7 : σ.ival 7 = a7 := hi 7 (by decide)
    replace w7 : IntKind.u8.wrap a7 = a7 := w7
    have v8 : σ.ival 8 = a8 := hi 8 (by decide)
    replace w8 : IntKind.u8.wrap a8 = a8 := w8
    have e9 : σ.bval 9 = decide (0 < σ.ival 0) := eqB (e.at 0 _ rfl rfl) rfl
    have e10 : σ.bval 10 = decide (1 < σ.ival 0) := eqB (e.at 1 _ rfl rfl) rfl
    have e11 : σ.bval 11 = decide (2 < σ.ival 0) := eqB (e.at 2 _ rfl rfl) rfl
    have e12 : σ.bval 12 = decide (3 < σ.ival 0) := eqB (e.at 3 _ rfl rfl) rfl
    have e13 : σ.bval 13 = decide (4 < σ.ival 0) := eqB (e.at 4 _ rfl rfl) rfl
    have e14 : σ.bval 14 = decide (5 < σ.ival 0) := eqB (e.at 5 _ rfl rfl) rfl
    have e15 : σ.bval 15 = decide (6 < σ.ival 0) := eqB (e.at 6 _ rfl rfl) rfl
    have e16 : σ.bval 16 = decide (7 < σ.ival 0) := eqB (e.at 7 _ rfl rfl) rfl
    exact ⟨⟨⟨⟨⟨⟨⟨⟨(fun hF => by
      simp only [Holds, Fact.holds, e9, e10, e11, e12, e13, e14, e15, e16, v0, decide_eq_true_eq, decide_eq_false_iff_not, and_true] at hF
      have hq : clamp a0 = 8 := by unfold clamp; split <;> (try split) <;> omega
      simp only [popF, qk, qb, List.getD_cons_zero, List.getD_cons_succ, hq]
      simp only [OutOk, OutSh, OutCs, den, denC, List.headD_cons, List.tail_cons, List.drop_succ_cons, List.drop_zero, List.length_cons, List.length_nil, v0, v1, v2, v3, v4, v5, v6, v7, v8]
      repeat' apply And.intro
      all_goals first | rfl | trivial | (simp only [den, denC, v0, v1, v2, v3, v4, v5, v6, v7, v8, w0, w1, w2, w3, w4, w5, w6, w7, w8]; done) | (simp [den, denC, v0, v1, v2, v3, v4, v5, v6, v7, v8, w0, w1, w2, w3, w4, w5, w6, w7, w8]; done)),
    (fun hF => by
      simp only [Holds, Fact.holds, e9, e10, e11, e12, e13, e14, e15, e16, v0, decide_eq_true_eq, decide_eq_false_iff_not, and_true] at hF
      have hq : clamp a0 = 7 := by unfold clamp; split <;> (try split) <;> omega
      simp only [popF, qk, qb, List.getD_cons_zero, List.getD_cons_succ, hq]
      simp only [OutOk, OutSh, OutCs, den, denC, List.headD_cons, List.tail_cons, List.drop_succ_cons, List.drop_zero, List.length_cons, List.length_nil, v0, v1, v2, v3, v4, v5, v6, v7, v8]
      repeat' apply And.intro
      all_goals first | rfl | trivial | (simp only [den, denC, v0, v1, v2, v3, v4, v5, v6, v7, v8, w0, w1, w2, w3, w4, w5, w6, w7, w8]; done) | (simp [den, denC, v0, v1, v2, v3, v4, v5, v6, v7, v8, w0, w1, w2, w3, w4, w5, w6, w7, w8]; done))⟩,
    ⟨(fun hF => by
      simp only [Holds, Fact.holds, e9, e10, e11, e12, e13, e14, e15, e16, v0, decide_eq_true_eq, decide_eq_false_iff_not, and_true] at hF
      omega),
    (fun hF => by
      simp only [Holds, Fact.holds, e9, e10, e11, e12, e13, e14, e15, e16, v0, decide_eq_true_eq, decide_eq_false_iff_not, and_true] at hF
      have hq : clamp a0 = 6 := by unfold clamp; split <;> (try split) <;> omega
      simp only [popF, qk, qb, List.getD_cons_zero, List.getD_cons_succ, hq]
      simp only [OutOk, OutSh, OutCs, den, denC, List.headD_cons, List.tail_cons, List.drop_succ_cons, List.drop_zero, List.length_cons, List.length_nil, v0, v1, v2, v3, v4, v5, v6, v7, v8]
      repeat' apply And.intro
      all_goals first | rfl | trivial | (simp only [den, denC, v0, v1, v2, v3, v4, v5, v6, v7, v8, w0, w1, w2, w3, w4, w5, w6, w7, w8]; done) | (simp [den, denC, v0, v1, v2, v3, v4, v5, v6, v7, v8, w0, w1, w2, w3, w4, w5, w6, w7, w8]; done))⟩⟩,
    ⟨(fun hF => by
      simp only [Holds, Fact.holds, e9, e10, e11, e12, e13, e14, e15, e16, v0, decide_eq_true_eq, decide_eq_false_iff_not, and_true] at hF
      omega),
    ⟨(fun hF => by
      simp only [Holds, Fact.holds, e9, e10, e11, e12, e13, e14, e15, e16, v0, decide_eq_true_eq, decide_eq_false_iff_not, and_true] at hF
      omega),
    (fun hF => by
      simp only [Holds, Fact.holds, e9, e10, e11, e12, e13, e14, e15, e16, v0, decide_eq_true_eq, decide_eq_false_iff_not, and_true] at hF
      have hq : clamp a0 = 5 := by unfold clamp; split <;> (try split) <;> omega
      simp only [popF, qk, qb, List.getD_cons_zero, List.getD_cons_succ, hq]
      simp only [OutOk, OutSh, OutCs, den, denC, List.headD_cons, List.tail_cons, List.drop_succ_cons, List.drop_zero, List.length_cons, List.length_nil, v0, v1, v2, v3, v4, v5, v6, v7, v8]
      repeat' apply And.intro
      all_goals first | rfl | trivial | (simp only [den, denC, v0, v1, v2, v3, v4, v5, v6, v7, v8, w0, w1, w2, w3, w4, w5, w6, w7, w8]; done) | (simp [den, denC, v0, v1, v2, v3, v4, v5, v6, v7, v8, w0, w1, w2, w3, w4, w5, w6, w7, w8]; done))⟩⟩⟩,
    ⟨(fun hF => by
      simp only [Holds, Fact.holds, e9, e10, e11, e12, e13, e14, e15, e16, v0, decide_eq_true_eq, decide_eq_false_iff_not, and_true] at hF
      omega),
    ⟨(fun hF => by
      simp only [Holds, Fact.holds, e9, e10, e11, e12, e13, e14, e15, e16, v0, decide_eq_true_eq, decide_eq_false_iff_not, and_true] at hF
      omega),
    ⟨(fun hF => by
      simp only [Holds, Fact.holds, e9, e10, e11, e12, e13, e14, e15, e16, v0, decide_eq_true_eq, decide_eq_false_iff_not, and_true] at hF
      omega),
    (fun hF => by
      simp only [Holds, Fact.holds, e9, e10, e11, e12, e13, e14, e15, e16, v0, decide_eq_true_eq, decide_eq_false_iff_not, and_true] at hF
      have hq : clamp a0 = 4 := by unfold clamp; split <;> (try split) <;> omega
      simp only [popF, qk, qb, List.getD_cons_zero, List.getD_cons_succ, hq]
      simp only [OutOk, OutSh, OutCs, den, denC, List.headD_cons, List.tail_cons, List.drop_succ_cons, List.drop_zero, List.length_cons, List.length_nil, v0, v1, v2, v3, v4, v5, v6, v7, v8]
      repeat' apply And.intro
      all_goals first | rfl | trivial | (simp only [den, denC, v0, v1, v2, v3, v4, v5, v6, v7, v8, w0, w1, w2, w3, w4, w5, w6, w7, w8]; done) | (simp [den, denC, v0, v1, v2, v3, v4, v5, v6, v7, v8, w0, w1, w2, w3, w4, w5, w6, w7, w8]; done))⟩⟩⟩⟩,
    ⟨(fun hF => by
      simp only [Holds, Fact.holds, e9, e10, e11, e12, e13, e14, e15, e16, v0, decide_eq_true_eq, decide_eq_false_iff_not, and_true] at hF
      omega),
    ⟨(fun hF => by
      simp only [Holds, Fact.holds, e9, e10, e11, e12, e13, e14, e15, e16, v0, decide_eq_true_eq, decide_eq_false_iff_not, and_true] at hF
      omega),
    ⟨(fun hF => by
      simp only [Holds, Fact.holds, e9, e10, e11, e12, e13, e14, e15, e16, v0, decide_eq_true_eq, decide_eq_false_iff_not, and_true] at hF
      omega),
    ⟨(fun hF => by
      simp only [Holds, Fact.holds, e9, e10, e11, e12, e13, e14, e15, e16, v0, decide_eq_true_eq, decide_eq_false_iff_not, and_true] at hF
      omega),
    (fun hF => by
      simp only [Holds, Fact.holds, e9, e10, e11, e12, e13, e14, e15, e16, v0, decide_eq_true_eq, decide_eq_false_iff_not, and_true] at hF
      have hq : clamp a0 = 3 := by unfold clamp; split <;> (try split) <;> omega
      simp only [popF, qk, qb, List.getD_cons_zero, List.getD_cons_succ, hq]
      simp only [OutOk, OutSh, OutCs, den, denC, List.headD_cons, List.tail_cons, List.drop_succ_cons, List.drop_zero, List.length_cons, List.length_nil, v0, v1, v2, v3, v4, v5, v6, v7, v8]
      repeat' apply And.intro
      all_goals first | rfl | trivial | (simp only [den, denC, v0, v1, v2, v3, v4, v5, v6, v7, v8, w0, w1, w2, w3, w4, w5, w6, w7, w8]; done) | (simp [den, denC, v0, v1, v2, v3, v4, v5, v6, v7, v8, w0, w1, w2, w3, w4, w5, w6, w7, w8]; done))⟩⟩⟩⟩⟩,
    ⟨(fun hF => by
      simp only [Holds, Fact.holds, e9, e10, e11, e12, e13, e14, e15, e16, v0, decide_eq_true_eq, decide_eq_false_iff_not, and_true] at hF
      omega),
    ⟨(fun hF => by
      simp only [Holds, Fact.holds, e9, e10, e11, e12, e13, e14, e15, e16, v0, decide_eq_true_eq, decide_eq_false_iff_not, and_true] at hF
      omega),
    ⟨(fun hF => by
      simp only [Holds, Fact.holds, e9, e10, e11, e12, e13, e14, e15, e16, v0, decide_eq_true_eq, decide_eq_false_iff_not, and_true] at hF
      omega),
    ⟨(fun hF => by
      simp only [Holds, Fact.holds, e9, e10, e11, e12, e13, e14, e15, e16, v0, decide_eq_true_eq, decide_eq_false_iff_not, and_true] at hF
      omega),
    ⟨(fun hF => by
      simp only [Holds, Fact.holds, e9, e10, e11, e12, e13, e14, e15, e16, v0, decide_eq_true_eq, decide_eq_false_iff_not, and_true] at hF
      omega),
    (fun hF => by
      simp only [Holds, Fact.holds, e9, e10, e11, e12, e13, e14, e15, e16, v0, decide_eq_true_eq, decide_eq_false_iff_not, and_true] at hF
      have hq : clamp a0 = 2 := by unfold clamp; split <;> (try split) <;> omega
      simp only [popF, qk, qb, List.getD_cons_zero, List.getD_cons_succ, hq]
      simp only [OutOk, OutSh, OutCs, den, denC, List.headD_cons, List.tail_cons, List.drop_succ_cons, List.drop_zero, List.length_cons, List.length_nil, v0, v1, v2, v3, v4, v5, v6, v7, v8]
      repeat' apply And.intro
      all_goals first | rfl | trivial | (simp only [den, denC, v0, v1, v2, v3, v4, v5, v6, v7, v8, w0, w1, w2, w3, w4, w5, w6, w7, w8]; done) | (simp [den, denC, v0, v1, v2, v3, v4, v5, v6, v7, v8, w0, w1, w2, w3, w4, w5, w6, w7, w8]; done))⟩⟩⟩⟩⟩⟩,
    ⟨(fun hF => by
      simp only [Holds, Fact.holds, e9, e10, e11, e12, e13, e14, e15, e16, v0, decide_eq_true_eq, decide_eq_false_iff_not, and_true] at hF
      omega),
    ⟨(fun hF => by
      simp only [Holds, Fact.holds, e9, e10, e11, e12, e13, e14, e15, e16, v0, decide_eq_true_eq, decide_eq_false_iff_not, and_true] at hF
      omega),
    ⟨(fun hF => by
      simp only [Holds, Fact.holds, e9, e10, e11, e12, e13, e14, e15, e16, v0, decide_eq_true_eq, decide_eq_false_iff_not, and_true] at hF
      omega),
    ⟨(fun hF => by
      simp only [Holds, Fact.holds, e9, e10, e11, e12, e13, e14, e15, e16, v0, decide_eq_true_eq, decide_eq_false_iff_not, and_true] at hF
      omega),
    ⟨(fun hF => by
      simp only [Holds, Fact.holds, e9, e10, e11, e12, e13, e14, e15, e16, v0, decide_eq_true_eq, decide_eq_false_iff_not, and_true] at hF
      omega),
    ⟨(fun hF => by
      simp only [Holds, Fact.holds, e9, e10, e11, e12, e13, e14, e15, e16, v0, decide_eq_true_eq, decide_eq_false_iff_not, and_true] at hF
      omega),
    (fun hF => by
      simp only [Holds, Fact.holds, e9, e10, e11, e12, e13, e14, e15, e16, v0, decide_eq_true_eq, decide_eq_false_iff_not, and_true] at hF
      have hq : clamp a0 = 1 := by unfold clamp; split <;> (try split) <;> omega
      simp only [popF, qk, qb, List.getD_cons_zero, List.getD_cons_succ, hq]
      simp only [OutOk, OutSh, OutCs, den, denC, List.headD_cons, List.tail_cons, List.drop_succ_cons, List.drop_zero, List.length_cons, List.length_nil, v0, v1, v2, v3, v4, v5, v6, v7, v8]
      repeat' apply And.intro
      all_goals first | rfl | trivial | (simp only [den, denC, v0, v1, v2, v3, v4, v5, v6, v7, v8, w0, w1, w2, w3, w4, w5, w6, w7, w8]; done) | (simp [den, denC, v0, v1, v2, v3, v4, v5, v6, v7, v8, w0, w1, w2, w3, w4, w5, w6, w7, w8]; done))⟩⟩⟩⟩⟩⟩⟩,
    ⟨(fun hF => by
      simp only [Holds, Fact.holds, e9, e10, e11, e12, e13, e14, e15, e16, v0, decide_eq_true_eq, decide_eq_false_iff_not, and_true] at hF
      omega),
    ⟨(fun hF => by
      simp only [Holds, Fact.holds, e9, e10, e11, e12, e13, e14, e15, e16, v0, decide_eq_true_eq, decide_eq_false_iff_not, and_true] at hF
      omega),
    ⟨(fun hF => by
      simp only [Holds, Fact.holds, e9, e10, e11, e12, e13, e14, e15, e16, v0, decide_eq_true_eq, decide_eq_false_iff_not, and_true] at hF
      omega),
    ⟨(fun hF => by
      simp only [Holds, Fact.holds, e9, e10, e11, e12, e13, e14, e15, e16, v0, decide_eq_true_eq, decide_eq_false_iff_not, and_true] at hF
      omega),
    ⟨(fun hF => by
      simp only [Holds, Fact.holds, e9, e10, e11, e12, e13, e14, e15, e16, v0, decide_eq_true_eq, decide_eq_false_iff_not, and_true] at hF
      omega),
    ⟨(fun hF => by
      simp only [Holds, Fact.holds, e9, e10, e11, e12, e13, e14, e15, e16, v0, decide_eq_true_eq, decide_eq_false_iff_not, and_true] at hF
      omega),
    ⟨(fun hF => by
      simp only [Holds, Fact.holds, e9, e10, e11, e12, e13, e14, e15, e16, v0, decide_eq_true_eq, decide_eq_false_iff_not, and_true] at hF
      omega),
    (fun hF => by
      simp only [Holds, Fact.holds, e9, e10, e11, e12, e13, e14, e15, e16, v0, decide_eq_true_eq, decide_eq_false_iff_not, and_true] at hF
      have hq : clamp a0 = 0 := by unfold clamp; split <;> (try split) <;> omega
      simp only [popF, qk, qb, List.getD_cons_zero, List.getD_cons_succ, hq]
      simp only [OutOk, OutSh, OutCs, den, denC, List.headD_cons, List.tail_cons, List.drop_succ_cons, List.drop_zero, List.length_cons, List.length_nil, v0, v1, v2, v3, v4, v5, v6, v7, v8]
      repeat' apply And.intro
      all_goals first | rfl | trivial | (simp only [den, denC, v0, v1, v2, v3, v4, v5, v6, v7, v8, w0, w1, w2, w3, w4, w5, w6, w7, w8]; done) | (simp [den, denC, v0, v1, v2, v3, v4, v5, v6, v7, v8, w0, w1, w2, w3, w4, w5, w6, w7, w8]; done))⟩⟩⟩⟩⟩⟩⟩⟩)

end Go.Proofs.Ytgifnmiggloclab.fc
