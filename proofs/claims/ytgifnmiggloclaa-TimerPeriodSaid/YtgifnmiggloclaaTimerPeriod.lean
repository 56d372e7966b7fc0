/-
  ploverlaw13.TimerPeriod is true: reckoned with unknown numbers, in pieces; the loop by what holds ahead of each round; ticks by their contract.
  No conditions.
-/
import Derived.Test.YtgifnmiggloclaaRows
import Derived.WalkKit
import Derived.ProofKit
import Derived.OpenShut
import Derived.Below
import Derived.ChangeSame
import Derived.Test.YtgifnmiggloclaaTl
import Derived.Test.YtgifnmiggloclaaEvT
namespace Go.Proofs.Ytgifnmiggloclaa.timerPeriod
open Go.ChangeShapes Go.WideShapes Go.ChangeAt Go.RowKit
open Go.Ev Go.Proofs.Ytgifnmiggloclaa.tk
set_option linter.unusedVariables false

theorem own : ownKnob Try.prog.godebug = none := by kernel_rfl

def s0 : Shape := ⟨argT 0 [.agg [.symi .u16 0, .symi .u16 1, .symi .u16 2], .symi .u16 3, .symi .u32 4], []⟩
def sL : Shape := ⟨[(2, .symi .u32 12), (7, .ptr 0 0), (13, .ptr 1 0), (8, .symi .i64 5), (9, .symi .i64 6), (10, .symb 7), (11, .symb 8), (12, .symi .i64 9), (14, .symi .i64 10), (15, .symi .i64 11)],
  [.cells [.symi .u16 0, .symi .u16 1, .symi .u16 2] 68, .cells [.symi .u16 3, .symi .u16 1, .symi .u16 4] 68]⟩
def sE : Shape := ⟨[(6, .bool true)], []⟩

def tpAG : List SDef := [.fn 3 .i64 [.symi .u16 0, .symi .u16 1, .symi .u16 2],
  .conv .i64 (.symi .u16 1),
  .bin .eql (.symi .i64 6) (.int .i64 0),
  .bin .and (.symi .u16 2) (.int .u16 1),
  .bin .eql (.symi .u16 8) (.int .u16 1),
  .bin .and (.symi .u16 2) (.int .u16 2),
  .bin .eql (.symi .u16 10) (.int .u16 2),
  .bin .gtr (.symi .i64 5) (.int .i64 0),
  .bin .neq (.symb 9) (.symb 12),
  .bin .gtr (.symi .i64 5) (.int .i64 65536),
  .bin .neq (.symb 9) (.bool true),
  .bin .neq (.symb 9) (.bool false),
  .bin .neq (.bool true) (.symb 12),
  .bin .neq (.bool false) (.symb 12),
  .conv .i64 (.symi .u16 0),
  .bin .add (.symi .i64 19) (.symi .i64 5),
  .bin .sub (.symi .i64 20) (.symi .i64 6),
  .bin .rem (.symi .i64 21) (.int .i64 65536),
  .bin .neq (.symi .i64 22) (.int .i64 0),
  .bin .rem (.symi .u16 3) (.int .u16 300),
  .conv .i64 (.symi .u16 24)]

def tpAT : Sr := .node 7 (.node 13 (.dead) (.node 14 (.dead) (.node 12 (.node 15 (.dead) (.node 9 (.node 23 (.dead) (.leaf .normal sL [(1, 0), (2, 0)] [(12, .symi .u32 4), (5, .symi .i64 5), (6, .int .i64 65536), (7, .bool true), (8, .symb 11), (9, .symi .i64 25), (10, .int .i64 0), (11, .int .i64 1), (0, .symi .u16 0), (1, .symi .u16 1), (2, .symi .u16 2), (3, .symi .u16 0), (1, .symi .u16 1), (4, .symi .u16 2)])) (.dead))) (.node 16 (.dead) (.node 9 (.dead) (.leaf .normal sL [(1, 0), (2, 0)] [(12, .symi .u32 4), (5, .symi .i64 5), (6, .int .i64 65536), (7, .bool false), (8, .symb 11), (9, .symi .i64 25), (10, .int .i64 0), (11, .int .i64 1), (0, .symi .u16 0), (1, .symi .u16 1), (2, .symi .u16 2), (3, .symi .u16 0), (1, .symi .u16 1), (4, .symi .u16 2)])))))) (.node 13 (.dead) (.node 14 (.dead) (.node 12 (.node 15 (.dead) (.node 9 (.node 23 (.dead) (.leaf .normal sL [(1, 0), (2, 0)] [(12, .symi .u32 4), (5, .symi .i64 5), (6, .symi .i64 6), (7, .bool true), (8, .symb 11), (9, .symi .i64 25), (10, .int .i64 0), (11, .int .i64 1), (0, .symi .u16 0), (1, .symi .u16 1), (2, .symi .u16 2), (3, .symi .u16 0), (1, .symi .u16 1), (4, .symi .u16 2)])) (.dead))) (.node 16 (.dead) (.node 9 (.dead) (.leaf .normal sL [(1, 0), (2, 0)] [(12, .symi .u32 4), (5, .symi .i64 5), (6, .symi .i64 6), (7, .bool false), (8, .symb 11), (9, .symi .i64 25), (10, .int .i64 0), (11, .int .i64 1), (0, .symi .u16 0), (1, .symi .u16 1), (2, .symi .u16 2), (3, .symi .u16 0), (1, .symi .u16 1), (4, .symi .u16 2)]))))))

def tpBG : List SDef := [.bin .leq (.symi .i64 11) (.symi .i64 9),
  .bin .leq (.int .u16 0) (.symi .u16 1),
  .bin .leq (.symi .u16 1) (.int .u16 65535),
  .fn 0 .u16 [.symi .u16 3, .symi .u16 1, .symi .u16 4, .int .i64 1],
  .fn 1 .u16 [.symi .u16 3, .symi .u16 1, .symi .u16 4, .int .i64 1],
  .fn 2 .i64 [.symi .u16 3, .symi .u16 1, .symi .u16 4, .int .i64 1],
  .bin .gtr (.symi .i64 18) (.int .i64 0),
  .bin .eql (.symi .i64 11) (.symi .i64 5),
  .bin .neq (.symb 19) (.bool false),
  .bin .neq (.symb 19) (.bool true),
  .bin .add (.symi .i64 10) (.int .i64 1),
  .bin .add (.symi .i64 11) (.int .i64 1),
  .bin .gtr (.symi .i64 11) (.symi .i64 5),
  .bin .sub (.symi .i64 11) (.symi .i64 5),
  .bin .rem (.symi .i64 26) (.symi .i64 6),
  .bin .eql (.symi .i64 27) (.int .i64 0),
  .bin .neq (.symb 19) (.symb 28),
  .bin .neq (.bool true) (.symb 28),
  .bin .neq (.bool false) (.symb 28),
  .bin .rem (.symi .i64 26) (.int .i64 65536),
  .bin .eql (.symi .i64 32) (.int .i64 0),
  .bin .neq (.symb 19) (.symb 33),
  .bin .rem (.int .i64 55) (.symi .i64 6),
  .bin .eql (.symi .i64 35) (.int .i64 0),
  .bin .neq (.symb 19) (.symb 36),
  .bin .eql (.symi .i64 11) (.int .i64 6),
  .bin .leq (.int .i64 61) (.symi .i64 9),
  .bin .leq (.symi .i64 11) (.int .i64 64)]

def tpBT : Sr := .node 13 (.node 14 (.node 15 (.node 7 (.node 20 (.node 22 (.dead) (.node 19 (.leaf .normal sL [(0, 0), (1, 0)] [(12, .symi .u32 12), (5, .symi .i64 5), (6, .symi .i64 6), (7, .symb 7), (8, .symb 8), (9, .symi .i64 9), (10, .symi .i64 23), (11, .symi .i64 24), (0, .symi .u16 0), (1, .symi .u16 1), (2, .symi .u16 2), (3, .symi .u16 16), (1, .symi .u16 1), (4, .symi .u16 17)]) (.dead))) (.node 8 (.node 25 (.pick 6 0 (.dead) (.node 29 (.dead) (.node 19 (.node 30 (.dead) (.leaf .normal sL [(0, 0), (1, 0)] [(12, .symi .u32 12), (5, .symi .i64 5), (6, .symi .i64 6), (7, .symb 7), (8, .symb 8), (9, .symi .i64 9), (10, .symi .i64 23), (11, .symi .i64 24), (0, .symi .u16 0), (1, .symi .u16 1), (2, .symi .u16 2), (3, .symi .u16 16), (1, .symi .u16 1), (4, .symi .u16 17)])) (.node 31 (.dead) (.leaf .normal sL [(0, 0), (1, 0)] [(12, .symi .u32 12), (5, .symi .i64 5), (6, .symi .i64 6), (7, .symb 7), (8, .symb 8), (9, .symi .i64 9), (10, .symi .i64 10), (11, .symi .i64 24), (0, .symi .u16 0), (1, .symi .u16 1), (2, .symi .u16 2), (3, .symi .u16 16), (1, .symi .u16 1), (4, .symi .u16 17)]))))) (.node 21 (.dead) (.node 19 (.dead) (.leaf .normal sL [(0, 0), (1, 0)] [(12, .symi .u32 12), (5, .symi .i64 5), (6, .symi .i64 6), (7, .symb 7), (8, .symb 8), (9, .symi .i64 9), (10, .symi .i64 10), (11, .symi .i64 24), (0, .symi .u16 0), (1, .symi .u16 1), (2, .symi .u16 2), (3, .symi .u16 16), (1, .symi .u16 1), (4, .symi .u16 17)])))) (.node 21 (.dead) (.node 19 (.dead) (.leaf .normal sL [(0, 0), (1, 0)] [(12, .symi .u32 12), (5, .symi .i64 5), (6, .symi .i64 6), (7, .symb 7), (8, .symb 8), (9, .symi .i64 9), (10, .symi .i64 10), (11, .symi .i64 24), (0, .symi .u16 0), (1, .symi .u16 1), (2, .symi .u16 2), (3, .symi .u16 16), (1, .symi .u16 1), (4, .symi .u16 17)]))))) (.node 21 (.dead) (.node 19 (.dead) (.leaf .normal sL [(0, 0), (1, 0)] [(12, .symi .u32 12), (5, .symi .i64 5), (6, .symi .i64 6), (7, .symb 7), (8, .symb 8), (9, .symi .i64 9), (10, .symi .i64 10), (11, .symi .i64 24), (0, .symi .u16 0), (1, .symi .u16 1), (2, .symi .u16 2), (3, .symi .u16 16), (1, .symi .u16 1), (4, .symi .u16 17)])))) (.dead)) (.dead)) (.leaf (.exit 0) sL [(0, 0), (1, 0)] [(12, .symi .u32 12), (5, .symi .i64 5), (6, .symi .i64 6), (7, .symb 7), (8, .symb 8), (9, .symi .i64 9), (10, .symi .i64 10), (11, .symi .i64 11), (0, .symi .u16 0), (1, .symi .u16 1), (2, .symi .u16 2), (3, .symi .u16 3), (1, .symi .u16 1), (4, .symi .u16 4)])

def tpCG : List SDef := [.bin .leq (.int .u16 0) (.symi .u16 1),
  .bin .leq (.symi .u16 1) (.int .u16 65535),
  .fn 0 .u16 [.symi .u16 0, .symi .u16 1, .symi .u16 2, .symi .i64 9],
  .fn 1 .u16 [.symi .u16 0, .symi .u16 1, .symi .u16 2, .symi .i64 9],
  .fn 2 .i64 [.symi .u16 0, .symi .u16 1, .symi .u16 2, .symi .i64 9],
  .all [(.symi .u16 15, .symi .u16 3), (.symi .u16 16, .symi .u16 4)],
  .un .not (.symb 18),
  .bin .neq (.symi .i64 17) (.symi .i64 10),
  .bin .rem (.symi .u32 12) (.int .u32 1000000),
  .conv .i64 (.symi .u32 21),
  .bin .quo (.symi .u32 12) (.int .u32 1000),
  .bin .rem (.symi .u32 23) (.int .u32 100000),
  .conv .i64 (.symi .u32 24),
  .fn 0 .u16 [.symi .u16 0, .symi .u16 1, .symi .u16 2, .symi .i64 22],
  .fn 1 .u16 [.symi .u16 0, .symi .u16 1, .symi .u16 2, .symi .i64 22],
  .fn 2 .i64 [.symi .u16 0, .symi .u16 1, .symi .u16 2, .symi .i64 22],
  .fn 0 .u16 [.symi .u16 26, .symi .u16 1, .symi .u16 27, .symi .i64 25],
  .fn 1 .u16 [.symi .u16 26, .symi .u16 1, .symi .u16 27, .symi .i64 25],
  .fn 2 .i64 [.symi .u16 26, .symi .u16 1, .symi .u16 27, .symi .i64 25],
  .bin .add (.symi .i64 22) (.symi .i64 25),
  .fn 0 .u16 [.symi .u16 0, .symi .u16 1, .symi .u16 2, .symi .i64 32],
  .fn 1 .u16 [.symi .u16 0, .symi .u16 1, .symi .u16 2, .symi .i64 32],
  .fn 2 .i64 [.symi .u16 0, .symi .u16 1, .symi .u16 2, .symi .i64 32],
  .bin .geq (.symi .i64 32) (.symi .i64 5),
  .all [(.symi .u16 29, .symi .u16 33), (.symi .u16 30, .symi .u16 34)],
  .bin .sub (.symi .i64 32) (.symi .i64 5),
  .bin .quo (.symi .i64 38) (.symi .i64 6),
  .bin .add (.int .i64 1) (.symi .i64 39),
  .bin .add (.symi .i64 28) (.symi .i64 31),
  .bin .eql (.symi .i64 41) (.symi .i64 35),
  .bin .eql (.symi .i64 35) (.symi .i64 40),
  .bin .eql (.symi .i64 35) (.int .i64 1),
  .bin .eql (.symi .i64 35) (.int .i64 0)]

def tpCT : Sr := .node 13 (.node 14 (.node 19 (.dead) (.node 20 (.dead) (.node 7 (.node 36 (.node 8 (.pick 6 0 (.dead) (.node 37 (.node 42 (.node 43 (.leaf .ret sE [] []) (.dead)) (.dead)) (.dead))) (.node 37 (.node 42 (.node 44 (.leaf .ret sE [] []) (.dead)) (.dead)) (.dead))) (.node 37 (.node 42 (.node 45 (.leaf .ret sE [] []) (.dead)) (.dead)) (.dead))) (.node 37 (.node 42 (.node 45 (.leaf .ret sE [] []) (.dead)) (.dead)) (.dead))))) (.dead)) (.dead)

theorem hbody : Try.f10.body = some (bodyOf Try.f10) := by kernel_rfl
theorem hcut : (cutC (bodyOf Try.f10)).isSome = true := by kernel_rfl
theorem hid : idOf (bodyOf Try.f10) = 0 := by kernel_rfl
theorem hres : Try.f10.results.toList = [.tmp 6] := by kernel_rfl
theorem hnt : Try.f10.ntmps = 199 := by kernel_rfl

theorem a_ok : okG tpAG 5 = true := by kernel_rfl
theorem b_ok : okG tpBG 13 = true := by kernel_rfl
theorem c_ok : okG tpCG 13 = true := by kernel_rfl
theorem a_id : idOk s0 5 = true := by kernel_rfl
theorem l_id : idOk sL 13 = true := by kernel_rfl

theorem a_reck : okSr (fun F => runL Try.prog (cxOf 0 5 tab tkHook tpAG F) 1000 (callA Try.prog (cxOf 0 5 tab tkHook tpAG F) 1000 40) (preOf (bodyOf Try.f10)) (tmOf s0 199) ⟨⟨s0.heap, []⟩, [], []⟩) tpAT [] = true := by kernel_rfl
theorem b_reck : okSr (fun F => runL Try.prog (cxOf 0 13 tab tkHook tpBG F) 1000 (callA Try.prog (cxOf 0 13 tab tkHook tpBG F) 1000 40) [loopOf (bodyOf Try.f10)] (tmOf sL 199) ⟨⟨sL.heap, []⟩, [], []⟩) tpBT [] = true := by kernel_rfl
theorem c_reck : okSr (fun F => runL Try.prog (cxOf 0 13 tab tkHook tpCG F) 1000 (callA Try.prog (cxOf 0 13 tab tkHook tpCG F) 1000 40) (postOf (bodyOf Try.f10)) (tmOf sL 199) ⟨⟨sL.heap, []⟩, [], []⟩) tpCT [] = true := by kernel_rfl

/-- What holds ahead of each round. -/
structure Phi (σ : Sig) : Prop where
  c0 : 0 ≤ σ.ival 0
  c1 : σ.ival 0 ≤ 65535
  p0 : 0 ≤ σ.ival 1
  p1 : σ.ival 1 ≤ 65535
  t0 : 0 ≤ σ.ival 2
  t1 : σ.ival 2 ≤ 65535
  f : σ.ival 5 = nxt (σ.ival 0) (σ.ival 1) (σ.ival 2)
  per : σ.ival 6 = q (σ.ival 1)
  runs : σ.bval 7 = (low1 (σ.ival 2) == 1)
  again : σ.bval 8 = (low2 (σ.ival 2) == 2)
  n0 : 0 ≤ σ.ival 9
  n1 : σ.ival 9 ≤ 299
  asks : σ.ival 10 = tkK (σ.ival 0) (σ.ival 1) (σ.ival 2) (σ.ival 11 - 1)
  i0 : 1 ≤ σ.ival 11
  i1 : σ.ival 11 ≤ σ.ival 9 + 1
  yc : σ.ival 3 = tkC (σ.ival 0) (σ.ival 1) (σ.ival 2) (σ.ival 11 - 1)
  yt : σ.ival 4 = tkT (σ.ival 0) (σ.ival 1) (σ.ival 2) (σ.ival 11 - 1)
  m0 : 0 ≤ σ.ival 12
  m1 : σ.ival 12 ≤ 4294967295

theorem Phi.agree {σ τ : Sig} (h : Agree 13 σ τ) (p : Phi σ) : Phi τ := by
  have i := fun j hj => (h.val j hj).1
  have b := fun j hj => (h.val j hj).2.1
  have j0 := i 0 (by decide)
  have j1 := i 1 (by decide)
  have j2 := i 2 (by decide)
  have j3 := i 3 (by decide)
  have j4 := i 4 (by decide)
  have j5 := i 5 (by decide)
  have j6 := i 6 (by decide)
  have j9 := i 9 (by decide)
  have j10 := i 10 (by decide)
  have j11 := i 11 (by decide)
  have j12 := i 12 (by decide)
  have b7 := b 7 (by decide)
  have b8 := b 8 (by decide)
  obtain ⟨p1, p2, p3, p4, p5, p6, p7, p8, p9, p10, p11, p12, p13, p14, p15, p16, p17, p18, p19⟩ := p
  rw [j0] at p1 p2 p7 p13 p16 p17
  rw [j1] at p3 p4 p7 p8 p13 p16 p17
  rw [j2] at p5 p6 p7 p9 p10 p13 p16 p17
  rw [j5] at p7
  rw [j6] at p8
  rw [b7] at p9
  rw [b8] at p10
  rw [j9] at p11 p12 p15
  rw [j11] at p13 p14 p15 p16 p17
  rw [j10] at p13
  rw [j3] at p16
  rw [j4] at p17
  rw [j12] at p18 p19
  exact ⟨p1, p2, p3, p4, p5, p6, p7, p8, p9, p10, p11, p12, p13, p14, p15, p16, p17, p18, p19⟩

theorem zero_ticks (c p t : Int) : tkC c p t (1 - 1) = c ∧ tkT c p t (1 - 1) = t ∧ tkK c p t (1 - 1) = 0 := by
  refine ⟨?_, ?_, ?_⟩
  · simp [tkC]
  · simp [tkT]
  · simp [tkK]

theorem nxt_is (c p t : Int) : nxt c p t = if low1 t = 0 then 0 else F c p := by
  unfold nxt
  rw [first_nice]
  rfl

def QA (x : SEx) (s : Shape) (σ : Sig) : Prop := x = .normal ∧ s = sL ∧ Phi σ
def QB (k : Nat) (x : SEx) (s : Shape) (σ : Sig) : Prop := s = sL ∧ Phi σ ∧ ((x = .normal ∧ (σ.ival 9 + 1 - σ.ival 11).toNat < k) ∨ (x = .exit 0 ∧ σ.ival 11 = σ.ival 9 + 1))
def QC (x : SEx) (s : Shape) (σ : Sig) : Prop := x = .ret ∧ s = sE

theorem planA (τ : Sig) (e : Eqs τ 5 tpAG) (ht : τ.tab = tab) (c0 : 0 ≤ τ.ival 0) (c1 : τ.ival 0 ≤ 65535) (p0 : 0 ≤ τ.ival 1) (p1 : τ.ival 1 ≤ 65535) (t0 : 0 ≤ τ.ival 2) (t1 : τ.ival 2 ≤ 65535) (n0 : 0 ≤ τ.ival 3) (n1 : τ.ival 3 ≤ 65535)
    (m0 : 0 ≤ τ.ival 4) (m1 : τ.ival 4 ≤ 4294967295) : segs τ QA tpAT [] := by
  have e5 := e.at 0 _ rfl rfl
  have e6 := e.at 1 _ rfl rfl
  have e7 := e.at 2 _ rfl rfl
  have e8 := e.at 3 _ rfl rfl
  have e9 := e.at 4 _ rfl rfl
  have e10 := e.at 5 _ rfl rfl
  have e11 := e.at 6 _ rfl rfl
  have e12 := e.at 7 _ rfl rfl
  have e13 := e.at 8 _ rfl rfl
  have e14 := e.at 9 _ rfl rfl
  have e15 := e.at 10 _ rfl rfl
  have e16 := e.at 11 _ rfl rfl
  have e19 := e.at 14 _ rfl rfl
  have e20 := e.at 15 _ rfl rfl
  have e21 := e.at 16 _ rfl rfl
  have e22 := e.at 17 _ rfl rfl
  have e23 := e.at 18 _ rfl rfl
  have e24 := e.at 19 _ rfl rfl
  have e25 := e.at 20 _ rfl rfl
  simp only [evalS, den, convS, binS, intA, resS, likeS, if_true, Option.some.injEq, AVal.int.injEq, true_and, AVal.bool.injEq, IntKind.bits, ht, tab, List.map, numS, Nat.reduceAdd, Int.reduceEq, if_false] at e5 e6 e7 e8 e9 e10 e11 e12 e13 e14 e15 e16 e19 e20 e21 e22 e23 e24 e25
  have l1 : low1 (τ.ival 2) = τ.ival 8 := e8
  have l2 : low2 (τ.ival 2) = τ.ival 10 := e10
  have hl : low1 (τ.ival 2) = 0 ∨ low1 (τ.ival 2) = 1 := by rw [low1_nice]; omega
  obtain ⟨f0, f1⟩ := F_pos (τ.ival 0) (τ.ival 1)
  rw [nxt_is] at e5
  have x6 : τ.ival 6 = τ.ival 1 := by rw [← e6]; exact wrap64_of p0 (by omega)
  have x12 : τ.bval 12 = τ.bval 9 := by
    rw [← e12, ← e9, ← e5, ← l1]
    rcases hl with h | h
    · rw [h]; rfl
    · rw [h]; simp; omega
  have x13 : τ.bval 13 = false := by rw [← e13, x12]; simp
  have x14 : τ.bval 14 = false := by
    rw [← e14, ← e5]
    split <;> simp <;> omega
  have x15 : τ.bval 15 = !τ.bval 9 := by rw [← e15]; simp
  have x16 : τ.bval 16 = τ.bval 9 := by rw [← e16]; simp
  have x23 : τ.bval 9 = true → τ.bval 23 = false := by
    intro h
    rw [← e9, beq_iff_eq, ← l1] at h
    rw [if_neg (by omega)] at e5
    have y19 : τ.ival 19 = τ.ival 0 := by rw [← e19]; exact wrap64_of c0 (by omega)
    have y20 : τ.ival 20 = τ.ival 0 + F (τ.ival 0) (τ.ival 1) := by rw [← e20, y19, ← e5]; exact wrap64_of (by omega) (by omega)
    have y21 : τ.ival 21 = τ.ival 0 + F (τ.ival 0) (τ.ival 1) - τ.ival 1 := by
      rw [← e21, y20, x6]
      simp [IntKind.wrap, IntKind.bits, IntKind.signed]; omega
    have hz : (τ.ival 21).tmod 65536 = 0 := by
      rw [y21]
      apply Int.tmod_eq_zero_of_dvd
      unfold F
      omega
    rw [← e23, ← e22, hz]
    rfl
  have x24 : 0 ≤ τ.ival 25 ∧ τ.ival 25 ≤ 299 := by
    rw [← e25, ← e24, Int.tmod_eq_emod_of_nonneg n0]
    rw [wrap64_of (by omega) (by omega)]
    omega
  have a8 : τ.bval 11 = (low2 (τ.ival 2) == 2) := by rw [← e11, l2]
  obtain ⟨z1, z2, z3⟩ := zero_ticks (τ.ival 0) (τ.ival 1) (τ.ival 2)
  have e5' : τ.ival 5 = nxt (τ.ival 0) (τ.ival 1) (τ.ival 2) := by rw [nxt_is, e5]
  have r9 : τ.bval 9 = (low1 (τ.ival 2) == 1) := by rw [← e9, l1]
  simp only [segs, tpAT]
  and_intros
  · rintro ⟨h, _⟩
    have h : τ.bval 13 = true := h
    rw [x13] at h; cases h
  · rintro ⟨h, _⟩
    have h : τ.bval 14 = true := h
    rw [x14] at h; cases h
  · rintro ⟨h, h12, _⟩
    have h : τ.bval 15 = true := h
    have h12 : τ.bval 12 = true := h12
    rw [x15, ← x12, h12] at h; cases h
  · rintro ⟨h, h9, _⟩
    have h : τ.bval 23 = true := h
    rw [x23 h9] at h; cases h
  · rintro ⟨_, h9, _, _, _, _, h7, _⟩
    simp only [Fact.holds] at h9 h7
    refine ⟨rfl, rfl, c0, c1, p0, p1, t0, t1, e5', ?_, r9 ▸ h9.symm, a8, x24.1, x24.2, z3.symm, Int.le_refl _, ?_, z1.symm, z2.symm, m0, m1⟩
    · show (65536 : Int) = q (τ.ival 1)
      rw [← e7, beq_iff_eq, x6] at h7
      simp [q, h7]
    · show (1 : Int) ≤ τ.ival 25 + 1
      omega
  · rintro ⟨h, _, h12, _⟩
    have h : τ.bval 9 = false := h
    have h12 : τ.bval 12 = true := h12
    rw [← x12, h12] at h; cases h
  · rintro ⟨h, h12, _⟩
    have h : τ.bval 16 = true := h
    have h12 : τ.bval 12 = false := h12
    rw [x16, ← x12, h12] at h; cases h
  · rintro ⟨h, _, h12, _⟩
    have h : τ.bval 9 = true := h
    have h12 : τ.bval 12 = false := h12
    rw [← x12, h12] at h; cases h
  · rintro ⟨h9, _, _, _, _, h7, _⟩
    simp only [Fact.holds] at h9 h7
    refine ⟨rfl, rfl, c0, c1, p0, p1, t0, t1, e5', ?_, r9 ▸ h9.symm, a8, x24.1, x24.2, z3.symm, Int.le_refl _, ?_, z1.symm, z2.symm, m0, m1⟩
    · show (65536 : Int) = q (τ.ival 1)
      rw [← e7, beq_iff_eq, x6] at h7
      simp [q, h7]
    · show (1 : Int) ≤ τ.ival 25 + 1
      omega
  · rintro ⟨h, _⟩
    have h : τ.bval 13 = true := h
    rw [x13] at h; cases h
  · rintro ⟨h, _⟩
    have h : τ.bval 14 = true := h
    rw [x14] at h; cases h
  · rintro ⟨h, h12, _⟩
    have h : τ.bval 15 = true := h
    have h12 : τ.bval 12 = true := h12
    rw [x15, ← x12, h12] at h; cases h
  · rintro ⟨h, h9, _⟩
    have h : τ.bval 23 = true := h
    rw [x23 h9] at h; cases h
  · rintro ⟨_, h9, _, _, _, _, h7, _⟩
    simp only [Fact.holds] at h9 h7
    refine ⟨rfl, rfl, c0, c1, p0, p1, t0, t1, e5', ?_, r9 ▸ h9.symm, a8, x24.1, x24.2, z3.symm, Int.le_refl _, ?_, z1.symm, z2.symm, m0, m1⟩
    · show τ.ival 6 = q (τ.ival 1)
      rw [← e7, beq_eq_false_iff_ne, x6] at h7
      simp [q, h7, x6]
    · show (1 : Int) ≤ τ.ival 25 + 1
      omega
  · rintro ⟨h, _, h12, _⟩
    have h : τ.bval 9 = false := h
    have h12 : τ.bval 12 = true := h12
    rw [← x12, h12] at h; cases h
  · rintro ⟨h, h12, _⟩
    have h : τ.bval 16 = true := h
    have h12 : τ.bval 12 = false := h12
    rw [x16, ← x12, h12] at h; cases h
  · rintro ⟨h, _, h12, _⟩
    have h : τ.bval 9 = true := h
    have h12 : τ.bval 12 = false := h12
    rw [← x12, h12] at h; cases h
  · rintro ⟨h9, _, _, _, _, h7, _⟩
    simp only [Fact.holds] at h9 h7
    refine ⟨rfl, rfl, c0, c1, p0, p1, t0, t1, e5', ?_, r9 ▸ h9.symm, a8, x24.1, x24.2, z3.symm, Int.le_refl _, ?_, z1.symm, z2.symm, m0, m1⟩
    · show τ.ival 6 = q (τ.ival 1)
      rw [← e7, beq_eq_false_iff_ne, x6] at h7
      simp [q, h7, x6]
    · show (1 : Int) ≤ τ.ival 25 + 1
      omega
theorem planB (τ : Sig) (e : Eqs τ 13 tpBG) (ht : τ.tab = tab) (P : Phi τ) (k : Nat) (hk : (τ.ival 9 + 1 - τ.ival 11).toNat = k) : segs τ (QB k) tpBT [] := by
  have e13 := e.at 0 _ rfl rfl
  have e14 := e.at 1 _ rfl rfl
  have e15 := e.at 2 _ rfl rfl
  have e16 := e.at 3 _ rfl rfl
  have e17 := e.at 4 _ rfl rfl
  have e18 := e.at 5 _ rfl rfl
  have e19 := e.at 6 _ rfl rfl
  have e20 := e.at 7 _ rfl rfl
  have e21 := e.at 8 _ rfl rfl
  have e22 := e.at 9 _ rfl rfl
  have e23 := e.at 10 _ rfl rfl
  have e24 := e.at 11 _ rfl rfl
  have e25 := e.at 12 _ rfl rfl
  have e26 := e.at 13 _ rfl rfl
  have e27 := fun h => e 14 _ rfl h
  have e28 := e.at 15 _ rfl rfl
  have e29 := e.at 16 _ rfl rfl
  have e30 := e.at 17 _ rfl rfl
  have e31 := e.at 18 _ rfl rfl
  simp only [evalS, den, binS, intA, resS, likeS, if_true, Option.some.injEq, AVal.int.injEq, true_and, AVal.bool.injEq, ht, tab, List.map, numS, Nat.reduceAdd, condD, skOf, forall_eq'] at e13 e14 e15 e16 e17 e18 e19 e20 e21 e22 e23 e24 e25 e26 e27 e28 e29 e30 e31
  obtain ⟨s1, s2, s3⟩ := add_all (n := τ.ival 11 - 1) (m := 1) P.c0 P.c1 P.p0 P.p1 P.t0 P.t1 (by have := P.i0; omega) (by omega) (by have := P.i1; have := P.n1; omega)
  obtain ⟨d1, d2⟩ := asks_iff (i := τ.ival 11) P.c0 P.c1 P.p0 P.p1 P.t0 P.t1 P.i0 (by have := P.i1; have := P.n1; omega)
  have kr := tkK_range (t := τ.ival 2) (n := τ.ival 11 - 1) P.c0 P.c1 P.p0 P.p1 (by have := P.i0; omega) (by have := P.i1; have := P.n1; omega)
  rw [← P.asks] at kr s3
  rw [← P.yc, ← P.yt] at s1 s2 s3 d1 d2
  rw [e16] at s1
  rw [e17] at s2
  rw [e18] at s3 d1 d2
  have i0 := P.i0
  have i1 := P.i1
  have n0 := P.n0
  have n1 := P.n1
  have y24 : τ.ival 24 = τ.ival 11 + 1 := by rw [← e24]; exact wrap64_of (by omega) (by omega)
  have y23 : τ.ival 23 = τ.ival 10 + 1 := by rw [← e23]; exact wrap64_of (by omega) (by omega)
  rw [show τ.ival 11 - 1 + 1 = τ.ival 24 - 1 by omega] at s1 s2 s3
  have hl : low1 (τ.ival 2) = 0 ∨ low1 (τ.ival 2) = 1 := by rw [low1_nice]; omega
  have hl2 : low2 (τ.ival 2) = 0 ∨ low2 (τ.ival 2) = 2 := by rw [low2_nice]; omega
  obtain ⟨f0, f1⟩ := F_pos (τ.ival 0) (τ.ival 1)
  obtain ⟨q0, q1⟩ := q_pos P.p0 P.p1
  have hf := P.f
  rw [nxt_is] at hf
  have r7T : τ.bval 7 = true → low1 (τ.ival 2) ≠ 0 := by
    intro h; rw [P.runs, beq_iff_eq] at h; omega
  have r7F : τ.bval 7 = false → low1 (τ.ival 2) = 0 := by
    intro h; rw [P.runs, beq_eq_false_iff_ne] at h; omega
  have r8T : τ.bval 8 = true → low2 (τ.ival 2) ≠ 0 := by
    intro h; rw [P.again, beq_iff_eq] at h; omega
  have r8F : τ.bval 8 = false → low2 (τ.ival 2) = 0 := by
    intro h; rw [P.again, beq_eq_false_iff_ne] at h; omega
  have hF : τ.bval 7 = true → τ.ival 5 = F (τ.ival 0) (τ.ival 1) := by
    intro h; rw [hf, if_neg (r7T h)]
  have t19 : τ.bval 19 = true → 0 < τ.ival 18 := by
    intro h; rw [← e19, decide_eq_true_eq] at h; exact h
  have f19 : τ.bval 19 = false → ¬ 0 < τ.ival 18 := by
    intro h; rw [← e19, decide_eq_false_iff_not] at h; exact h
  have b19 : ∀ b, (0 < τ.ival 18 ↔ b = true) → τ.bval 19 = b := by
    intro b hb
    cases h : τ.bval 19 with
    | true => exact (hb.1 (t19 h)).symm
    | false =>
      cases b with
      | false => rfl
      | true => exact absurd (hb.2 rfl) (f19 h)
  have K1 : τ.bval 7 = true → τ.bval 20 = true → τ.bval 19 = true := by
    intro h7 h20
    rw [← e20, beq_iff_eq, hF h7] at h20
    exact b19 true ⟨fun _ => rfl, fun _ => d2.2 ⟨r7T h7, .inl h20⟩⟩
  have ne : τ.bval 7 = true → τ.bval 20 = false → τ.ival 11 ≠ F (τ.ival 0) (τ.ival 1) := by
    intro h7 h20
    rw [← e20, beq_eq_false_iff_ne, hF h7] at h20
    exact h20
  have K2 : τ.bval 7 = true → τ.bval 20 = false → τ.bval 8 = true → τ.bval 25 = true → τ.ival 6 ≠ 0 → τ.bval 19 = τ.bval 28 := by
    intro h7 h20 h8 h25 h6
    have e27 := e27 h6
    rw [if_neg h6] at e27
    simp only [Option.some.injEq, AVal.int.injEq, true_and] at e27
    rw [← e25, decide_eq_true_eq, hF h7] at h25
    have y26 : τ.ival 26 = τ.ival 11 - F (τ.ival 0) (τ.ival 1) := by rw [← e26, hF h7]; exact wrap64_of (by omega) (by omega)
    have y27 : τ.ival 27 = (τ.ival 11 - F (τ.ival 0) (τ.ival 1)) % q (τ.ival 1) := by
      rw [← e27, y26, P.per]
      exact Int.tmod_eq_emod_of_nonneg (by omega)
    refine b19 _ ?_
    rw [d2, ← e28, beq_iff_eq, y27]
    constructor
    · rintro ⟨_, h | ⟨_, _, h⟩⟩
      · exact absurd h (ne h7 h20)
      · exact h
    · intro h
      exact ⟨r7T h7, .inr ⟨r8T h8, h25, h⟩⟩
  have K3 : τ.bval 7 = true → τ.bval 20 = false → τ.bval 25 = false → τ.bval 19 = false := by
    intro h7 h20 h25
    rw [← e25, decide_eq_false_iff_not, hF h7] at h25
    refine b19 false ⟨fun h => ?_, fun h => by cases h⟩
    obtain ⟨_, h | ⟨_, h, _⟩⟩ := d2.1 h
    · exact absurd h (ne h7 h20)
    · exact absurd h h25
  have K4 : τ.bval 7 = true → τ.bval 20 = false → τ.bval 8 = false → τ.bval 19 = false := by
    intro h7 h20 h8
    refine b19 false ⟨fun h => ?_, fun h => by cases h⟩
    obtain ⟨_, h | ⟨h, _⟩⟩ := d2.1 h
    · exact absurd h (ne h7 h20)
    · exact absurd (r8F h8) h
  have K5 : τ.bval 7 = false → τ.bval 19 = false := by
    intro h7
    refine b19 false ⟨fun h => ?_, fun h => by cases h⟩
    exact absurd (r7F h7) (d2.1 h).1
  have x21 : τ.bval 21 = τ.bval 19 := by rw [← e21]; simp
  have x22 : τ.bval 22 = !τ.bval 19 := by rw [← e22]; simp
  have x29 : τ.bval 29 = !(τ.bval 19 == τ.bval 28) := e29.symm
  have x30 : τ.bval 30 = !τ.bval 28 := by rw [← e30]; simp
  have x31 : τ.bval 31 = τ.bval 28 := by rw [← e31]; simp
  have I1 : τ.bval 13 = true → τ.ival 24 ≤ τ.ival 9 + 1 := by
    intro h; rw [← e13, decide_eq_true_eq] at h; omega
  have M : τ.bval 13 = true → (τ.ival 9 + 1 - τ.ival 24).toNat < k := by
    intro h; rw [← e13, decide_eq_true_eq] at h; omega
  have A3T : τ.bval 19 = true → τ.ival 23 = tkK (τ.ival 0) (τ.ival 1) (τ.ival 2) (τ.ival 24 - 1) := by
    intro h; have := t19 h; omega
  have A3F : τ.bval 19 = false → τ.ival 10 = tkK (τ.ival 0) (τ.ival 1) (τ.ival 2) (τ.ival 24 - 1) := by
    intro h; have := f19 h; omega
  have I0 : 1 ≤ τ.ival 24 := by omega
  have outT : τ.bval 19 = true → τ.bval 13 = true → QB k .normal sL (asgS τ [(12, .symi .u32 12), (5, .symi .i64 5), (6, .symi .i64 6), (7, .symb 7), (8, .symb 8), (9, .symi .i64 9), (10, .symi .i64 23), (11, .symi .i64 24), (0, .symi .u16 0), (1, .symi .u16 1), (2, .symi .u16 2), (3, .symi .u16 16), (1, .symi .u16 1), (4, .symi .u16 17)]) := fun h19 h13 =>
    ⟨rfl, ⟨P.c0, P.c1, P.p0, P.p1, P.t0, P.t1, P.f, P.per, P.runs, P.again, P.n0, P.n1, A3T h19, I0, I1 h13, s1, s2, P.m0, P.m1⟩, .inl ⟨rfl, M h13⟩⟩
  have outF : τ.bval 19 = false → τ.bval 13 = true → QB k .normal sL (asgS τ [(12, .symi .u32 12), (5, .symi .i64 5), (6, .symi .i64 6), (7, .symb 7), (8, .symb 8), (9, .symi .i64 9), (10, .symi .i64 10), (11, .symi .i64 24), (0, .symi .u16 0), (1, .symi .u16 1), (2, .symi .u16 2), (3, .symi .u16 16), (1, .symi .u16 1), (4, .symi .u16 17)]) := fun h19 h13 =>
    ⟨rfl, ⟨P.c0, P.c1, P.p0, P.p1, P.t0, P.t1, P.f, P.per, P.runs, P.again, P.n0, P.n1, A3F h19, I0, I1 h13, s1, s2, P.m0, P.m1⟩, .inl ⟨rfl, M h13⟩⟩
  clear s1 s2 s3 d1 d2 A3T A3F M I1
  simp only [segs, tpBT]
  and_intros
  · rintro ⟨h, h20, h7, _⟩
    have h : τ.bval 22 = true := h
    rw [x22, K1 h7 h20] at h; cases h
  · rintro ⟨h19, _, _, _, _, _, h13, _⟩
    exact outT h19 h13
  · rintro ⟨h, _, h20, h7, _⟩
    have h : τ.bval 19 = false := h
    rw [K1 h7 h20] at h; cases h
  · rintro ⟨h, _⟩
    have h : τ.ival 6 = 0 := h
    rw [P.per] at h; omega
  · rintro ⟨h, h6, h25, h8, h20, h7, _⟩
    have h : τ.bval 29 = true := h
    rw [x29, K2 h7 h20 h8 h25 h6] at h; simp at h
  · rintro ⟨h, h19, _, h6, h25, h8, h20, h7, _⟩
    have h : τ.bval 30 = true := h
    have h19 : τ.bval 19 = true := h19
    rw [x30, ← K2 h7 h20 h8 h25 h6, h19] at h; cases h
  · rintro ⟨_, h19, _, _, _, _, _, _, _, _, h13, _⟩
    exact outT h19 h13
  · rintro ⟨h, h19, _, h6, h25, h8, h20, h7, _⟩
    have h : τ.bval 31 = true := h
    have h19 : τ.bval 19 = false := h19
    rw [x31, ← K2 h7 h20 h8 h25 h6, h19] at h; cases h
  · rintro ⟨_, h19, _, _, _, _, _, _, _, _, h13, _⟩
    exact outF h19 h13
  · rintro ⟨h, h25, h8, h20, h7, _⟩
    have h : τ.bval 21 = true := h
    rw [x21, K3 h7 h20 h25] at h; cases h
  · rintro ⟨h, _, h25, h8, h20, h7, _⟩
    have h : τ.bval 19 = true := h
    rw [K3 h7 h20 h25] at h; cases h
  · rintro ⟨h19, _, _, _, _, _, _, _, h13, _⟩
    exact outF h19 h13
  · rintro ⟨h, h8, h20, h7, _⟩
    have h : τ.bval 21 = true := h
    rw [x21, K4 h7 h20 h8] at h; cases h
  · rintro ⟨h, _, h8, h20, h7, _⟩
    have h : τ.bval 19 = true := h
    rw [K4 h7 h20 h8] at h; cases h
  · rintro ⟨h19, _, _, _, _, _, _, h13, _⟩
    exact outF h19 h13
  · rintro ⟨h, h7, _⟩
    have h : τ.bval 21 = true := h
    rw [x21, K5 h7] at h; cases h
  · rintro ⟨h, _, h7, _⟩
    have h : τ.bval 19 = true := h
    rw [K5 h7] at h; cases h
  · rintro ⟨h19, _, _, _, _, h13, _⟩
    exact outF h19 h13
  · rintro ⟨h, _⟩
    have h : τ.bval 15 = false := h
    rw [← e15, decide_eq_false_iff_not] at h
    exact h P.p1
  · rintro ⟨h, _⟩
    have h : τ.bval 14 = false := h
    rw [← e14, decide_eq_false_iff_not] at h
    exact h P.p0
  · rintro ⟨h, _⟩
    have h : τ.bval 13 = false := h
    rw [← e13, decide_eq_false_iff_not] at h
    exact ⟨rfl, ⟨P.c0, P.c1, P.p0, P.p1, P.t0, P.t1, P.f, P.per, P.runs, P.again, P.n0, P.n1, P.asks, P.i0, P.i1, P.yc, P.yt, P.m0, P.m1⟩, .inr ⟨rfl, by show τ.ival 11 = τ.ival 9 + 1; omega⟩⟩

theorem planC (τ : Sig) (e : Eqs τ 13 tpCG) (ht : τ.tab = tab) (P : Phi τ) (hi : τ.ival 11 = τ.ival 9 + 1) : segs τ QC tpCT [] := by
  have e13 := e.at 0 _ rfl rfl
  have e14 := e.at 1 _ rfl rfl
  have e15 := e.at 2 _ rfl rfl
  have e16 := e.at 3 _ rfl rfl
  have e17 := e.at 4 _ rfl rfl
  have e18 := e.at 5 _ rfl rfl
  have e19 := e.at 6 _ rfl rfl
  have e20 := e.at 7 _ rfl rfl
  have e21 := e.at 8 _ rfl rfl
  have e22 := e.at 9 _ rfl rfl
  have e23 := e.at 10 _ rfl rfl
  have e24 := e.at 11 _ rfl rfl
  have e25 := e.at 12 _ rfl rfl
  have e26 := e.at 13 _ rfl rfl
  have e27 := e.at 14 _ rfl rfl
  have e28 := e.at 15 _ rfl rfl
  have e29 := e.at 16 _ rfl rfl
  have e30 := e.at 17 _ rfl rfl
  have e31 := e.at 18 _ rfl rfl
  have e32 := e.at 19 _ rfl rfl
  have e33 := e.at 20 _ rfl rfl
  have e34 := e.at 21 _ rfl rfl
  have e35 := e.at 22 _ rfl rfl
  have e36 := e.at 23 _ rfl rfl
  have e37 := e.at 24 _ rfl rfl
  have e38 := e.at 25 _ rfl rfl
  have e39 := fun h => e 26 _ rfl h
  have e40 := e.at 27 _ rfl rfl
  have e41 := e.at 28 _ rfl rfl
  have e42 := e.at 29 _ rfl rfl
  have e43 := e.at 30 _ rfl rfl
  have e44 := e.at 31 _ rfl rfl
  have e45 := e.at 32 _ rfl rfl
  simp only [evalS, den, convS, binS, intA, unA, resS, likeS, if_true, Option.some.injEq, AVal.int.injEq, true_and, AVal.bool.injEq, ht, tab, List.map, numS, Nat.reduceAdd, Int.reduceEq, if_false, List.all_cons, List.all_nil, Bool.and_true, eqS, condD, skOf, forall_eq'] at e13 e14 e15 e16 e17 e18 e19 e20 e21 e22 e23 e24 e25 e26 e27 e28 e29 e30 e31 e32 e33 e34 e35 e36 e37 e38 e39 e40 e41 e42 e43 e44 e45
  have m0 := P.m0
  have m1 := P.m1
  have n0 := P.n0
  have n1 := P.n1
  have hasks := P.asks
  have hyc := P.yc
  have hyt := P.yt
  rw [hi, show τ.ival 9 + 1 - 1 = τ.ival 9 by omega] at hasks hyc hyt
  have y22 : τ.ival 22 = τ.ival 12 % 1000000 := by
    rw [← e22, ← e21, Int.tmod_eq_emod_of_nonneg m0]
    exact wrap64_of (by omega) (by omega)
  have y23 : τ.ival 23 = τ.ival 12 / 1000 := by
    rw [← e23, Int.tdiv_eq_ediv_of_nonneg m0]
    simp [IntKind.wrap, IntKind.bits, IntKind.signed]; omega
  have y25 : τ.ival 25 = τ.ival 12 / 1000 % 100000 := by
    rw [← e25, ← e24, y23, Int.tmod_eq_emod_of_nonneg (by omega)]
    exact wrap64_of (by omega) (by omega)
  have a0 : 0 ≤ τ.ival 22 ∧ τ.ival 22 ≤ 999999 := by omega
  have b0 : 0 ≤ τ.ival 25 ∧ τ.ival 25 ≤ 99999 := by omega
  have y32 : τ.ival 32 = τ.ival 22 + τ.ival 25 := by rw [← e32]; exact wrap64_of (by omega) (by omega)
  obtain ⟨s1, s2, s3⟩ := add_all (n := τ.ival 22) (m := τ.ival 25) P.c0 P.c1 P.p0 P.p1 P.t0 P.t1 a0.1 b0.1 (by omega)
  rw [e26, e27] at s1 s2 s3
  rw [e28] at s3
  rw [e29, ← y32, e33] at s1
  rw [e30, ← y32, e34] at s2
  rw [e31, ← y32, e35] at s3
  have kr := tkK_range (t := τ.ival 2) (n := τ.ival 32) P.c0 P.c1 P.p0 P.p1 (by omega) (by omega)
  rw [e35] at kr
  obtain ⟨b1, b2, b3⟩ := tk_all (t := τ.ival 2) (n := τ.ival 32) P.c0 P.c1 P.p0 P.p1 (by omega) (by omega)
  rw [e35] at b1 b2 b3
  obtain ⟨f0, f1⟩ := F_pos (τ.ival 0) (τ.ival 1)
  obtain ⟨q0, q1⟩ := q_pos P.p0 P.p1
  have hf := P.f
  rw [nxt_is] at hf
  have hl : low1 (τ.ival 2) = 0 ∨ low1 (τ.ival 2) = 1 := by rw [low1_nice]; omega
  have hl2 : low2 (τ.ival 2) = 0 ∨ low2 (τ.ival 2) = 2 := by rw [low2_nice]; omega
  have r7T : τ.bval 7 = true → low1 (τ.ival 2) ≠ 0 := by
    intro h; rw [P.runs, beq_iff_eq] at h; omega
  have r7F : τ.bval 7 = false → low1 (τ.ival 2) = 0 := by
    intro h; rw [P.runs, beq_eq_false_iff_ne] at h; omega
  have r8T : τ.bval 8 = true → low2 (τ.ival 2) ≠ 0 := by
    intro h; rw [P.again, beq_iff_eq] at h; omega
  have r8F : τ.bval 8 = false → low2 (τ.ival 2) = 0 := by
    intro h; rw [P.again, beq_eq_false_iff_ne] at h; omega
  have hF : τ.bval 7 = true → τ.ival 5 = F (τ.ival 0) (τ.ival 1) := by
    intro h; rw [hf, if_neg (r7T h)]
  have x19 : τ.bval 19 = false := by rw [← e19, ← e18, hyc, hyt, e15, e16]; simp
  have x20 : τ.bval 20 = false := by rw [← e20, hasks, e17]; simp
  have x37 : τ.bval 37 = true := by rw [← e37, s1, s2]; simp
  have y41 : τ.ival 41 = τ.ival 35 := by rw [← e41, s3]; exact wrap64_of kr.1 (by omega)
  have x42 : τ.bval 42 = true := by rw [← e42, y41]; simp
  have ge36 : τ.bval 36 = true → τ.ival 5 ≤ τ.ival 32 := by
    intro h; rw [← e36, decide_eq_true_eq] at h; exact h
  have lt36 : τ.bval 36 = false → τ.ival 32 < τ.ival 5 := by
    intro h; rw [← e36, decide_eq_false_iff_not] at h; omega
  have K43 : τ.bval 7 = true → τ.bval 36 = true → τ.bval 8 = true → τ.ival 6 ≠ 0 → τ.bval 43 = true := by
    intro h7 h36 h8 h6
    have e39 := e39 h6
    rw [if_neg h6] at e39
    simp only [Option.some.injEq, AVal.int.injEq, true_and] at e39
    have hge := ge36 h36
    rw [hF h7] at hge
    have w := (b3 (r7T h7) (r8T h8)).2.2
    rw [if_neg (by omega)] at w
    have y38 : τ.ival 38 = τ.ival 32 - F (τ.ival 0) (τ.ival 1) := by rw [← e38, hF h7]; exact wrap64_of (by omega) (by omega)
    have h0 : 0 ≤ (τ.ival 32 - F (τ.ival 0) (τ.ival 1)) / q (τ.ival 1) := Int.ediv_nonneg (by omega) (by omega)
    have h3 : (τ.ival 32 - F (τ.ival 0) (τ.ival 1)) / q (τ.ival 1) ≤ τ.ival 32 - F (τ.ival 0) (τ.ival 1) := Int.ediv_le_self _ (by omega)
    have y39 : τ.ival 39 = (τ.ival 32 - F (τ.ival 0) (τ.ival 1)) / q (τ.ival 1) := by
      rw [← e39, y38, P.per, Int.tdiv_eq_ediv_of_nonneg (by omega)]
      exact wrap64_of h0 (by omega)
    have y40 : τ.ival 40 = τ.ival 35 := by
      rw [← e40, y39, w]
      exact wrap64_of (by omega) (by omega)
    rw [← e43, y40]; simp
  have K44 : τ.bval 7 = true → τ.bval 36 = true → τ.bval 8 = false → τ.bval 44 = true := by
    intro h7 h36 h8
    have hge := ge36 h36
    rw [hF h7] at hge
    have w := (b2 (r7T h7) (r8F h8)).2.2
    rw [if_neg (by omega)] at w
    rw [← e44, w]; rfl
  have K45 : τ.bval 7 = true → τ.bval 36 = false → τ.bval 45 = true := by
    intro h7 h36
    have hlt := lt36 h36
    rw [hF h7] at hlt
    have w : τ.ival 35 = 0 := by
      rcases hl2 with h2 | h2
      · have w := (b2 (r7T h7) h2).2.2
        rw [if_pos hlt] at w; exact w
      · have w := (b3 (r7T h7) (by omega)).2.2
        rw [if_pos hlt] at w; exact w
    rw [← e45, w]; rfl
  have K46 : τ.bval 7 = false → τ.bval 45 = true := by
    intro h7
    rw [← e45, (b1 (r7F h7)).2.2]; rfl
  clear s1 s2 s3 b1 b2 b3
  simp only [segs, tpCT]
  and_intros
  · rintro ⟨h, _⟩
    have h : τ.bval 19 = true := h
    rw [x19] at h; cases h
  · rintro ⟨h, _⟩
    have h : τ.bval 20 = true := h
    rw [x20] at h; cases h
  · rintro ⟨h, _⟩
    have h : τ.ival 6 = 0 := h
    rw [P.per] at h; omega
  · exact fun _ => ⟨rfl, rfl⟩
  · rintro ⟨h, _, _, h6, h8, h36, h7, _⟩
    have h : τ.bval 43 = false := h
    rw [K43 h7 h36 h8 h6] at h; cases h
  · rintro ⟨h, _⟩
    have h : τ.bval 42 = false := h
    rw [x42] at h; cases h
  · rintro ⟨h, _⟩
    have h : τ.bval 37 = false := h
    rw [x37] at h; cases h
  · exact fun _ => ⟨rfl, rfl⟩
  · rintro ⟨h, _, _, h8, h36, h7, _⟩
    have h : τ.bval 44 = false := h
    rw [K44 h7 h36 h8] at h; cases h
  · rintro ⟨h, _⟩
    have h : τ.bval 42 = false := h
    rw [x42] at h; cases h
  · rintro ⟨h, _⟩
    have h : τ.bval 37 = false := h
    rw [x37] at h; cases h
  · exact fun _ => ⟨rfl, rfl⟩
  · rintro ⟨h, _, _, h36, h7, _⟩
    have h : τ.bval 45 = false := h
    rw [K45 h7 h36] at h; cases h
  · rintro ⟨h, _⟩
    have h : τ.bval 42 = false := h
    rw [x42] at h; cases h
  · rintro ⟨h, _⟩
    have h : τ.bval 37 = false := h
    rw [x37] at h; cases h
  · exact fun _ => ⟨rfl, rfl⟩
  · rintro ⟨h, _, _, h7, _⟩
    have h : τ.bval 45 = false := h
    rw [K46 h7] at h; cases h
  · rintro ⟨h, _⟩
    have h : τ.bval 42 = false := h
    rw [x42] at h; cases h
  · rintro ⟨h, _⟩
    have h : τ.bval 37 = false := h
    rw [x37] at h; cases h
  · rintro ⟨h, _⟩
    have h : τ.bval 14 = false := h
    rw [← e14, decide_eq_false_iff_not] at h
    exact h P.p1
  · rintro ⟨h, _⟩
    have h : τ.bval 13 = false := h
    rw [← e13, decide_eq_false_iff_not] at h
    exact h P.p0

theorem walk (a0 a1 a2 a3 a4 : Int) (w0 : (Lit.int .u16 a0).wf = true) (w1 : (Lit.int .u16 a1).wf = true) (w2 : (Lit.int .u16 a2).wf = true) (w3 : (Lit.int .u16 a3).wf = true) (w4 : (Lit.int .u32 a4).wf = true) (w : World) :
    Calls Try.prog 10 #[.agg #[.int .u16 a0, .int .u16 a1, .int .u16 a2], .int .u16 a3, .int .u32 a4] w fun e w' => e = .returned (.bool true) ∧ Below w.heap.size w w' := by
  obtain ⟨b00, b01⟩ := bounds_u16 w0
  obtain ⟨b10, b11⟩ := bounds_u16 w1
  obtain ⟨b20, b21⟩ := bounds_u16 w2
  obtain ⟨b30, b31⟩ := bounds_u16 w3
  obtain ⟨b40, b41⟩ : 0 ≤ a4 ∧ a4 ≤ 4294967295 := by
    simp [Lit.wf, IntKind.min, IntKind.max, IntKind.bits, IntKind.signed] at w4
    omega
  refine calls_of_wp Try.func10 hbody ?_
  rw [hnt]
  have ha : LRel ⟨fun _ => none, sigL tab [a0, a1, a2, a3, a4] []⟩ [.agg [.symi .u16 0, .symi .u16 1, .symi .u16 2], .symi .u16 3, .symi .u32 4] (#[Value.agg #[.int .u16 a0, .int .u16 a1, .int .u16 a2], .int .u16 a3, .int .u32 a4] : Array Value).toList :=
    .cons _ _ _ _ (.agg _ _ (.cons _ _ _ _ (rel_symi rfl) (.cons _ _ _ _ (rel_symi rfl) (.cons _ _ _ _ (rel_symi rfl) .nil)))) (.cons _ _ _ _ (rel_symi rfl) (.cons _ _ _ _ (rel_symi rfl) .nil))
  have hS : At tab s0 199 (sigL tab [a0, a1, a2, a3, a4] []) w _ w := at_start (tab := tab) rfl ha (n := 199) (by show 3 ≤ 199; decide) w
  have agA := agree_solve tpAG 5 (sigL tab [a0, a1, a2, a3, a4] [])
  have iA := fun j hj => ((agA.val j hj).1).symm
  refine cut_of hcut ?_
  refine segL tk.mixed (fun F => tk_hooks F) a_ok a_id a_reck hS
    (planA _ (eqs_solve a_ok) (solve_tab tab tpAG 5 _ _) (by rw [iA 0 (by decide)]; exact b00) (by rw [iA 0 (by decide)]; exact b01) (by rw [iA 1 (by decide)]; exact b10) (by rw [iA 1 (by decide)]; exact b11) (by rw [iA 2 (by decide)]; exact b20) (by rw [iA 2 (by decide)]; exact b21)
      (by rw [iA 3 (by decide)]; exact b30) (by rw [iA 3 (by decide)]; exact b31) (by rw [iA 4 (by decide)]; exact b40) (by rw [iA 4 (by decide)]; exact b41)) ?_
  rintro e a w1 x s2 σ2 hx ⟨rfl, rfl, hP⟩ hA
  cases e <;> simp only [SExRel] at hx
  simp only [Exit.then]
  refine wp_block ?_
  refine loop_at (Inv := fun k a w2 => ∃ σ, At tab sL 199 σ w a w2 ∧ Phi σ ∧ (σ.ival 9 + 1 - σ.ival 11).toNat = k) ?_ _ a w1 ⟨σ2, hA, hP, rfl⟩
  rintro k a w2 ⟨σ, hA, hP, hk⟩
  have agB := agree_solve tpBG 13 σ
  have tabB : (solve tpBG 13 σ).tab = tab := by
    rw [← agB.tab]
    obtain ⟨g, rfl, hH, _⟩ := hA.ex
    exact hH.sig.tab
  have hkB : ((solve tpBG 13 σ).ival 9 + 1 - (solve tpBG 13 σ).ival 11).toNat = k := by
    rw [← (agB.val 9 (by decide)).1, ← (agB.val 11 (by decide)).1]; exact hk
  have hstep := segL (K := (fun a' w' => (Exit.normal = .normal ∧ ∃ k', k' < k ∧ ∃ σ, At tab sL 199 σ w a' w' ∧ Phi σ ∧ (σ.ival 9 + 1 - σ.ival 11).toNat = k') ∨ (Exit.normal ≠ .normal ∧ False)))
    (Q := fun e a' w' => (e = .normal ∧ ∃ k', k' < k ∧ ∃ σ, At tab sL 199 σ w a' w' ∧ Phi σ ∧ (σ.ival 9 + 1 - σ.ival 11).toNat = k') ∨ (e ≠ .normal ∧ Exit.inBlock (idOf (bodyOf Try.f10)) (Exit.then (chainK Try.prog (postOf (bodyOf Try.f10)) (bodyPost Try.prog Try.f10 (fun e w' => e = .returned (.bool true) ∧ Below w.heap.size w w') .normal) (bodyPost Try.prog Try.f10 (fun e w' => e = .returned (.bool true) ∧ Below w.heap.size w w'))) (bodyPost Try.prog Try.f10 (fun e w' => e = .returned (.bool true) ∧ Below w.heap.size w w'))) e a' w'))
    tk.mixed (fun F => tk_hooks F) b_ok l_id b_reck hA (planB _ (eqs_solve b_ok) tabB (hP.agree agB) k hkB) ?_
  · simp only [chainK] at hstep
    refine wp_mono hstep fun e a' w' he => ?_
    cases e with
    | normal =>
      rcases he with he | ⟨_, he⟩
      · exact .inl ⟨rfl, he.2⟩
      · exact he.elim
    | _ => exact he
  · rintro e a' w' x s2 σ3 hx ⟨rfl, hP3, hq⟩ hA3
    rcases hq with ⟨rfl, hlt⟩ | ⟨rfl, hi⟩
    · cases e <;> simp only [SExRel] at hx
      exact .inl ⟨rfl, _, hlt, σ3, hA3, hP3, rfl⟩
    · cases e with
      | exit j =>
        have hj : 0 = j := hx
        subst hj
        refine .inr ⟨by simp, ?_⟩
        rw [hid]
        simp only [Exit.inBlock, if_true, Exit.then]
        have agC := agree_solve tpCG 13 σ3
        have tabC : (solve tpCG 13 σ3).tab = tab := by
          rw [← agC.tab]
          obtain ⟨g, rfl, hH, _⟩ := hA3.ex
          exact hH.sig.tab
        have hiC : (solve tpCG 13 σ3).ival 11 = (solve tpCG 13 σ3).ival 9 + 1 := by
          rw [← (agC.val 9 (by decide)).1, ← (agC.val 11 (by decide)).1]; exact hi
        refine segL tk.mixed (fun F => tk_hooks F) c_ok l_id c_reck hA3 (planC _ (eqs_solve c_ok) tabC (hP3.agree agC) hiC) ?_
        rintro e a4 w4 x s4 σ4 hx ⟨rfl, rfl⟩ hA4
        rw [then_self]
        exact at_end hres hA4 (by simp [sE]) (.inl hx)
      | _ => exact hx.elim

theorem cells87 : Try.prog.cellsOf 87 = 3 := by kernel_rfl
theorem cells65 : Try.prog.cellsOf 65 = 1 := by kernel_rfl

section
variable {H : Type} {enc : TypeId × Value → H} {P : Program}
theorem post_of_below {f : Func} {s : ChangeSpec} {apart fresh handsOn again : Bool} {W W' : World} {args : Array Value} {v : Value} {ds gs : List (DataW H)} {before pa pv : List MemPlace}
    (hW : DataW.Whole enc P f.params.toList s.vars apart W args.toList ds gs before)
    (hres : ∀ (b : Nat) (sp : Nat → Bool) (hd : Bool), DataW.TrodAll enc P W' b sp hd f.resultTypes.toList (v.resultList f.resultTypes.size) (s.fn H (ds ++ gs)).results [])
    (hargs : ∀ sp : Nat → Bool, (∀ p ∈ before, sp p.block = true) → DataW.TrodAll enc P W' 0 sp true f.params.toList args.toList (s.fn H (ds ++ gs)).args pa)
    (hvars : ∀ sp : Nat → Bool, (∀ p ∈ before, sp p.block = true) → DataW.TrodVars enc P W' sp s.vars (s.fn H (ds ++ gs)).vars pv)
    (hps : before = pa ++ pv) (hb : Below W.heap.size W W')
    (hok : ∀ (j : Nat) (t : TypeId) (r : Value), f.resultTypes[j]? = some t → (v.resultList f.resultTypes.size)[j]? = some r → Value.okWide P W' .any 0 t r) :
    s.post enc P f apart fresh handsOn again W args v W' := by
  have hlt : ∀ p ∈ before, p.block < W.heap.size := fun p hp => hW.lt p hp
  have hold : ∀ p ∈ before, (fun b => decide (b < W.heap.size)) p.block = true := fun p hp => by simpa using hlt p hp
  refine ⟨ds, gs, before, [], pa, pv, hW, hres _ _ _, hargs _ hold, hvars _ hold, World.keptBut_mono (fun p hp => ⟨hp, ?_⟩) (hb.frame (· ∈ before)), fun _ => ?_⟩
  · rw [hps, List.mem_append] at hp
    exact Or.inr hp
  · obtain ⟨_, _, _, _, _, hz, hn⟩ := hW
    refine ⟨hok, _, _, ([] ++ pa) ++ pv, ⟨[] ++ pa, pv, trodAll_append (hargs _ (fun _ _ => rfl)) (hres _ _ _), hvars _ (fun _ _ => rfl), rfl, ?_, ?_⟩, ?_⟩
    · intro b off hp
      have hin : MemPlace.cell b off ∈ before := by rw [hps]; simpa using hp
      rw [hb.frozen (hlt _ hin)]
      exact hz b off hin
    · intro ha
      have := hn ha
      rw [hps] at this
      simpa using this
    · intro p hp _
      rw [hps]
      simpa using hp
end

set_option maxRecDepth 100000 in
theorem lifted (os : Os) (started : os.Started) (H : Type) (enc : TypeId × Value → H) :
    ReturnsInHanded {} Try.checked os 10 .any (Rows.timerPeriodSpec.pre6 enc Try.prog Try.f10 Rows.timerPeriodRow.domain false) (Rows.timerPeriodSpec.post enc Try.prog Try.f10 false true false false) := by
  refine returnsInHanded_of_change (C := Try.checked) own started (by kernel_rfl) Try.func10
    (ChangeSpec.witness6 (enc := enc) (C := Try.checked) false ⟨#[], #[.agg #[.int .u16 0, .int .u16 0, .int .u16 0], .int .u16 0, .int .u32 0], []⟩ 8 (by kernel_rfl) (by kernel_rfl) (by kernel_rfl) (by kernel_rfl)) ?_
  intro W base args ds gs before hval0 hW hcnd _
  have hval : ∀ (j : Nat) t v, Try.f10.params[j]? = some t → args[j]? = some v → Value.okWide Try.prog W .any base t v := hval0
  have hW' := hW
  obtain ⟨p, q, hA0, hV, rfl, hfz, hnd⟩ := hW
  have hA : DataW.TrodAll enc Try.prog W 0 (fun _ => true) true Try.f10.params.toList args.toList ds p := hA0
  rw [Try.params10] at hA hval
  obtain ⟨v0, vs0, d0, ds0, p0, q0, hargs, rfl, rfl, h0, r0⟩ := trodAll_cons hA
  obtain ⟨v1, vs1, d1, ds1, p1, q1, rfl, rfl, rfl, h1, r1⟩ := trodAll_cons r0
  obtain ⟨v2, vs2, d2, ds2, p2, q2, rfl, rfl, rfl, h2, r2⟩ := trodAll_cons r1
  obtain ⟨rfl, rfl, rfl⟩ := trodAll_nil r2
  obtain rfl : args = #[v0, v1, v2] := by cases args; simp_all
  obtain ⟨rfl, rfl⟩ := trodVars_none hV
  obtain ⟨a0, a1, a2, rfl, rfl, rfl, w0, w1, w2⟩ := open_arr3 Try.underlying87 cells65 cells87 Try.underlying65 (hval 0 87 v0 rfl rfl) h0
  obtain ⟨a3, rfl, rfl, rfl, w3⟩ := open_int Try.underlying65 (hval 1 65 v1 rfl rfl) h1
  obtain ⟨a4, rfl, rfl, rfl, w4⟩ := open_int Try.underlying88 (hval 2 88 v2 rfl rfl) h2
  clear hA0 hval0
  simp only [List.append_nil] at hW'
  refine (walk a0 a1 a2 a3 a4 w0 w1 w2 w3 w4 W).mono fun e W' ⟨he, hg⟩ => ?_
  subst he
  exact ⟨_, rfl, post_of_below (pa := []) (pv := []) hW' (fun _ _ _ => (trodAll_cons_mk (shut_bool Try.underlying4 _) trodAll_mk0)) (fun sp _ => (trodAll_cons_mk (shut_arr3 Try.underlying87 cells65 cells87 Try.underlying65 w0 w1 w2) (trodAll_cons_mk (shut_int Try.underlying65 w3) (trodAll_cons_mk (shut_int Try.underlying88 w4) trodAll_mk0)))) (fun _ _ => rfl) rfl
    hg (ok_one (by kernel_rfl) rfl (okWide_bool_mk Try.underlying4 _))⟩

theorem over : Rows.timerPeriodRow.holds Try.pinned (OpenSpec.ofChange Rows.timerPeriodSpec) :=
  OpenClaim.holds_of_wide 10 Try.f10 rfl rfl rfl rfl rfl rfl rfl ⟨rfl, rfl, rfl, rfl, rfl⟩ rfl rfl rfl rfl rfl (by kernel_rfl) Try.func10 (by kernel_rfl)
    (of_decide_eq_true (by kernel_rfl)) (by unfold Func.isWrapper; first | (rw [if_pos (by decide +kernel)]; kernel_rfl) | (rw [if_neg (by decide +kernel)]; exact ⟨rfl, rfl⟩))
    (fun os started H enc _ => lifted os started H enc)

/-- THE STATEMENT -/
theorem proved : Rows.TimerPeriodSaid :=
  over
#print axioms proved
end Go.Proofs.Ytgifnmiggloclaa.timerPeriod
