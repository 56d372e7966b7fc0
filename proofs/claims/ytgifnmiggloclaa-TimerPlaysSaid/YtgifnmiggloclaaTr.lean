/-
  The contracts of the reference's Ticks and Next: they do what timer's do.
  No conditions.
-/
import Derived.Test.YtgifnmiggloclaaChecked
import Derived.Test.YtgifnmiggloclaaTq
import Derived.Test.YtgifnmiggloclaaEwZj
import Derived.ProofKit
namespace Go.Proofs.Ytgifnmiggloclaa.tr
open Go.RowKit Go.Ev Go.Proofs.Ytgifnmiggloclaa.tp Go.Proofs.Ytgifnmiggloclaa.tq
set_option linter.unusedVariables false
set_option linter.unusedSimpArgs false

def rqFs : Nat → List Int → List Int := fun _ => tickF
def rqTbl : List Ent := [⟨42, tickI, tickO, 0⟩]
theorem rq_all : ∀ e, e ∈ rqTbl → (cellsOf e.outs).length ≤ 64 ∧ FnOk Try.prog e.f e.ins e.outs (rqFs e.id) := by
  intro e he
  simp only [rqTbl, List.mem_singleton] at he
  subst he
  exact ⟨by decide, rtick_contract⟩

def rtS0 : Shape := ⟨argT 0 (symSh [t3, .one (.i .i64)] 0), []⟩
def rtS1 : Shape := ⟨[(1, .symi .i64 4), (2, .ptr 0 0), (4, .ptr 1 0), (6, .symi .i64 5), (7, .symi .i64 0)], [.cells [.symi .u16 1, .symi .u16 2, .symi .u16 3] 69, .cells [.int .u16 0, .int .u16 0, .int .u16 0] 69]⟩
def rtS2 : Shape := ⟨[(2, .ptr 0 0), (4, .ptr 1 0), (6, .symi .i64 3)], [.cells [.symi .u16 0, .symi .u16 1, .symi .u16 2] 69, .cells [.int .u16 0, .int .u16 0, .int .u16 0] 69]⟩
def rtSE : Shape := ⟨[(4, .ptr 0 0), (5, .symi .i64 3)], [.cells [.symi .u16 0, .symi .u16 1, .symi .u16 2] 69]⟩
def rtK : List (Option IntKind) := [some .i64, some .u16, some .u16, some .u16, some .i64, some .i64]
def rtK2 : List (Option IntKind) := [some .u16, some .u16, some .u16, some .i64]
def rnS0 : Shape := ⟨argT 0 (symSh [t3] 0), []⟩
def rnS1 : Shape := ⟨[(1, .ptr 0 0), (2, .int .i64 0), (3, .symi .i64 0)], [.cells [.symi .u16 1, .symi .u16 2, .symi .u16 3] 69]⟩
def rnS2 : Shape := ⟨[], []⟩
def rnSE : Shape := ⟨[(2, .symi .i64 0)], []⟩
def rnK : List (Option IntKind) := [some .i64, some .u16, some .u16, some .u16]

theorem wrC {c p t n : Int} (w : IntKind.u16.wrap c = c) : IntKind.u16.wrap (tkC c p t n) = tkC c p t n := by
  unfold tkC; split <;> (try split) <;> (try split) <;> (try split) <;> first | exact w | exact wrap_wrap _ _ | rfl
theorem wrT {c p t n : Int} (w : IntKind.u16.wrap t = t) : IntKind.u16.wrap (tkT c p t n) = tkT c p t n := by
  unfold tkT; split <;> (try split) <;> (try split) <;> (try split) <;> first | exact w | (unfold drop1; exact wrap_wrap _ _)
theorem wrK {c p t n : Int} : IntKind.i64.wrap (tkK c p t n) = tkK c p t n := by
  unfold tkK; split <;> (try split) <;> (try split) <;> (try split) <;> first | rfl | exact wrap_wrap _ _
theorem i64_range {n : Int} (h : IntKind.i64.wrap n = n) : -9223372036854775808 ≤ n ∧ n ≤ 9223372036854775807 := by
  simp [IntKind.wrap, IntKind.bits, IntKind.signed] at h; omega
theorem w64 {n : Int} (h0 : -9223372036854775808 ≤ n) (h1 : n ≤ 9223372036854775807) : IntKind.i64.wrap n = n := by
  simp [IntKind.wrap, IntKind.bits, IntKind.signed]; omega
/-- what one tick asks -/
theorem one_K {c p t : Int} (c0 : 0 ≤ c) (c1 : c ≤ 65535) (p0 : 0 ≤ p) (p1 : p ≤ 65535) : tkK c p t 1 = 0 ∨ tkK c p t 1 = 1 := by
  obtain ⟨a1, a2, a3⟩ := tk_all (t := t) (n := 1) c0 c1 p0 p1 (by decide) (by decide)
  obtain ⟨f0, f1⟩ := F_pos c p
  by_cases l1 : low1 t = 0
  · exact .inl (a1 l1).2.2
  · by_cases l2 : low2 t = 0
    · rw [(a2 l1 l2).2.2]; split <;> simp
    · rw [(a3 l1 l2).2.2]
      split
      · simp
      · rw [show (1 : Int) - F c p = 0 by omega]; simp

set_option maxRecDepth 100000 in
def rtAG : List SDef := []

def rtAT : LT := .e

def rtAW : Sw := .run (.leaf .normal rtS1 [(0, 0), (1, 0)] [(4, .symi .i64 3), (5, .int .i64 0), (0, .int .i64 0), (1, .symi .u16 0), (2, .symi .u16 1), (3, .symi .u16 2)] [])
set_option maxRecDepth 100000 in
def rtBG : List SDef := [.bin .lss (.symi .i64 0) (.symi .i64 4),
  .fn 0 .u16 [.symi .u16 1, .symi .u16 2, .symi .u16 3],
  .fn 1 .u16 [.symi .u16 1, .symi .u16 2, .symi .u16 3],
  .fn 2 .u16 [.symi .u16 1, .symi .u16 2, .symi .u16 3],
  .fnb 3 [.symi .u16 1, .symi .u16 2, .symi .u16 3],
  .bin .add (.symi .i64 5) (.int .i64 1),
  .ite (.symb 10) (.symi .i64 11) (.symi .i64 5),
  .bin .add (.symi .i64 0) (.int .i64 1)]

def rtBT : LT := .n (.n (.n (.n (.e) 60352 13 (.bin .add (.symi .i64 0) (.int .i64 1)) (.e)) 299702907 6 (.bin .lss (.symi .i64 0) (.symi .i64 4)) (.e)) 458134802 7 (.fn 0 .u16 [.symi .u16 1, .symi .u16 2, .symi .u16 3]) (.n (.e) 458134845 8 (.fn 1 .u16 [.symi .u16 1, .symi .u16 2, .symi .u16 3]) (.e))) 458134888 9 (.fn 2 .u16 [.symi .u16 1, .symi .u16 2, .symi .u16 3]) (.n (.n (.e) 505061867 11 (.bin .add (.symi .i64 5) (.int .i64 1)) (.e)) 562829505 12 (.ite (.symb 10) (.symi .i64 11) (.symi .i64 5)) (.n (.e) 954515389 10 (.fnb 3 [.symi .u16 1, .symi .u16 2, .symi .u16 3]) (.e)))

def rtBW : Sw := .run (.node 6 (.leaf .normal rtS1 [(0, 0), (1, 0)] [(4, .symi .i64 4), (5, .symi .i64 12), (0, .symi .i64 13), (1, .symi .u16 7), (2, .symi .u16 8), (3, .symi .u16 9)] []) (.leaf (.exit 0) rtS2 [(0, 0), (1, 0)] [(3, .symi .i64 5), (0, .symi .u16 1), (1, .symi .u16 2), (2, .symi .u16 3)] []))
set_option maxRecDepth 100000 in
def rtCG : List SDef := []

def rtCT : LT := .e

def rtCW : Sw := .run (.leaf .ret rtSE [(1, 0)] [(3, .symi .i64 3), (0, .symi .u16 0), (1, .symi .u16 1), (2, .symi .u16 2)] [])
set_option maxRecDepth 100000 in
def rnAG : List SDef := []

def rnAT : LT := .e

def rnAW : Sw := .run (.leaf .normal rnS1 [(0, 0)] [(0, .int .i64 1), (1, .symi .u16 0), (2, .symi .u16 1), (3, .symi .u16 2)] [])
set_option maxRecDepth 100000 in
def rnBG : List SDef := [.bin .leq (.symi .i64 0) (.int .i64 65536),
  .fn 0 .u16 [.symi .u16 1, .symi .u16 2, .symi .u16 3],
  .fn 1 .u16 [.symi .u16 1, .symi .u16 2, .symi .u16 3],
  .fn 2 .u16 [.symi .u16 1, .symi .u16 2, .symi .u16 3],
  .fnb 3 [.symi .u16 1, .symi .u16 2, .symi .u16 3],
  .bin .add (.symi .i64 0) (.int .i64 1)]

def rnBT : LT := .n (.n (.n (.e) 60352 9 (.bin .add (.symi .i64 0) (.int .i64 1)) (.e)) 57878694 4 (.bin .leq (.symi .i64 0) (.int .i64 65536)) (.n (.e) 458134802 5 (.fn 0 .u16 [.symi .u16 1, .symi .u16 2, .symi .u16 3]) (.e))) 458134845 6 (.fn 1 .u16 [.symi .u16 1, .symi .u16 2, .symi .u16 3]) (.n (.n (.e) 458134888 7 (.fn 2 .u16 [.symi .u16 1, .symi .u16 2, .symi .u16 3]) (.e)) 954515389 8 (.fnb 3 [.symi .u16 1, .symi .u16 2, .symi .u16 3]) (.e))

def rnBW : Sw := .run (.node 4 (.node 8 (.leaf .ret rnSE [] [(0, .symi .i64 0)] []) (.leaf .normal rnS1 [(0, 0)] [(0, .symi .i64 9), (1, .symi .u16 5), (2, .symi .u16 6), (3, .symi .u16 7)] [])) (.leaf (.exit 0) rnS2 [] [] []))
set_option maxRecDepth 100000 in
def rnCG : List SDef := []

def rnCT : LT := .e

def rnCW : Sw := .run (.leaf .ret rnSE [] [(0, .int .i64 0)] [])
def rtAX : Ing := { m := 4, ins := (cellsOf tkI).map kindC, G := rtAG, T := rtAT, hook := tblHook (tabOf rqFs) rqTbl, tab := tabOf rqFs }
theorem rtA_ok : okG rtAG 4 = true := by kernel_rfl
theorem rtA_lt : okLT 4 rtAG rtAT = true := by kernel_rfl
theorem rtA_seg : SegOk Try.prog (tabOf rqFs) 26 (preOf (bodyOf Try.f44)) rtS0 rtAX rtAW where
  lt := rtA_lt
  ok := rtA_ok
  hook := fun F => tbl_hooks rtA_lt rfl rfl rq_all F
  n0 := rfl
  id := by kernel_rfl
  reck := by kernel_rfl
  tab := rfl
  cuts := rfl
def rtBX : Ing := { m := 6, ins := rtK, G := rtBG, T := rtBT, hook := tblHook (tabOf rqFs) rqTbl, tab := tabOf rqFs }
theorem rtB_ok : okG rtBG 6 = true := by kernel_rfl
theorem rtB_lt : okLT 6 rtBG rtBT = true := by kernel_rfl
theorem rtB_seg : SegOk Try.prog (tabOf rqFs) 26 ([loopOf (bodyOf Try.f44)]) rtS1 rtBX rtBW where
  lt := rtB_lt
  ok := rtB_ok
  hook := fun F => tbl_hooks rtB_lt rfl rfl rq_all F
  n0 := rfl
  id := by kernel_rfl
  reck := by kernel_rfl
  tab := rfl
  cuts := rfl
def rtCX : Ing := { m := 4, ins := rtK2, G := rtCG, T := rtCT, hook := tblHook (tabOf rqFs) rqTbl, tab := tabOf rqFs }
theorem rtC_ok : okG rtCG 4 = true := by kernel_rfl
theorem rtC_lt : okLT 4 rtCG rtCT = true := by kernel_rfl
theorem rtC_seg : SegOk Try.prog (tabOf rqFs) 26 (postOf (bodyOf Try.f44)) rtS2 rtCX rtCW where
  lt := rtC_lt
  ok := rtC_ok
  hook := fun F => tbl_hooks rtC_lt rfl rfl rq_all F
  n0 := rfl
  id := by kernel_rfl
  reck := by kernel_rfl
  tab := rfl
  cuts := rfl
def rnAX : Ing := { m := 3, ins := (cellsOf tickI).map kindC, G := rnAG, T := rnAT, hook := tblHook (tabOf rqFs) rqTbl, tab := tabOf rqFs }
theorem rnA_ok : okG rnAG 3 = true := by kernel_rfl
theorem rnA_lt : okLT 3 rnAG rnAT = true := by kernel_rfl
theorem rnA_seg : SegOk Try.prog (tabOf rqFs) 18 (preOf (bodyOf Try.f38)) rnS0 rnAX rnAW where
  lt := rnA_lt
  ok := rnA_ok
  hook := fun F => tbl_hooks rnA_lt rfl rfl rq_all F
  n0 := rfl
  id := by kernel_rfl
  reck := by kernel_rfl
  tab := rfl
  cuts := rfl
def rnBX : Ing := { m := 4, ins := rnK, G := rnBG, T := rnBT, hook := tblHook (tabOf rqFs) rqTbl, tab := tabOf rqFs }
theorem rnB_ok : okG rnBG 4 = true := by kernel_rfl
theorem rnB_lt : okLT 4 rnBG rnBT = true := by kernel_rfl
theorem rnB_seg : SegOk Try.prog (tabOf rqFs) 18 ([loopOf (bodyOf Try.f38)]) rnS1 rnBX rnBW where
  lt := rnB_lt
  ok := rnB_ok
  hook := fun F => tbl_hooks rnB_lt rfl rfl rq_all F
  n0 := rfl
  id := by kernel_rfl
  reck := by kernel_rfl
  tab := rfl
  cuts := rfl
def rnCX : Ing := { m := 0, ins := [], G := rnCG, T := rnCT, hook := tblHook (tabOf rqFs) rqTbl, tab := tabOf rqFs }
theorem rnC_ok : okG rnCG 0 = true := by kernel_rfl
theorem rnC_lt : okLT 0 rnCG rnCT = true := by kernel_rfl
theorem rnC_seg : SegOk Try.prog (tabOf rqFs) 18 (postOf (bodyOf Try.f38)) rnS2 rnCX rnCW where
  lt := rnC_lt
  ok := rnC_ok
  hook := fun F => tbl_hooks rnC_lt rfl rfl rq_all F
  n0 := rfl
  id := by kernel_rfl
  reck := by kernel_rfl
  tab := rfl
  cuts := rfl

def rtJ (l : List Int) (σ : Sig) : Prop := match l with
  | [c, p, t, n] => σ.ival 4 = n ∧ 0 ≤ σ.ival 0 ∧ (σ.ival 0 = 0 ∨ σ.ival 0 ≤ n) ∧ σ.ival 1 = tkC c p t (σ.ival 0) ∧ σ.ival 2 = p ∧ σ.ival 3 = tkT c p t (σ.ival 0) ∧ σ.ival 5 = tkK c p t (σ.ival 0)
  | _ => False
def rtQ (l : List Int) (σ : Sig) : Prop := match l with
  | [c, p, t, n] => σ.ival 0 = tkC c p t n ∧ σ.ival 1 = p ∧ σ.ival 2 = tkT c p t n ∧ σ.ival 3 = tkK c p t n
  | _ => False
theorem rtJ_agree (l : List Int) (σ τ : Sig) (ag : Agree 6 σ τ) (h : rtJ l σ) : rtJ l τ := by
  unfold rtJ at h ⊢
  split at h
  · rw [← (ag.val 0 (by decide)).1, ← (ag.val 1 (by decide)).1, ← (ag.val 2 (by decide)).1, ← (ag.val 3 (by decide)).1, ← (ag.val 4 (by decide)).1, ← (ag.val 5 (by decide)).1]
    exact h
  · cases h
theorem rtQ_agree (l : List Int) (σ τ : Sig) (ag : Agree 4 σ τ) (h : rtQ l σ) : rtQ l τ := by
  unfold rtQ at h ⊢
  split at h
  · rw [← (ag.val 0 (by decide)).1, ← (ag.val 1 (by decide)).1, ← (ag.val 2 (by decide)).1, ← (ag.val 3 (by decide)).1]
    exact h
  · cases h
theorem tk0 (c p t : Int) : tkC c p t 0 = c ∧ tkT c p t 0 = t ∧ tkK c p t 0 = 0 := ⟨rfl, rfl, rfl⟩
theorem tk_neg {c p t n : Int} (h : n ≤ 0) : tkC c p t n = c ∧ tkT c p t n = t ∧ tkK c p t n = 0 := by
  unfold tkC tkT tkK
  rw [if_pos h, if_pos h, if_pos h]
  exact ⟨rfl, rfl, rfl⟩

set_option maxRecDepth 100000 in
theorem rtB_ob (l : List Int) (τ : Sig) (hl : InR (cellsOf tkI) l) (e : Eqs τ 6 rtBX.G) (ht : τ.tab = tabOf rqFs) (hin : InsOk τ 6 rtK) (hj : rtJ l τ) :
    segsW τ (fun x s σ2 => (x = .normal ∧ s = rtS1 ∧ InsOk σ2 6 rtK ∧ rtJ l σ2 ∧ σ2.tab = tabOf rqFs ∧ (fun σ : Sig => (σ.ival 4 - σ.ival 0).toNat) σ2 < (fun σ : Sig => (σ.ival 4 - σ.ival 0).toNat) τ) ∨ (x = .exit (idOf (bodyOf Try.f44)) ∧ s = rtS2 ∧ InsOk σ2 rtCX.m rtK2 ∧ rtQ l σ2 ∧ σ2.tab = tabOf rqFs)
      ∨ (x = .ret ∧ s = rtSE ∧ OutOk σ2 tkO (packA [.agg [.symi .u16 0, .symi .u16 1, .symi .u16 2], .symi .i64 3]) (tkF l))) rtBW [] := by
  match l, hl with
  | [c, p, t, n], hl =>
  obtain ⟨w0, w1, w2, w3, _⟩ := hl
  obtain ⟨c0, c1⟩ := u16_range w0
  obtain ⟨p0, p1⟩ := u16_range w1
  obtain ⟨t0, t1⟩ := u16_range w2
  obtain ⟨n0, n1⟩ := i64_range w3
  obtain ⟨j4, j0, jn, j1, j2, j3, j5⟩ := hj
  have e6 : τ.bval 6 = decide (τ.ival 0 < τ.ival 4) := eqB (e.at 0 _ rfl rfl) rfl
  have e7 : τ.ival 7 = IntKind.u16.wrap (τ.tab 0 [τ.ival 1, τ.ival 2, τ.ival 3]) := eqI (e.at 1 _ rfl rfl) rfl
  have e8 : τ.ival 8 = IntKind.u16.wrap (τ.tab 1 [τ.ival 1, τ.ival 2, τ.ival 3]) := eqI (e.at 2 _ rfl rfl) rfl
  have e9 : τ.ival 9 = IntKind.u16.wrap (τ.tab 2 [τ.ival 1, τ.ival 2, τ.ival 3]) := eqI (e.at 3 _ rfl rfl) rfl
  have e10 : τ.bval 10 = (!(τ.tab 3 [τ.ival 1, τ.ival 2, τ.ival 3] == 0)) := eqB (e.at 4 _ rfl rfl) rfl
  have e11 : τ.ival 11 = IntKind.i64.wrap (τ.ival 5 + 1) := eqI (e.at 5 _ rfl rfl) rfl
  have e12 : τ.ival 12 = (bif τ.bval 10 then τ.ival 11 else τ.ival 5) := eqIteI (e.at 6 _ rfl rfl) rfl rfl rfl
  have e13 : τ.ival 13 = IntKind.i64.wrap (τ.ival 0 + 1) := eqI (e.at 7 _ rfl rfl) rfl
  generalize hi : τ.ival 0 = i at *
  rw [j4] at e6
  rw [j1, j2, j3, ht] at e7 e8 e9 e10
  refine ⟨fun hF => .inl ⟨rfl, rfl, insOk_asg e hin 12 (by kernel_rfl), ?_, ht, ?_⟩, fun hF => .inr (.inl ⟨rfl, rfl, insOk_asg e hin 12 (by kernel_rfl), ?_, ht⟩)⟩
  · have h6 : τ.bval 6 = true := hF.1
    rw [e6, decide_eq_true_eq] at h6
    obtain ⟨r0, r1⟩ := tkC_range (t := t) (n := i) c0 c1 p0 p1 j0 (by omega)
    obtain ⟨x1, x2, x3⟩ := add_all (t := t) (n := i) (m := 1) c0 c1 p0 p1 t0 t1 j0 (by decide) (by omega)
    have k1 := one_K (c := tkC c p t i) (p := p) (t := tkT c p t i) r0 r1 p0 p1
    have e7 : τ.ival 7 = tkC c p t (i + 1) := by rw [e7, ← x1]; show IntKind.u16.wrap (tkC (tkC c p t i) p (tkT c p t i) 1) = _; exact wrC (wrC w0)
    have e9 : τ.ival 9 = tkT c p t (i + 1) := by rw [e9, ← x2]; show IntKind.u16.wrap (tkT (tkC c p t i) p (tkT c p t i) 1) = _; exact wrT (wrT w2)
    have e10 : τ.bval 10 = decide (tkK (tkC c p t i) p (tkT c p t i) 1 > 0) := by
      rw [e10]
      show (!((if IntKind.i64.wrap (tkK (tkC c p t i) p (tkT c p t i) 1) > 0 then 1 else 0 : Int) == 0)) = _
      rw [wrK]
      by_cases h : tkK (tkC c p t i) p (tkT c p t i) 1 > 0
      · rw [if_pos h, decide_eq_true h]; rfl
      · rw [if_neg h, decide_eq_false h]; rfl
    have hK := i64_range (wrK (c := c) (p := p) (t := t) (n := i + 1))
    have e12 : τ.ival 12 = tkK c p t (i + 1) := by
      rw [e12, e10, e11, j5, ← x3]
      rcases k1 with k | k
      · rw [k]; simp
      · rw [k]
        show IntKind.i64.wrap (tkK c p t i + 1) = _
        have hKi := i64_range (wrK (c := c) (p := p) (t := t) (n := i))
        exact w64 (by omega) (by omega)
    have e13 : τ.ival 13 = i + 1 := by rw [e13]; exact w64 (by omega) (by omega)
    refine ⟨j4, ?_, ?_, ?_, ?_, ?_, ?_⟩
    · show 0 ≤ τ.ival 13; omega
    · show τ.ival 13 = 0 ∨ τ.ival 13 ≤ n; omega
    · show τ.ival 7 = tkC c p t (τ.ival 13); rw [e13, e7]
    · show τ.ival 8 = p; rw [e8]; exact w1
    · show τ.ival 9 = tkT c p t (τ.ival 13); rw [e13, e9]
    · show τ.ival 12 = tkK c p t (τ.ival 13); rw [e13, e12]
  · have h6 : τ.bval 6 = true := hF.1
    rw [e6, decide_eq_true_eq] at h6
    have e13 : τ.ival 13 = i + 1 := by rw [e13]; exact w64 (by omega) (by omega)
    show (τ.ival 4 - τ.ival 13).toNat < (τ.ival 4 - τ.ival 0).toNat
    rw [hi, e13, j4]
    omega
  · have h6 : τ.bval 6 = false := hF.1
    rw [e6, decide_eq_false_iff_not] at h6
    have same : tkC c p t i = tkC c p t n ∧ tkT c p t i = tkT c p t n ∧ tkK c p t i = tkK c p t n := by
      by_cases hz : i = n
      · rw [hz]; exact ⟨rfl, rfl, rfl⟩
      · have : i = 0 ∧ n ≤ 0 := by omega
        obtain ⟨a1, a2, a3⟩ := tk_neg (c := c) (p := p) (t := t) this.2
        rw [this.1, a1, a2, a3]; exact ⟨rfl, rfl, rfl⟩
    refine ⟨?_, ?_, ?_, ?_⟩
    · show τ.ival 1 = _; rw [j1, same.1]
    · show τ.ival 2 = _; exact j2
    · show τ.ival 3 = _; rw [j3, same.2.1]
    · show τ.ival 5 = _; rw [j5, same.2.2]

theorem rticks_contract : FnOk Try.prog 44 tkI tkO tkF :=
  loop_fnR (q := 6) (insq := rtK) (ins2 := rtK2) (S0 := rtS0) (S1 := rtS1) (S2 := rtS2) (SE := rtSE) (J := rtJ) (K := rtQ) (μ := fun σ => (σ.ival 4 - σ.ival 0).toNat) (n := 26) (vs := [.agg [.symi .u16 0, .symi .u16 1, .symi .u16 2], .symi .i64 3])
    mixed Try.func44 (by kernel_rfl) (by kernel_rfl) (by kernel_rfl) rfl (fun l => by simp [tkI, t3, encS]) (by kernel_rfl)
    rtA_seg ⟨rfl, rfl, rfl⟩ rtB_seg ⟨rfl, rfl, rfl⟩ rtC_seg ⟨rfl, rfl⟩ rtJ_agree rtQ_agree (fun σ τ ag => by rw [(ag.val 4 (by decide)).1, (ag.val 0 (by decide)).1])
    (fun l τ hl e ht hin hi _ => by
      match l, hl with
      | [c, p, t, n], hl =>
      have i0 : τ.ival 0 = c := hi 0 (by decide)
      have i1 : τ.ival 1 = p := hi 1 (by decide)
      have i2 : τ.ival 2 = t := hi 2 (by decide)
      have i3 : τ.ival 3 = n := hi 3 (by decide)
      obtain ⟨a1, a2, a3⟩ := tk0 c p t
      refine ⟨rfl, rfl, insOk_asg e hin 12 (by kernel_rfl), ⟨i3, Int.le_refl _, .inl rfl, ?_, i1, ?_, ?_⟩, ht⟩
      · show τ.ival 0 = tkC c p t 0; rw [a1, i0]
      · show τ.ival 2 = tkT c p t 0; rw [a2, i2]
      · show (0 : Int) = tkK c p t 0; rw [a3])
    rtB_ob
    (fun l τ hl e ht hin hk _ => by
      match l, hl with
      | [c, p, t, n], hl =>
      obtain ⟨w0, w1, w2, w3, _⟩ := hl
      obtain ⟨k0, k1, k2, k3⟩ := hk
      refine ⟨.inl rfl, rfl, ⟨?_, ?_, ?_, trivial⟩, ?_, trivial⟩
      · show AVal.int .u16 (τ.ival 0) = .int .u16 (IntKind.u16.wrap (tkC c p t n)); rw [wrC w0, k0]
      · show AVal.int .u16 (τ.ival 1) = .int .u16 (IntKind.u16.wrap p); rw [show IntKind.u16.wrap p = p from w1, k1]
      · show AVal.int .u16 (τ.ival 2) = .int .u16 (IntKind.u16.wrap (tkT c p t n)); rw [wrT w2, k2]
      · show AVal.int .i64 (τ.ival 3) = .int .i64 (IntKind.i64.wrap (tkK c p t n)); rw [wrK, k3])

/-! ### Next -/

def rnJ (l : List Int) (σ : Sig) : Prop := match l with
  | [c, p, t] => 1 ≤ σ.ival 0 ∧ σ.ival 0 ≤ 65537 ∧ σ.ival 1 = tkC c p t (σ.ival 0 - 1) ∧ σ.ival 2 = p ∧ σ.ival 3 = tkT c p t (σ.ival 0 - 1) ∧ tkK c p t (σ.ival 0 - 1) = 0
  | _ => False
def rnQ (l : List Int) (σ : Sig) : Prop := match l with
  | [c, p, t] => low1 t = 0
  | _ => False
theorem rnJ_agree (l : List Int) (σ τ : Sig) (ag : Agree 4 σ τ) (h : rnJ l σ) : rnJ l τ := by
  unfold rnJ at h ⊢
  split at h
  · rw [← (ag.val 0 (by decide)).1, ← (ag.val 1 (by decide)).1, ← (ag.val 2 (by decide)).1, ← (ag.val 3 (by decide)).1]
    exact h
  · cases h
/-- where a timer asks first -/
theorem K_zero {c p t i : Int} (c0 : 0 ≤ c) (c1 : c ≤ 65535) (p0 : 0 ≤ p) (p1 : p ≤ 65535) (i0 : 0 ≤ i) (i1 : i ≤ 65537) : tkK c p t i = 0 ↔ low1 t = 0 ∨ i < F c p := by
  obtain ⟨a1, a2, a3⟩ := tk_all (t := t) (n := i) c0 c1 p0 p1 i0 (by omega)
  obtain ⟨q0, q1⟩ := q_pos p0 p1
  by_cases l1 : low1 t = 0
  · rw [(a1 l1).2.2]; simp [l1]
  · by_cases l2 : low2 t = 0
    · rw [(a2 l1 l2).2.2]
      constructor
      · intro h; split at h
        · right; assumption
        · cases h
      · rintro (h | h)
        · exact absurd h l1
        · rw [if_pos h]
    · rw [(a3 l1 l2).2.2]
      constructor
      · intro h; split at h
        · right; assumption
        · have : 0 ≤ (i - F c p) / q p := Int.ediv_nonneg (by omega) (by omega)
          omega
      · rintro (h | h)
        · exact absurd h l1
        · rw [if_pos h]

set_option maxRecDepth 100000 in
theorem rnB_ob (l : List Int) (τ : Sig) (hl : InR (cellsOf tickI) l) (e : Eqs τ 4 rnBX.G) (ht : τ.tab = tabOf rqFs) (hin : InsOk τ 4 rnK) (hj : rnJ l τ) :
    segsW τ (fun x s σ2 => (x = .normal ∧ s = rnS1 ∧ InsOk σ2 4 rnK ∧ rnJ l σ2 ∧ σ2.tab = tabOf rqFs ∧ (fun σ : Sig => (65537 - σ.ival 0).toNat) σ2 < (fun σ : Sig => (65537 - σ.ival 0).toNat) τ) ∨ (x = .exit (idOf (bodyOf Try.f38)) ∧ s = rnS2 ∧ InsOk σ2 rnCX.m [] ∧ rnQ l σ2 ∧ σ2.tab = tabOf rqFs)
      ∨ (x = .ret ∧ s = rnSE ∧ OutOk σ2 [.one (.i .i64)] (packA [.symi .i64 0]) (nextF l))) rnBW [] := by
  match l, hl with
  | [c, p, t], hl =>
  obtain ⟨w0, w1, w2, _⟩ := hl
  obtain ⟨c0, c1⟩ := u16_range w0
  obtain ⟨p0, p1⟩ := u16_range w1
  obtain ⟨t0, t1⟩ := u16_range w2
  obtain ⟨j0, j9, j1, j2, j3, j5⟩ := hj
  have e4 : τ.bval 4 = decide (τ.ival 0 ≤ 65536) := eqB (e.at 0 _ rfl rfl) rfl
  have e5 : τ.ival 5 = IntKind.u16.wrap (τ.tab 0 [τ.ival 1, τ.ival 2, τ.ival 3]) := eqI (e.at 1 _ rfl rfl) rfl
  have e6 : τ.ival 6 = IntKind.u16.wrap (τ.tab 1 [τ.ival 1, τ.ival 2, τ.ival 3]) := eqI (e.at 2 _ rfl rfl) rfl
  have e7 : τ.ival 7 = IntKind.u16.wrap (τ.tab 2 [τ.ival 1, τ.ival 2, τ.ival 3]) := eqI (e.at 3 _ rfl rfl) rfl
  have e8 : τ.bval 8 = (!(τ.tab 3 [τ.ival 1, τ.ival 2, τ.ival 3] == 0)) := eqB (e.at 4 _ rfl rfl) rfl
  have e9 : τ.ival 9 = IntKind.i64.wrap (τ.ival 0 + 1) := eqI (e.at 5 _ rfl rfl) rfl
  generalize hi : τ.ival 0 = i at *
  rw [j1, j2, j3, ht] at e5 e6 e7 e8
  obtain ⟨r0, r1⟩ := tkC_range (t := t) (n := i - 1) c0 c1 p0 p1 (by omega) (by omega)
  obtain ⟨x1, x2, x3⟩ := add_all (t := t) (n := i - 1) (m := 1) c0 c1 p0 p1 t0 t1 (by omega) (by decide) (by omega)
  rw [show i - 1 + 1 = i by omega] at x1 x2 x3
  have k1 := one_K (c := tkC c p t (i - 1)) (p := p) (t := tkT c p t (i - 1)) r0 r1 p0 p1
  have e8 : τ.bval 8 = decide (tkK c p t i > 0) := by
    rw [e8]
    show (!((if IntKind.i64.wrap (tkK (tkC c p t (i - 1)) p (tkT c p t (i - 1)) 1) > 0 then 1 else 0 : Int) == 0)) = _
    rw [wrK, show tkK (tkC c p t (i - 1)) p (tkT c p t (i - 1)) 1 = tkK c p t i by omega]
    by_cases h : tkK c p t i > 0
    · rw [if_pos h, decide_eq_true h]; rfl
    · rw [if_neg h, decide_eq_false h]; rfl
  have hk0 := (K_zero (t := t) (i := i - 1) c0 c1 p0 p1 (by omega) (by omega)).1 j5
  have hf := F_pos c p
  refine ⟨⟨fun hF => .inr (.inr ⟨rfl, rfl, ?_, trivial⟩), fun hF => .inl ⟨rfl, rfl, insOk_asg e hin 12 (by kernel_rfl), ?_, ht, ?_⟩⟩, fun hF => .inr (.inl ⟨rfl, rfl, fun i k hi _ => absurd (show i < 0 from hi) (by omega), ?_, ht⟩)⟩
  · have h8 : τ.bval 8 = true := hF.1
    rw [e8, decide_eq_true_eq] at h8
    show AVal.int .i64 (τ.ival 0) = .int .i64 (IntKind.i64.wrap (nxt c p t))
    have hz : ¬ (low1 t = 0 ∨ i < F c p) := fun h => by
      have := (K_zero (t := t) (i := i) c0 c1 p0 p1 (by omega) (by omega)).2 h
      omega
    have l1 : low1 t ≠ 0 := fun h => hz (.inl h)
    have hiF : i = F c p := by
      rcases hk0 with h | h
      · exact absurd h l1
      · have : ¬ i < F c p := fun h => hz (.inr h)
        omega
    have : nxt c p t = i := by unfold nxt; rw [if_neg l1, first_nice, hiF]; rfl
    rw [this, hi, w64 (by omega) (by omega)]
  · have h8 : τ.bval 8 = false := hF.1
    have h4 : τ.bval 4 = true := hF.2.1
    rw [e8, decide_eq_false_iff_not] at h8
    rw [e4, decide_eq_true_eq] at h4
    have e9 : τ.ival 9 = i + 1 := by rw [e9]; exact w64 (by omega) (by omega)
    have hK : tkK c p t i = 0 := by omega
    refine ⟨?_, ?_, ?_, ?_, ?_, ?_⟩
    · show 1 ≤ τ.ival 9; omega
    · show τ.ival 9 ≤ 65537; omega
    · show τ.ival 5 = tkC c p t (τ.ival 9 - 1); rw [e9, show i + 1 - 1 = i by omega, e5, ← x1]; show IntKind.u16.wrap (tkC (tkC c p t (i - 1)) p (tkT c p t (i - 1)) 1) = _; exact wrC (wrC w0)
    · show τ.ival 6 = p; rw [e6]; exact w1
    · show τ.ival 7 = tkT c p t (τ.ival 9 - 1); rw [e9, show i + 1 - 1 = i by omega, e7, ← x2]; show IntKind.u16.wrap (tkT (tkC c p t (i - 1)) p (tkT c p t (i - 1)) 1) = _; exact wrT (wrT w2)
    · show tkK c p t (τ.ival 9 - 1) = 0; rw [e9, show i + 1 - 1 = i by omega]; exact hK
  · have h4 : τ.bval 4 = true := hF.2.1
    rw [e4, decide_eq_true_eq] at h4
    have e9 : τ.ival 9 = i + 1 := by rw [e9]; exact w64 (by omega) (by omega)
    show (65537 - τ.ival 9).toNat < (65537 - τ.ival 0).toNat
    rw [hi, e9]
    omega
  · have h4 : τ.bval 4 = false := hF.1
    rw [e4, decide_eq_false_iff_not] at h4
    show low1 t = 0
    rcases hk0 with h | h
    · exact h
    · omega

theorem rnext_contract : FnOk Try.prog 38 tickI [.one (.i .i64)] nextF :=
  loop_fnR (q := 4) (insq := rnK) (ins2 := []) (S0 := rnS0) (S1 := rnS1) (S2 := rnS2) (SE := rnSE) (J := rnJ) (K := rnQ) (μ := fun σ => (65537 - σ.ival 0).toNat) (n := 18) (vs := [.symi .i64 0])
    mixed Try.func38 (by kernel_rfl) (by kernel_rfl) (by kernel_rfl) rfl (fun l => by simp [tickI, t3, encS]) (by kernel_rfl)
    rnA_seg ⟨rfl, rfl, rfl⟩ rnB_seg ⟨rfl, rfl, rfl⟩ rnC_seg ⟨rfl, rfl⟩ rnJ_agree (fun l σ τ _ h => h) (fun σ τ ag => by rw [(ag.val 0 (by decide)).1])
    (fun l τ hl e ht hin hi _ => by
      match l, hl with
      | [c, p, t], hl =>
      have i0 : τ.ival 0 = c := hi 0 (by decide)
      have i1 : τ.ival 1 = p := hi 1 (by decide)
      have i2 : τ.ival 2 = t := hi 2 (by decide)
      obtain ⟨a1, a2, a3⟩ := tk0 c p t
      refine ⟨rfl, rfl, insOk_asg e hin 12 (by kernel_rfl), ⟨Int.le_refl _, by show (1 : Int) ≤ 65537; decide, ?_, i1, ?_, ?_⟩, ht⟩
      · show τ.ival 0 = tkC c p t (1 - 1); rw [show (1 : Int) - 1 = 0 from rfl, a1, i0]
      · show τ.ival 2 = tkT c p t (1 - 1); rw [show (1 : Int) - 1 = 0 from rfl, a2, i2]
      · show tkK c p t (1 - 1) = 0; rw [show (1 : Int) - 1 = 0 from rfl, a3])
    rnB_ob
    (fun l τ hl e ht hin hk _ => by
      match l, hl with
      | [c, p, t], hl =>
      refine ⟨.inl rfl, rfl, ?_, trivial⟩
      show AVal.int .i64 0 = .int .i64 (IntKind.i64.wrap (nxt c p t))
      have : nxt c p t = 0 := by unfold nxt; rw [if_pos (show low1 t = 0 from hk)]
      rw [this]; rfl)
end Go.Proofs.Ytgifnmiggloclaa.tr
