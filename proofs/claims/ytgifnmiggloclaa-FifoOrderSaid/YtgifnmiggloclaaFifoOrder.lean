/-
  ploverlaw10.FifoOrder is true: reckoned with unknown bytes, in pieces; the loop by what holds ahead of each round, for each length of the queue.
  No conditions.
-/
import Derived.Test.YtgifnmiggloclaaRows
import Derived.WalkKit
import Derived.ProofKit
import Derived.OpenShut
import Derived.Below
import Derived.ChangeSame
import Derived.ChangeSlices
import Derived.Test.YtgifnmiggloclaaEvT
namespace Go.Proofs.Ytgifnmiggloclaa.fifoOrder
open Go.ChangeShapes Go.WideShapes Go.ChangeAt Go.RowKit
open Go.Ev
set_option linter.unusedVariables false

theorem own : ownKnob Try.prog.godebug = none := by kernel_rfl
theorem mixed : Try.prog.follows .mixedOrders = true := Checked.mixed Try.checked

def fHook : HookF := okHook [19]
def s0 : Shape := ⟨argT 0 [.row 0], []⟩
def syms : Nat → Nat → List AVal
  | 0, _ => []
  | k + 1, i => .symi .u8 i :: syms k (i + 1)
/-- a queue of k bytes, and as many in the list -/
def sK (k : Nat) : Shape := ⟨[(0, .row 0), (3, .ptr 0 0), (4, .slice 1 0 k k (some 1)), (5, .symi .i64 0)],
  [.cells (.int .i64 k :: (syms k 3 ++ List.replicate (8 - k) (.int .u8 0))) 24, .cells (syms k 3) 5]⟩
def sN : Shape := ⟨[(0, .row 0), (3, .ptr 0 0), (4, .nilslice), (5, .symi .i64 0)], [.cells (.int .i64 0 :: List.replicate 8 (.int .u8 0)) 24]⟩
def sX : Shape := ⟨[], []⟩
def sE : Shape := ⟨[(2, .bool true)], []⟩
def rowsL : List RowS := [⟨.symi .i64 1, [(.symi .i64 0, [.symi .u8 2])]⟩]

theorem works_reck : isTrue (callA Try.prog noCx 1000 40 19 [] ⟨⟨[], []⟩, [], []⟩) = true := by kernel_rfl
theorem works (w : World) : Calls Try.prog 19 #[] w fun e w' => e = .returned (.bool true) ∧ Below w.heap.size w w' := closed_true (P := Try.prog) mixed works_reck w
theorem hooks {m : Nat} {G : List SDef} {rows : List RowS} (F : List Fact) : Hooks Try.prog (cxOf 0 m noTab fHook G F rows) := by
  intro f args v hv hp
  change okHook [19] (symS (baseOf 0 m noTab G F)) f args = some v at hv
  exact ok_hooks (fs := [19]) (fun f hf w => by
    simp only [List.mem_singleton] at hf
    subst hf
    exact works w) hv hp

theorem hbody : Try.f4.body = some (bodyOf Try.f4) := by kernel_rfl
theorem hcut : (cutC (bodyOf Try.f4)).isSome = true := by kernel_rfl
theorem hid : idOf (bodyOf Try.f4) = 0 := by kernel_rfl
theorem hres : Try.f4.results.toList = [.tmp 2] := by kernel_rfl
theorem hnt : Try.f4.ntmps = 101 := by kernel_rfl

def foAT : Sr := .leafE .normal sN [(0, 0)] [(0, .int .i64 0)] [(1, .symi .i64 0), (2, .rptr 0 (.int .i64 0) 0)]
def foCG : List SDef := []

def foCT : Sr := .leaf .ret sE [] []

theorem a_reck : okSr (fun F => runL Try.prog (cxOf 0 1 noTab fHook [] F []) 1000 (callA Try.prog (cxOf 0 1 noTab fHook [] F []) 1000 40) (preOf (bodyOf Try.f4)) (tmOf s0 101) ⟨⟨s0.heap, []⟩, [], []⟩) foAT [] = true := by kernel_rfl
theorem c_reck : okSr (fun F => runL Try.prog (cxOf 0 0 noTab fHook foCG F []) 1000 (callA Try.prog (cxOf 0 0 noTab fHook foCG F []) 1000 40) (postOf (bodyOf Try.f4)) (tmOf sX 101) ⟨⟨sX.heap, []⟩, [], []⟩) foCT [] = true := by kernel_rfl
theorem a_id : idOk s0 1 = true := by kernel_rfl
theorem c_id : idOk sX 0 = true := by kernel_rfl
theorem c_ok : okG foCG 0 = true := by kernel_rfl

/-- What holds ahead of each round. -/
structure Phi (X : Fz) (σ : Sig) : Prop where
  ext : σ.ext 0 = some X
  i0 : 0 ≤ σ.ival 0
  len : σ.ival 1 = X.len
  el : ∀ m : Nat, σ.ival 0 = m → m < X.len → X.val m 0 = .int .u8 (σ.ival 2)

def Typed (X : Fz) : Prop := X.z = 1 ∧ ∀ m : Nat, m < X.len → ∃ n, X.val m 0 = .int .u8 n

def IsS (s : Shape) : Prop := s = sN ∨ ∃ k, k ≤ 8 ∧ s = sK k

def Q (X : Fz) (mm : Nat) (x : SEx) (s : Shape) (σ : Sig) : Prop := (x = .normal ∧ IsS s ∧ Phi X σ ∧ (100 - σ.ival 0).toNat < mm) ∨ (x = .exit 0 ∧ s = sX)

theorem Phi.agree {X : Fz} {n : Nat} {σ τ : Sig} (hn : 3 ≤ n) (h : Agree n σ τ) (p : Phi X σ) : Phi X τ := by
  have j0 := (h.val 0 (by omega)).1
  have j1 := (h.val 1 (by omega)).1
  have j2 := (h.val 2 (by omega)).1
  obtain ⟨p1, p2, p3, p4⟩ := p
  rw [h.ext] at p1
  rw [j0] at p2 p4
  rw [j1] at p3
  rw [j2] at p4
  exact ⟨p1, p2, p3, p4⟩

theorem rows_ok {X : Fz} (hX : Typed X) {σ : Sig} (p : Phi X σ) : RowsOk σ rowsL := by
  intro i r Y hr hY
  cases i with
  | zero =>
    simp only [rowsL, List.getElem?_cons_zero, Option.some.injEq] at hr
    subst hr
    rw [p.ext] at hY
    cases hY
    refine ⟨by show AVal.int .i64 (σ.ival 1) = _; rw [p.len], ?_⟩
    intro q hq m hm hlt
    simp only [List.mem_singleton] at hq
    subst hq
    have hm' : σ.ival 0 = (m : Int) := by
      have hm : AVal.int .i64 (σ.ival 0) = .int .i64 (m : Int) := hm
      cases hm' : σ.ival 0 <;> rw [hm'] at hm <;> cases hm <;> rfl
    refine ⟨by rw [hX.1]; rfl, ?_⟩
    intro j c hj
    cases j with
    | zero =>
      simp only [List.getElem?_cons_zero, Option.some.injEq] at hj
      subst hj
      exact (p.el m hm' hlt).symm
    | succ j => simp at hj
  | succ i => simp [rowsL] at hr

theorem leaf_ok {X : Fz} (hX : Typed X) {τ : Sig} (P : Phi X τ) (mm : Nat) (hmm : (100 - τ.ival 0).toNat = mm) (idx : Nat) (h100 : τ.ival 0 < 100) (hidx : τ.ival idx = τ.ival 0 + 1) {s : Shape} (hs : IsS s) (l : Asg)
    (f0 : findAs l 0 = some (.symi .i64 idx)) (f1 : findAs l 1 = some (.symi .i64 1)) (f2 : findAs l 2 = some (.rptr 0 (.symi .i64 idx) 0)) : Q X mm .normal s (asgS τ l) := by
  have g0 : (asgS τ l).ival 0 = τ.ival 0 + 1 := by
    simp only [asgS, f0, valS, den, iOf, hidx]
  have g1 : (asgS τ l).ival 1 = τ.ival 1 := by
    simp only [asgS, f1, valS, den, iOf]
  have g2 : (asgS τ l).ival 2 = iOf (X.val (τ.ival 0 + 1).toNat 0) := by
    simp only [asgS, f2, valS, P.ext, den, iOf, hidx]
  have i0 := P.i0
  refine .inl ⟨rfl, hs, ⟨P.ext, by rw [g0]; omega, by rw [g1]; exact P.len, ?_⟩, by rw [g0]; omega⟩
  intro m hm hlt
  rw [g0] at hm
  rw [g2, show (τ.ival 0 + 1).toNat = m by omega]
  obtain ⟨n, hn⟩ := hX.2 m hlt
  rw [hn]
  rfl

def foNG : List SDef := [.bin .lss (.symi .i64 0) (.symi .i64 1),
  .bin .lss (.symi .i64 0) (.int .i64 100),
  .bin .leq (.int .i64 0) (.symi .i64 0),
  .bin .rem (.symi .u8 2) (.int .u8 3),
  .bin .gtr (.symi .u8 6) (.int .u8 0),
  .text [.symi .u8 2],
  .bin .add (.symi .i64 0) (.int .i64 1)]

def foNT : Sr := .node 3 (.node 4 (.node 5 (.node 7 (.leafE .normal (sK 1) [(0, 0), (3, 0)] [(0, .symi .i64 9), (3, .symi .u8 2), (3, .symi .u8 2)] [(1, .symi .i64 1), (2, .rptr 0 (.symi .i64 9) 0)]) (.leafE .normal sN [(0, 0)] [(0, .symi .i64 9)] [(1, .symi .i64 1), (2, .rptr 0 (.symi .i64 9) 0)])) (.dead)) (.leaf (.exit 0) sX [] [])) (.leaf (.exit 0) sX [] [])

theorem okN : okG foNG 3 = true := by kernel_rfl
theorem idN : idOk sN 3 = true := by kernel_rfl
theorem reckN : okSr (fun F => runL Try.prog (cxOf 0 3 noTab fHook foNG F rowsL) 1000 (callA Try.prog (cxOf 0 3 noTab fHook foNG F rowsL) 1000 40) [loopOf (bodyOf Try.f4)] (tmOf sN 101) ⟨⟨(sN).heap, []⟩, [], []⟩) foNT [] = true := by kernel_rfl

theorem planN {X : Fz} (hX : Typed X) {τ : Sig} (e : Eqs τ 3 foNG) (P : Phi X τ) (mm : Nat) (hmm : (100 - τ.ival 0).toNat = mm) : segs τ (Q X mm) foNT [] := by
  have eB := e.at 1 _ rfl rfl
  have eZ := e.at 2 _ rfl rfl
  have eD := e.at 6 _ rfl rfl
  simp only [evalS, den, binS, intA, resS, likeS, if_true, Option.some.injEq, AVal.int.injEq, true_and, AVal.bool.injEq, Nat.reduceAdd] at eB eZ eD
  have i0 := P.i0
  have hb : τ.bval 4 = true → τ.ival 0 < 100 := by
    intro h; rw [← eB, decide_eq_true_eq] at h; exact h
  have hd : τ.ival 0 < 100 → τ.ival 9 = τ.ival 0 + 1 := by
    intro h; rw [← eD]; simp [IntKind.wrap, IntKind.bits, IntKind.signed]; omega
  simp only [segs, foNT]
  and_intros
  · rintro ⟨_, _, h, _⟩
    exact leaf_ok hX P mm hmm 9 (hb h) (hd (hb h)) (.inr ⟨1, by decide, rfl⟩) _ rfl rfl rfl
  · rintro ⟨_, _, h, _⟩
    exact leaf_ok hX P mm hmm 9 (hb h) (hd (hb h)) (.inl rfl) _ rfl rfl rfl
  · rintro ⟨h, _⟩
    have h : τ.bval 5 = false := h
    rw [← eZ, decide_eq_false_iff_not] at h
    exact h i0
  · exact fun _ => .inr ⟨rfl, rfl⟩
  · exact fun _ => .inr ⟨rfl, rfl⟩

def fo0G : List SDef := [.bin .lss (.symi .i64 0) (.symi .i64 1),
  .bin .lss (.symi .i64 0) (.int .i64 100),
  .bin .leq (.int .i64 0) (.symi .i64 0),
  .bin .rem (.symi .u8 2) (.int .u8 3),
  .bin .gtr (.symi .u8 6) (.int .u8 0),
  .text [.symi .u8 2],
  .bin .add (.symi .i64 0) (.int .i64 1)]

def fo0T : Sr := .node 3 (.node 4 (.node 5 (.node 7 (.leafE .normal (sK 1) [(0, 0), (4, 0)] [(0, .symi .i64 9), (3, .symi .u8 2), (3, .symi .u8 2)] [(1, .symi .i64 1), (2, .rptr 0 (.symi .i64 9) 0)]) (.leafE .normal (sK 0) [(0, 0), (1, 0)] [(0, .symi .i64 9)] [(1, .symi .i64 1), (2, .rptr 0 (.symi .i64 9) 0)])) (.dead)) (.leaf (.exit 0) sX [] [])) (.leaf (.exit 0) sX [] [])

theorem ok0 : okG fo0G 3 = true := by kernel_rfl
theorem id0 : idOk (sK 0) 3 = true := by kernel_rfl
theorem reck0 : okSr (fun F => runL Try.prog (cxOf 0 3 noTab fHook fo0G F rowsL) 1000 (callA Try.prog (cxOf 0 3 noTab fHook fo0G F rowsL) 1000 40) [loopOf (bodyOf Try.f4)] (tmOf (sK 0) 101) ⟨⟨((sK 0)).heap, []⟩, [], []⟩) fo0T [] = true := by kernel_rfl

theorem plan0 {X : Fz} (hX : Typed X) {τ : Sig} (e : Eqs τ 3 fo0G) (P : Phi X τ) (mm : Nat) (hmm : (100 - τ.ival 0).toNat = mm) : segs τ (Q X mm) fo0T [] := by
  have eB := e.at 1 _ rfl rfl
  have eZ := e.at 2 _ rfl rfl
  have eD := e.at 6 _ rfl rfl
  simp only [evalS, den, binS, intA, resS, likeS, if_true, Option.some.injEq, AVal.int.injEq, true_and, AVal.bool.injEq, Nat.reduceAdd] at eB eZ eD
  have i0 := P.i0
  have hb : τ.bval 4 = true → τ.ival 0 < 100 := by
    intro h; rw [← eB, decide_eq_true_eq] at h; exact h
  have hd : τ.ival 0 < 100 → τ.ival 9 = τ.ival 0 + 1 := by
    intro h; rw [← eD]; simp [IntKind.wrap, IntKind.bits, IntKind.signed]; omega
  simp only [segs, fo0T]
  and_intros
  · rintro ⟨_, _, h, _⟩
    exact leaf_ok hX P mm hmm 9 (hb h) (hd (hb h)) (.inr ⟨1, by decide, rfl⟩) _ rfl rfl rfl
  · rintro ⟨_, _, h, _⟩
    exact leaf_ok hX P mm hmm 9 (hb h) (hd (hb h)) (.inr ⟨0, by decide, rfl⟩) _ rfl rfl rfl
  · rintro ⟨h, _⟩
    have h : τ.bval 5 = false := h
    rw [← eZ, decide_eq_false_iff_not] at h
    exact h i0
  · exact fun _ => .inr ⟨rfl, rfl⟩
  · exact fun _ => .inr ⟨rfl, rfl⟩

def fo1G : List SDef := [.bin .lss (.symi .i64 0) (.symi .i64 1),
  .bin .lss (.symi .i64 0) (.int .i64 100),
  .bin .leq (.int .i64 0) (.symi .i64 0),
  .bin .rem (.symi .u8 2) (.int .u8 3),
  .bin .gtr (.symi .u8 7) (.int .u8 0),
  .text [.symi .u8 3, .symi .u8 2],
  .bin .add (.symi .i64 0) (.int .i64 1)]

def fo1T : Sr := .node 4 (.node 5 (.node 6 (.node 8 (.leafE .normal (sK 2) [(0, 0), (4, 0)] [(0, .symi .i64 10), (3, .symi .u8 3), (4, .symi .u8 2), (3, .symi .u8 3), (4, .symi .u8 2)] [(1, .symi .i64 1), (2, .rptr 0 (.symi .i64 10) 0)]) (.leafE .normal (sK 0) [(0, 0), (1, 0)] [(0, .symi .i64 10)] [(1, .symi .i64 1), (2, .rptr 0 (.symi .i64 10) 0)])) (.dead)) (.leaf (.exit 0) sX [] [])) (.leaf (.exit 0) sX [] [])

theorem ok1 : okG fo1G 4 = true := by kernel_rfl
theorem id1 : idOk (sK 1) 4 = true := by kernel_rfl
theorem reck1 : okSr (fun F => runL Try.prog (cxOf 0 4 noTab fHook fo1G F rowsL) 1000 (callA Try.prog (cxOf 0 4 noTab fHook fo1G F rowsL) 1000 40) [loopOf (bodyOf Try.f4)] (tmOf (sK 1) 101) ⟨⟨((sK 1)).heap, []⟩, [], []⟩) fo1T [] = true := by kernel_rfl

theorem plan1 {X : Fz} (hX : Typed X) {τ : Sig} (e : Eqs τ 4 fo1G) (P : Phi X τ) (mm : Nat) (hmm : (100 - τ.ival 0).toNat = mm) : segs τ (Q X mm) fo1T [] := by
  have eB := e.at 1 _ rfl rfl
  have eZ := e.at 2 _ rfl rfl
  have eD := e.at 6 _ rfl rfl
  simp only [evalS, den, binS, intA, resS, likeS, if_true, Option.some.injEq, AVal.int.injEq, true_and, AVal.bool.injEq, Nat.reduceAdd] at eB eZ eD
  have i0 := P.i0
  have hb : τ.bval 5 = true → τ.ival 0 < 100 := by
    intro h; rw [← eB, decide_eq_true_eq] at h; exact h
  have hd : τ.ival 0 < 100 → τ.ival 10 = τ.ival 0 + 1 := by
    intro h; rw [← eD]; simp [IntKind.wrap, IntKind.bits, IntKind.signed]; omega
  simp only [segs, fo1T]
  and_intros
  · rintro ⟨_, _, h, _⟩
    exact leaf_ok hX P mm hmm 10 (hb h) (hd (hb h)) (.inr ⟨2, by decide, rfl⟩) _ rfl rfl rfl
  · rintro ⟨_, _, h, _⟩
    exact leaf_ok hX P mm hmm 10 (hb h) (hd (hb h)) (.inr ⟨0, by decide, rfl⟩) _ rfl rfl rfl
  · rintro ⟨h, _⟩
    have h : τ.bval 6 = false := h
    rw [← eZ, decide_eq_false_iff_not] at h
    exact h i0
  · exact fun _ => .inr ⟨rfl, rfl⟩
  · exact fun _ => .inr ⟨rfl, rfl⟩

def fo2G : List SDef := [.bin .lss (.symi .i64 0) (.symi .i64 1),
  .bin .lss (.symi .i64 0) (.int .i64 100),
  .bin .leq (.int .i64 0) (.symi .i64 0),
  .bin .rem (.symi .u8 2) (.int .u8 3),
  .bin .gtr (.symi .u8 8) (.int .u8 0),
  .text [.symi .u8 3, .symi .u8 4, .symi .u8 2],
  .bin .add (.symi .i64 0) (.int .i64 1),
  .text [.symi .u8 4]]

def fo2T : Sr := .node 5 (.node 6 (.node 7 (.node 9 (.leafE .normal (sK 3) [(0, 0), (4, 0)] [(0, .symi .i64 11), (3, .symi .u8 3), (4, .symi .u8 4), (5, .symi .u8 2), (3, .symi .u8 3), (4, .symi .u8 4), (5, .symi .u8 2)] [(1, .symi .i64 1), (2, .rptr 0 (.symi .i64 11) 0)]) (.leafE .normal (sK 1) [(0, 0), (1, 1)] [(0, .symi .i64 11), (3, .symi .u8 4), (3, .symi .u8 4)] [(1, .symi .i64 1), (2, .rptr 0 (.symi .i64 11) 0)])) (.dead)) (.leaf (.exit 0) sX [] [])) (.leaf (.exit 0) sX [] [])

theorem ok2 : okG fo2G 5 = true := by kernel_rfl
theorem id2 : idOk (sK 2) 5 = true := by kernel_rfl
theorem reck2 : okSr (fun F => runL Try.prog (cxOf 0 5 noTab fHook fo2G F rowsL) 1000 (callA Try.prog (cxOf 0 5 noTab fHook fo2G F rowsL) 1000 40) [loopOf (bodyOf Try.f4)] (tmOf (sK 2) 101) ⟨⟨((sK 2)).heap, []⟩, [], []⟩) fo2T [] = true := by kernel_rfl

theorem plan2 {X : Fz} (hX : Typed X) {τ : Sig} (e : Eqs τ 5 fo2G) (P : Phi X τ) (mm : Nat) (hmm : (100 - τ.ival 0).toNat = mm) : segs τ (Q X mm) fo2T [] := by
  have eB := e.at 1 _ rfl rfl
  have eZ := e.at 2 _ rfl rfl
  have eD := e.at 6 _ rfl rfl
  simp only [evalS, den, binS, intA, resS, likeS, if_true, Option.some.injEq, AVal.int.injEq, true_and, AVal.bool.injEq, Nat.reduceAdd] at eB eZ eD
  have i0 := P.i0
  have hb : τ.bval 6 = true → τ.ival 0 < 100 := by
    intro h; rw [← eB, decide_eq_true_eq] at h; exact h
  have hd : τ.ival 0 < 100 → τ.ival 11 = τ.ival 0 + 1 := by
    intro h; rw [← eD]; simp [IntKind.wrap, IntKind.bits, IntKind.signed]; omega
  simp only [segs, fo2T]
  and_intros
  · rintro ⟨_, _, h, _⟩
    exact leaf_ok hX P mm hmm 11 (hb h) (hd (hb h)) (.inr ⟨3, by decide, rfl⟩) _ rfl rfl rfl
  · rintro ⟨_, _, h, _⟩
    exact leaf_ok hX P mm hmm 11 (hb h) (hd (hb h)) (.inr ⟨1, by decide, rfl⟩) _ rfl rfl rfl
  · rintro ⟨h, _⟩
    have h : τ.bval 7 = false := h
    rw [← eZ, decide_eq_false_iff_not] at h
    exact h i0
  · exact fun _ => .inr ⟨rfl, rfl⟩
  · exact fun _ => .inr ⟨rfl, rfl⟩

def fo3G : List SDef := [.bin .lss (.symi .i64 0) (.symi .i64 1),
  .bin .lss (.symi .i64 0) (.int .i64 100),
  .bin .leq (.int .i64 0) (.symi .i64 0),
  .bin .rem (.symi .u8 2) (.int .u8 3),
  .bin .gtr (.symi .u8 9) (.int .u8 0),
  .text [.symi .u8 3, .symi .u8 4, .symi .u8 5, .symi .u8 2],
  .bin .add (.symi .i64 0) (.int .i64 1),
  .text [.symi .u8 4, .symi .u8 5]]

def fo3T : Sr := .node 6 (.node 7 (.node 8 (.node 10 (.leafE .normal (sK 4) [(0, 0), (4, 0)] [(0, .symi .i64 12), (3, .symi .u8 3), (4, .symi .u8 4), (5, .symi .u8 5), (6, .symi .u8 2), (3, .symi .u8 3), (4, .symi .u8 4), (5, .symi .u8 5), (6, .symi .u8 2)] [(1, .symi .i64 1), (2, .rptr 0 (.symi .i64 12) 0)]) (.leafE .normal (sK 2) [(0, 0), (1, 1)] [(0, .symi .i64 12), (3, .symi .u8 4), (4, .symi .u8 5), (3, .symi .u8 4), (4, .symi .u8 5)] [(1, .symi .i64 1), (2, .rptr 0 (.symi .i64 12) 0)])) (.dead)) (.leaf (.exit 0) sX [] [])) (.leaf (.exit 0) sX [] [])

theorem ok3 : okG fo3G 6 = true := by kernel_rfl
theorem id3 : idOk (sK 3) 6 = true := by kernel_rfl
theorem reck3 : okSr (fun F => runL Try.prog (cxOf 0 6 noTab fHook fo3G F rowsL) 1000 (callA Try.prog (cxOf 0 6 noTab fHook fo3G F rowsL) 1000 40) [loopOf (bodyOf Try.f4)] (tmOf (sK 3) 101) ⟨⟨((sK 3)).heap, []⟩, [], []⟩) fo3T [] = true := by kernel_rfl

theorem plan3 {X : Fz} (hX : Typed X) {τ : Sig} (e : Eqs τ 6 fo3G) (P : Phi X τ) (mm : Nat) (hmm : (100 - τ.ival 0).toNat = mm) : segs τ (Q X mm) fo3T [] := by
  have eB := e.at 1 _ rfl rfl
  have eZ := e.at 2 _ rfl rfl
  have eD := e.at 6 _ rfl rfl
  simp only [evalS, den, binS, intA, resS, likeS, if_true, Option.some.injEq, AVal.int.injEq, true_and, AVal.bool.injEq, Nat.reduceAdd] at eB eZ eD
  have i0 := P.i0
  have hb : τ.bval 7 = true → τ.ival 0 < 100 := by
    intro h; rw [← eB, decide_eq_true_eq] at h; exact h
  have hd : τ.ival 0 < 100 → τ.ival 12 = τ.ival 0 + 1 := by
    intro h; rw [← eD]; simp [IntKind.wrap, IntKind.bits, IntKind.signed]; omega
  simp only [segs, fo3T]
  and_intros
  · rintro ⟨_, _, h, _⟩
    exact leaf_ok hX P mm hmm 12 (hb h) (hd (hb h)) (.inr ⟨4, by decide, rfl⟩) _ rfl rfl rfl
  · rintro ⟨_, _, h, _⟩
    exact leaf_ok hX P mm hmm 12 (hb h) (hd (hb h)) (.inr ⟨2, by decide, rfl⟩) _ rfl rfl rfl
  · rintro ⟨h, _⟩
    have h : τ.bval 8 = false := h
    rw [← eZ, decide_eq_false_iff_not] at h
    exact h i0
  · exact fun _ => .inr ⟨rfl, rfl⟩
  · exact fun _ => .inr ⟨rfl, rfl⟩

def fo4G : List SDef := [.bin .lss (.symi .i64 0) (.symi .i64 1),
  .bin .lss (.symi .i64 0) (.int .i64 100),
  .bin .leq (.int .i64 0) (.symi .i64 0),
  .bin .rem (.symi .u8 2) (.int .u8 3),
  .bin .gtr (.symi .u8 10) (.int .u8 0),
  .text [.symi .u8 3, .symi .u8 4, .symi .u8 5, .symi .u8 6, .symi .u8 2],
  .bin .add (.symi .i64 0) (.int .i64 1),
  .text [.symi .u8 4, .symi .u8 5, .symi .u8 6]]

def fo4T : Sr := .node 7 (.node 8 (.node 9 (.node 11 (.leafE .normal (sK 5) [(0, 0), (4, 0)] [(0, .symi .i64 13), (3, .symi .u8 3), (4, .symi .u8 4), (5, .symi .u8 5), (6, .symi .u8 6), (7, .symi .u8 2), (3, .symi .u8 3), (4, .symi .u8 4), (5, .symi .u8 5), (6, .symi .u8 6), (7, .symi .u8 2)] [(1, .symi .i64 1), (2, .rptr 0 (.symi .i64 13) 0)]) (.leafE .normal (sK 3) [(0, 0), (1, 1)] [(0, .symi .i64 13), (3, .symi .u8 4), (4, .symi .u8 5), (5, .symi .u8 6), (3, .symi .u8 4), (4, .symi .u8 5), (5, .symi .u8 6)] [(1, .symi .i64 1), (2, .rptr 0 (.symi .i64 13) 0)])) (.dead)) (.leaf (.exit 0) sX [] [])) (.leaf (.exit 0) sX [] [])

theorem ok4 : okG fo4G 7 = true := by kernel_rfl
theorem id4 : idOk (sK 4) 7 = true := by kernel_rfl
theorem reck4 : okSr (fun F => runL Try.prog (cxOf 0 7 noTab fHook fo4G F rowsL) 1000 (callA Try.prog (cxOf 0 7 noTab fHook fo4G F rowsL) 1000 40) [loopOf (bodyOf Try.f4)] (tmOf (sK 4) 101) ⟨⟨((sK 4)).heap, []⟩, [], []⟩) fo4T [] = true := by kernel_rfl

theorem plan4 {X : Fz} (hX : Typed X) {τ : Sig} (e : Eqs τ 7 fo4G) (P : Phi X τ) (mm : Nat) (hmm : (100 - τ.ival 0).toNat = mm) : segs τ (Q X mm) fo4T [] := by
  have eB := e.at 1 _ rfl rfl
  have eZ := e.at 2 _ rfl rfl
  have eD := e.at 6 _ rfl rfl
  simp only [evalS, den, binS, intA, resS, likeS, if_true, Option.some.injEq, AVal.int.injEq, true_and, AVal.bool.injEq, Nat.reduceAdd] at eB eZ eD
  have i0 := P.i0
  have hb : τ.bval 8 = true → τ.ival 0 < 100 := by
    intro h; rw [← eB, decide_eq_true_eq] at h; exact h
  have hd : τ.ival 0 < 100 → τ.ival 13 = τ.ival 0 + 1 := by
    intro h; rw [← eD]; simp [IntKind.wrap, IntKind.bits, IntKind.signed]; omega
  simp only [segs, fo4T]
  and_intros
  · rintro ⟨_, _, h, _⟩
    exact leaf_ok hX P mm hmm 13 (hb h) (hd (hb h)) (.inr ⟨5, by decide, rfl⟩) _ rfl rfl rfl
  · rintro ⟨_, _, h, _⟩
    exact leaf_ok hX P mm hmm 13 (hb h) (hd (hb h)) (.inr ⟨3, by decide, rfl⟩) _ rfl rfl rfl
  · rintro ⟨h, _⟩
    have h : τ.bval 9 = false := h
    rw [← eZ, decide_eq_false_iff_not] at h
    exact h i0
  · exact fun _ => .inr ⟨rfl, rfl⟩
  · exact fun _ => .inr ⟨rfl, rfl⟩

def fo5G : List SDef := [.bin .lss (.symi .i64 0) (.symi .i64 1),
  .bin .lss (.symi .i64 0) (.int .i64 100),
  .bin .leq (.int .i64 0) (.symi .i64 0),
  .bin .rem (.symi .u8 2) (.int .u8 3),
  .bin .gtr (.symi .u8 11) (.int .u8 0),
  .text [.symi .u8 3, .symi .u8 4, .symi .u8 5, .symi .u8 6, .symi .u8 7, .symi .u8 2],
  .bin .add (.symi .i64 0) (.int .i64 1),
  .text [.symi .u8 4, .symi .u8 5, .symi .u8 6, .symi .u8 7]]

def fo5T : Sr := .node 8 (.node 9 (.node 10 (.node 12 (.leafE .normal (sK 6) [(0, 0), (4, 0)] [(0, .symi .i64 14), (3, .symi .u8 3), (4, .symi .u8 4), (5, .symi .u8 5), (6, .symi .u8 6), (7, .symi .u8 7), (8, .symi .u8 2), (3, .symi .u8 3), (4, .symi .u8 4), (5, .symi .u8 5), (6, .symi .u8 6), (7, .symi .u8 7), (8, .symi .u8 2)] [(1, .symi .i64 1), (2, .rptr 0 (.symi .i64 14) 0)]) (.leafE .normal (sK 4) [(0, 0), (1, 1)] [(0, .symi .i64 14), (3, .symi .u8 4), (4, .symi .u8 5), (5, .symi .u8 6), (6, .symi .u8 7), (3, .symi .u8 4), (4, .symi .u8 5), (5, .symi .u8 6), (6, .symi .u8 7)] [(1, .symi .i64 1), (2, .rptr 0 (.symi .i64 14) 0)])) (.dead)) (.leaf (.exit 0) sX [] [])) (.leaf (.exit 0) sX [] [])

theorem ok5 : okG fo5G 8 = true := by kernel_rfl
theorem id5 : idOk (sK 5) 8 = true := by kernel_rfl
theorem reck5 : okSr (fun F => runL Try.prog (cxOf 0 8 noTab fHook fo5G F rowsL) 1000 (callA Try.prog (cxOf 0 8 noTab fHook fo5G F rowsL) 1000 40) [loopOf (bodyOf Try.f4)] (tmOf (sK 5) 101) ⟨⟨((sK 5)).heap, []⟩, [], []⟩) fo5T [] = true := by kernel_rfl

theorem plan5 {X : Fz} (hX : Typed X) {τ : Sig} (e : Eqs τ 8 fo5G) (P : Phi X τ) (mm : Nat) (hmm : (100 - τ.ival 0).toNat = mm) : segs τ (Q X mm) fo5T [] := by
  have eB := e.at 1 _ rfl rfl
  have eZ := e.at 2 _ rfl rfl
  have eD := e.at 6 _ rfl rfl
  simp only [evalS, den, binS, intA, resS, likeS, if_true, Option.some.injEq, AVal.int.injEq, true_and, AVal.bool.injEq, Nat.reduceAdd] at eB eZ eD
  have i0 := P.i0
  have hb : τ.bval 9 = true → τ.ival 0 < 100 := by
    intro h; rw [← eB, decide_eq_true_eq] at h; exact h
  have hd : τ.ival 0 < 100 → τ.ival 14 = τ.ival 0 + 1 := by
    intro h; rw [← eD]; simp [IntKind.wrap, IntKind.bits, IntKind.signed]; omega
  simp only [segs, fo5T]
  and_intros
  · rintro ⟨_, _, h, _⟩
    exact leaf_ok hX P mm hmm 14 (hb h) (hd (hb h)) (.inr ⟨6, by decide, rfl⟩) _ rfl rfl rfl
  · rintro ⟨_, _, h, _⟩
    exact leaf_ok hX P mm hmm 14 (hb h) (hd (hb h)) (.inr ⟨4, by decide, rfl⟩) _ rfl rfl rfl
  · rintro ⟨h, _⟩
    have h : τ.bval 10 = false := h
    rw [← eZ, decide_eq_false_iff_not] at h
    exact h i0
  · exact fun _ => .inr ⟨rfl, rfl⟩
  · exact fun _ => .inr ⟨rfl, rfl⟩

def fo6G : List SDef := [.bin .lss (.symi .i64 0) (.symi .i64 1),
  .bin .lss (.symi .i64 0) (.int .i64 100),
  .bin .leq (.int .i64 0) (.symi .i64 0),
  .bin .rem (.symi .u8 2) (.int .u8 3),
  .bin .gtr (.symi .u8 12) (.int .u8 0),
  .text [.symi .u8 3, .symi .u8 4, .symi .u8 5, .symi .u8 6, .symi .u8 7, .symi .u8 8, .symi .u8 2],
  .bin .add (.symi .i64 0) (.int .i64 1),
  .text [.symi .u8 4, .symi .u8 5, .symi .u8 6, .symi .u8 7, .symi .u8 8]]

def fo6T : Sr := .node 9 (.node 10 (.node 11 (.node 13 (.leafE .normal (sK 7) [(0, 0), (4, 0)] [(0, .symi .i64 15), (3, .symi .u8 3), (4, .symi .u8 4), (5, .symi .u8 5), (6, .symi .u8 6), (7, .symi .u8 7), (8, .symi .u8 8), (9, .symi .u8 2), (3, .symi .u8 3), (4, .symi .u8 4), (5, .symi .u8 5), (6, .symi .u8 6), (7, .symi .u8 7), (8, .symi .u8 8), (9, .symi .u8 2)] [(1, .symi .i64 1), (2, .rptr 0 (.symi .i64 15) 0)]) (.leafE .normal (sK 5) [(0, 0), (1, 1)] [(0, .symi .i64 15), (3, .symi .u8 4), (4, .symi .u8 5), (5, .symi .u8 6), (6, .symi .u8 7), (7, .symi .u8 8), (3, .symi .u8 4), (4, .symi .u8 5), (5, .symi .u8 6), (6, .symi .u8 7), (7, .symi .u8 8)] [(1, .symi .i64 1), (2, .rptr 0 (.symi .i64 15) 0)])) (.dead)) (.leaf (.exit 0) sX [] [])) (.leaf (.exit 0) sX [] [])

theorem ok6 : okG fo6G 9 = true := by kernel_rfl
theorem id6 : idOk (sK 6) 9 = true := by kernel_rfl
theorem reck6 : okSr (fun F => runL Try.prog (cxOf 0 9 noTab fHook fo6G F rowsL) 1000 (callA Try.prog (cxOf 0 9 noTab fHook fo6G F rowsL) 1000 40) [loopOf (bodyOf Try.f4)] (tmOf (sK 6) 101) ⟨⟨((sK 6)).heap, []⟩, [], []⟩) fo6T [] = true := by kernel_rfl

theorem plan6 {X : Fz} (hX : Typed X) {τ : Sig} (e : Eqs τ 9 fo6G) (P : Phi X τ) (mm : Nat) (hmm : (100 - τ.ival 0).toNat = mm) : segs τ (Q X mm) fo6T [] := by
  have eB := e.at 1 _ rfl rfl
  have eZ := e.at 2 _ rfl rfl
  have eD := e.at 6 _ rfl rfl
  simp only [evalS, den, binS, intA, resS, likeS, if_true, Option.some.injEq, AVal.int.injEq, true_and, AVal.bool.injEq, Nat.reduceAdd] at eB eZ eD
  have i0 := P.i0
  have hb : τ.bval 10 = true → τ.ival 0 < 100 := by
    intro h; rw [← eB, decide_eq_true_eq] at h; exact h
  have hd : τ.ival 0 < 100 → τ.ival 15 = τ.ival 0 + 1 := by
    intro h; rw [← eD]; simp [IntKind.wrap, IntKind.bits, IntKind.signed]; omega
  simp only [segs, fo6T]
  and_intros
  · rintro ⟨_, _, h, _⟩
    exact leaf_ok hX P mm hmm 15 (hb h) (hd (hb h)) (.inr ⟨7, by decide, rfl⟩) _ rfl rfl rfl
  · rintro ⟨_, _, h, _⟩
    exact leaf_ok hX P mm hmm 15 (hb h) (hd (hb h)) (.inr ⟨5, by decide, rfl⟩) _ rfl rfl rfl
  · rintro ⟨h, _⟩
    have h : τ.bval 11 = false := h
    rw [← eZ, decide_eq_false_iff_not] at h
    exact h i0
  · exact fun _ => .inr ⟨rfl, rfl⟩
  · exact fun _ => .inr ⟨rfl, rfl⟩

def fo7G : List SDef := [.bin .lss (.symi .i64 0) (.symi .i64 1),
  .bin .lss (.symi .i64 0) (.int .i64 100),
  .bin .leq (.int .i64 0) (.symi .i64 0),
  .bin .rem (.symi .u8 2) (.int .u8 3),
  .bin .gtr (.symi .u8 13) (.int .u8 0),
  .text [.symi .u8 3, .symi .u8 4, .symi .u8 5, .symi .u8 6, .symi .u8 7, .symi .u8 8, .symi .u8 9, .symi .u8 2],
  .bin .add (.symi .i64 0) (.int .i64 1),
  .text [.symi .u8 4, .symi .u8 5, .symi .u8 6, .symi .u8 7, .symi .u8 8, .symi .u8 9]]

def fo7T : Sr := .node 10 (.node 11 (.node 12 (.node 14 (.leafE .normal (sK 8) [(0, 0), (4, 0)] [(0, .symi .i64 16), (3, .symi .u8 3), (4, .symi .u8 4), (5, .symi .u8 5), (6, .symi .u8 6), (7, .symi .u8 7), (8, .symi .u8 8), (9, .symi .u8 9), (10, .symi .u8 2), (3, .symi .u8 3), (4, .symi .u8 4), (5, .symi .u8 5), (6, .symi .u8 6), (7, .symi .u8 7), (8, .symi .u8 8), (9, .symi .u8 9), (10, .symi .u8 2)] [(1, .symi .i64 1), (2, .rptr 0 (.symi .i64 16) 0)]) (.leafE .normal (sK 6) [(0, 0), (1, 1)] [(0, .symi .i64 16), (3, .symi .u8 4), (4, .symi .u8 5), (5, .symi .u8 6), (6, .symi .u8 7), (7, .symi .u8 8), (8, .symi .u8 9), (3, .symi .u8 4), (4, .symi .u8 5), (5, .symi .u8 6), (6, .symi .u8 7), (7, .symi .u8 8), (8, .symi .u8 9)] [(1, .symi .i64 1), (2, .rptr 0 (.symi .i64 16) 0)])) (.dead)) (.leaf (.exit 0) sX [] [])) (.leaf (.exit 0) sX [] [])

theorem ok7 : okG fo7G 10 = true := by kernel_rfl
theorem id7 : idOk (sK 7) 10 = true := by kernel_rfl
theorem reck7 : okSr (fun F => runL Try.prog (cxOf 0 10 noTab fHook fo7G F rowsL) 1000 (callA Try.prog (cxOf 0 10 noTab fHook fo7G F rowsL) 1000 40) [loopOf (bodyOf Try.f4)] (tmOf (sK 7) 101) ⟨⟨((sK 7)).heap, []⟩, [], []⟩) fo7T [] = true := by kernel_rfl

theorem plan7 {X : Fz} (hX : Typed X) {τ : Sig} (e : Eqs τ 10 fo7G) (P : Phi X τ) (mm : Nat) (hmm : (100 - τ.ival 0).toNat = mm) : segs τ (Q X mm) fo7T [] := by
  have eB := e.at 1 _ rfl rfl
  have eZ := e.at 2 _ rfl rfl
  have eD := e.at 6 _ rfl rfl
  simp only [evalS, den, binS, intA, resS, likeS, if_true, Option.some.injEq, AVal.int.injEq, true_and, AVal.bool.injEq, Nat.reduceAdd] at eB eZ eD
  have i0 := P.i0
  have hb : τ.bval 11 = true → τ.ival 0 < 100 := by
    intro h; rw [← eB, decide_eq_true_eq] at h; exact h
  have hd : τ.ival 0 < 100 → τ.ival 16 = τ.ival 0 + 1 := by
    intro h; rw [← eD]; simp [IntKind.wrap, IntKind.bits, IntKind.signed]; omega
  simp only [segs, fo7T]
  and_intros
  · rintro ⟨_, _, h, _⟩
    exact leaf_ok hX P mm hmm 16 (hb h) (hd (hb h)) (.inr ⟨8, by decide, rfl⟩) _ rfl rfl rfl
  · rintro ⟨_, _, h, _⟩
    exact leaf_ok hX P mm hmm 16 (hb h) (hd (hb h)) (.inr ⟨6, by decide, rfl⟩) _ rfl rfl rfl
  · rintro ⟨h, _⟩
    have h : τ.bval 12 = false := h
    rw [← eZ, decide_eq_false_iff_not] at h
    exact h i0
  · exact fun _ => .inr ⟨rfl, rfl⟩
  · exact fun _ => .inr ⟨rfl, rfl⟩

def fo8G : List SDef := [.bin .lss (.symi .i64 0) (.symi .i64 1),
  .bin .lss (.symi .i64 0) (.int .i64 100),
  .bin .leq (.int .i64 0) (.symi .i64 0),
  .bin .rem (.symi .u8 2) (.int .u8 3),
  .bin .gtr (.symi .u8 14) (.int .u8 0),
  .text [.symi .u8 3, .symi .u8 4, .symi .u8 5, .symi .u8 6, .symi .u8 7, .symi .u8 8, .symi .u8 9, .symi .u8 10],
  .bin .add (.symi .i64 0) (.int .i64 1),
  .text [.symi .u8 4, .symi .u8 5, .symi .u8 6, .symi .u8 7, .symi .u8 8, .symi .u8 9, .symi .u8 10]]

def fo8T : Sr := .node 11 (.node 12 (.node 13 (.node 15 (.leafE .normal (sK 8) [(0, 0), (1, 0)] [(0, .symi .i64 17), (3, .symi .u8 3), (4, .symi .u8 4), (5, .symi .u8 5), (6, .symi .u8 6), (7, .symi .u8 7), (8, .symi .u8 8), (9, .symi .u8 9), (10, .symi .u8 10), (3, .symi .u8 3), (4, .symi .u8 4), (5, .symi .u8 5), (6, .symi .u8 6), (7, .symi .u8 7), (8, .symi .u8 8), (9, .symi .u8 9), (10, .symi .u8 10)] [(1, .symi .i64 1), (2, .rptr 0 (.symi .i64 17) 0)]) (.leafE .normal (sK 7) [(0, 0), (1, 1)] [(0, .symi .i64 17), (3, .symi .u8 4), (4, .symi .u8 5), (5, .symi .u8 6), (6, .symi .u8 7), (7, .symi .u8 8), (8, .symi .u8 9), (9, .symi .u8 10), (3, .symi .u8 4), (4, .symi .u8 5), (5, .symi .u8 6), (6, .symi .u8 7), (7, .symi .u8 8), (8, .symi .u8 9), (9, .symi .u8 10)] [(1, .symi .i64 1), (2, .rptr 0 (.symi .i64 17) 0)])) (.dead)) (.leaf (.exit 0) sX [] [])) (.leaf (.exit 0) sX [] [])

theorem ok8 : okG fo8G 11 = true := by kernel_rfl
theorem id8 : idOk (sK 8) 11 = true := by kernel_rfl
theorem reck8 : okSr (fun F => runL Try.prog (cxOf 0 11 noTab fHook fo8G F rowsL) 1000 (callA Try.prog (cxOf 0 11 noTab fHook fo8G F rowsL) 1000 40) [loopOf (bodyOf Try.f4)] (tmOf (sK 8) 101) ⟨⟨((sK 8)).heap, []⟩, [], []⟩) fo8T [] = true := by kernel_rfl

theorem plan8 {X : Fz} (hX : Typed X) {τ : Sig} (e : Eqs τ 11 fo8G) (P : Phi X τ) (mm : Nat) (hmm : (100 - τ.ival 0).toNat = mm) : segs τ (Q X mm) fo8T [] := by
  have eB := e.at 1 _ rfl rfl
  have eZ := e.at 2 _ rfl rfl
  have eD := e.at 6 _ rfl rfl
  simp only [evalS, den, binS, intA, resS, likeS, if_true, Option.some.injEq, AVal.int.injEq, true_and, AVal.bool.injEq, Nat.reduceAdd] at eB eZ eD
  have i0 := P.i0
  have hb : τ.bval 12 = true → τ.ival 0 < 100 := by
    intro h; rw [← eB, decide_eq_true_eq] at h; exact h
  have hd : τ.ival 0 < 100 → τ.ival 17 = τ.ival 0 + 1 := by
    intro h; rw [← eD]; simp [IntKind.wrap, IntKind.bits, IntKind.signed]; omega
  simp only [segs, fo8T]
  and_intros
  · rintro ⟨_, _, h, _⟩
    exact leaf_ok hX P mm hmm 17 (hb h) (hd (hb h)) (.inr ⟨8, by decide, rfl⟩) _ rfl rfl rfl
  · rintro ⟨_, _, h, _⟩
    exact leaf_ok hX P mm hmm 17 (hb h) (hd (hb h)) (.inr ⟨7, by decide, rfl⟩) _ rfl rfl rfl
  · rintro ⟨h, _⟩
    have h : τ.bval 13 = false := h
    rw [← eZ, decide_eq_false_iff_not] at h
    exact h i0
  · exact fun _ => .inr ⟨rfl, rfl⟩
  · exact fun _ => .inr ⟨rfl, rfl⟩


/-- One round, from each shape. -/
theorem round {X : Fz} (hX : Typed X) {w0 : World} {R : Exit → Act → World → Prop} {s : Shape} (hs : IsS s) {σ : Sig} (P : Phi X σ) (mm : Nat) (hmm : (100 - σ.ival 0).toNat = mm) {a : Act} {w : World} (hA : At noTab s 101 σ w0 a w)
    (hk : ∀ e a' w' x s2 σ2, SExRel x e → Q X mm x s2 σ2 → At noTab s2 101 σ2 w0 a' w' → R e a' w') : (loopOf (bodyOf Try.f4)).wp Try.prog R a w := by
  have one : chainK Try.prog [loopOf (bodyOf Try.f4)] (R .normal) R a w → (loopOf (bodyOf Try.f4)).wp Try.prog R a w := by
    intro h
    simpa only [chainK, then_self] using h
  have tabOf : σ.tab = noTab := by
    obtain ⟨g, rfl, hH, _⟩ := hA.ex
    exact hH.sig.tab
  refine one ?_
  have kk : ∀ e a' w' x s2 σ2, SExRel x e → Q X mm x s2 σ2 → At noTab s2 101 σ2 w0 a' w' → Exit.then (R .normal) R e a' w' := by
    intro e a' w' x s2 σ2 h1 h2 h3
    rw [then_self]
    exact hk e a' w' x s2 σ2 h1 h2 h3
  have go : ∀ (m : Nat) (G : List SDef) (T : Sr) (s : Shape), 3 ≤ m → okG G m = true → idOk s m = true →
      okSr (fun F => runL Try.prog (cxOf 0 m noTab fHook G F rowsL) 1000 (callA Try.prog (cxOf 0 m noTab fHook G F rowsL) 1000 40) [loopOf (bodyOf Try.f4)] (tmOf s 101) ⟨⟨s.heap, []⟩, [], []⟩) T [] = true →
      (∀ τ, Eqs τ m G → Phi X τ → (100 - τ.ival 0).toNat = mm → segs τ (Q X mm) T []) → At noTab s 101 σ w0 a w → chainK Try.prog [loopOf (bodyOf Try.f4)] (R .normal) R a w := by
    intro m G T s hm hG hi hr hp hA
    have ag := agree_solve G m σ
    have P' := P.agree hm ag
    exact segL mixed (fun F => hooks F) hG hi hr hA (hp _ (eqs_solve hG) P' (by rw [← (ag.val 0 (by omega)).1]; exact hmm)) kk (rows_ok hX P')
  rcases hs with rfl | ⟨k, hk8, rfl⟩
  · exact go 3 foNG foNT sN (by decide) okN idN reckN (fun τ e p h => planN hX e p mm h) hA
  · have : k = 0 ∨ k = 1 ∨ k = 2 ∨ k = 3 ∨ k = 4 ∨ k = 5 ∨ k = 6 ∨ k = 7 ∨ k = 8 := by omega
    rcases this with rfl | rfl | rfl | rfl | rfl | rfl | rfl | rfl | rfl
    · exact go 3 fo0G fo0T (sK 0) (by decide) ok0 id0 reck0 (fun τ e p h => plan0 hX e p mm h) hA
    · exact go 4 fo1G fo1T (sK 1) (by decide) ok1 id1 reck1 (fun τ e p h => plan1 hX e p mm h) hA
    · exact go 5 fo2G fo2T (sK 2) (by decide) ok2 id2 reck2 (fun τ e p h => plan2 hX e p mm h) hA
    · exact go 6 fo3G fo3T (sK 3) (by decide) ok3 id3 reck3 (fun τ e p h => plan3 hX e p mm h) hA
    · exact go 7 fo4G fo4T (sK 4) (by decide) ok4 id4 reck4 (fun τ e p h => plan4 hX e p mm h) hA
    · exact go 8 fo5G fo5T (sK 5) (by decide) ok5 id5 reck5 (fun τ e p h => plan5 hX e p mm h) hA
    · exact go 9 fo6G fo6T (sK 6) (by decide) ok6 id6 reck6 (fun τ e p h => plan6 hX e p mm h) hA
    · exact go 10 fo7G fo7T (sK 7) (by decide) ok7 id7 reck7 (fun τ e p h => plan7 hX e p mm h) hA
    · exact go 11 fo8G fo8T (sK 8) (by decide) ok8 id8 reck8 (fun τ e p h => plan8 hX e p mm h) hA

theorem walk (X : Fz) (hX : Typed X) (u : Value) (w : World) (hu : ∀ σ : Sig, σ.ext 0 = some X → VRel ⟨fun _ => none, σ⟩ (.row 0) u) (hz : 0 < X.len → FzOk X w) :
    Calls Try.prog 4 #[u] w fun e w' => e = .returned (.bool true) ∧ Below w.heap.size w w' := by
  refine calls_of_wp Try.func4 hbody ?_
  rw [hnt]
  have hz' : ∀ i Y, (⟨fun _ => (X.len : Int), fun _ => false, fun _ => .empty, noTab, fun i => if i = 0 then some X else none⟩ : Sig).ext i = some Y → 0 < Y.len → FzOk Y w := by
    intro i Y hi hl
    have hi : (if i = 0 then some X else none) = some Y := hi
    split at hi
    · cases hi; exact hz hl
    · cases hi
  have hS : At noTab s0 101 ⟨fun _ => (X.len : Int), fun _ => false, fun _ => .empty, noTab, fun i => if i = 0 then some X else none⟩ w _ w :=
    at_start (tab := noTab) (args := [.row 0]) (args' := #[u]) rfl (.cons _ _ _ _ (hu _ rfl) .nil) (n := 101) (by show 1 ≤ 101; decide) w hz'
  refine cut_of hcut ?_
  refine segL (G := []) (m := 1) (Q0 := fun x s σ => x = .normal ∧ s = sN ∧ Phi X σ) mixed (fun F => hooks F) rfl a_id a_reck hS ?_ ?_
  · simp only [segs, foAT]
    intro _
    refine ⟨trivial, trivial, rfl, Int.le_refl _, rfl, ?_⟩
    intro m hm hlt
    have hm : (0 : Int) = (m : Int) := hm
    have hm0 : m = 0 := by omega
    subst hm0
    obtain ⟨n, hn⟩ := hX.2 0 hlt
    rw [hn]
    show AVal.int .u8 n = .int .u8 (iOf (X.val 0 0))
    rw [hn]
    rfl
  rintro e a w1 x s2 σ2 hx ⟨rfl, rfl, hP⟩ hA
  cases e <;> simp only [SExRel] at hx
  simp only [Exit.then]
  refine wp_block ?_
  refine loop_at (Inv := fun k a w2 => ∃ s σ, IsS s ∧ At noTab s 101 σ w a w2 ∧ Phi X σ ∧ (100 - σ.ival 0).toNat = k) ?_ _ a w1 ⟨sN, σ2, .inl rfl, hA, hP, rfl⟩
  rintro k a w2 ⟨s, σ, hs, hA, hP, hk⟩
  refine round hX hs hP k hk hA ?_
  rintro e a' w' x s2 σ3 hx hq hA3
  rcases hq with ⟨rfl, hs3, hP3, hlt⟩ | ⟨rfl, rfl⟩
  · cases e <;> simp only [SExRel] at hx
    exact .inl ⟨rfl, _, hlt, s2, σ3, hs3, hA3, hP3, rfl⟩
  · cases e with
    | exit j =>
      have hj : 0 = j := hx
      subst hj
      refine .inr ⟨by simp, ?_⟩
      rw [hid]
      simp only [Exit.inBlock, if_true, Exit.then]
      refine segL (Q0 := fun x s σ => x = .ret ∧ s = sE) mixed (fun F => hooks F) c_ok c_id c_reck hA3 ?_ ?_
      · simp only [segs, foCT]
        exact fun _ => ⟨trivial, trivial⟩
      · rintro e a4 w4 x s4 σ4 hx ⟨rfl, rfl⟩ hA4
        rw [then_self]
        exact at_end hres hA4 (by simp [sE]) (.inl hx)
    | _ => exact hx.elim

theorem cells5 : Try.prog.cellsOf 5 = 1 := by kernel_rfl

section
variable {H : Type} {enc : TypeId × Value → H} {P : Program}
theorem post_of_below {f : Func} {s : ChangeSpec} {apart fresh handsOn again : Bool} {W W' : World} {args : Array Value} {v : Value} {ds gs : List (DataW H)} {before pa pv : List MemPlace}
    (hW : DataW.Whole enc P f.params.toList s.vars apart W args.toList ds gs before)
    (hres : ∀ (b : Nat) (sp : Nat → Bool) (hd : Bool), DataW.TrodAll enc P W' b sp hd f.resultTypes.toList (v.resultList f.resultTypes.size) (s.fn H (ds ++ gs)).results [])
    (hargs : ∀ sp : Nat → Bool, (∀ p ∈ before, sp p.block = true) → DataW.TrodAll enc P W' 0 sp true f.params.toList args.toList (s.fn H (ds ++ gs)).args pa)
    (hvars : ∀ sp : Nat → Bool, (∀ p ∈ before, sp p.block = true) → DataW.TrodVars enc P W' sp s.vars (s.fn H (ds ++ gs)).vars pv)
    (hps : before = pa ++ pv) (hb : Below W.heap.size W W')
    (hok : ∀ (j : Nat) (t : TypeId) (r : Value), f.resultTypes[j]? = some t → (v.resultList f.resultTypes.size)[j]? = some r → Value.okWide P W' .any 0 t r) :
    s.post enc P f apart fresh handsOn again W args v W' := by
  have hlt : ∀ p ∈ before, p.block < W.heap.size := fun p hp => hW.lt p hp
  have hold : ∀ p ∈ before, (fun b => decide (b < W.heap.size)) p.block = true := fun p hp => by simpa using hlt p hp
  refine ⟨ds, gs, before, [], pa, pv, hW, hres _ _ _, hargs _ hold, hvars _ hold, World.keptBut_mono (fun p hp => ⟨hp, ?_⟩) (hb.frame (· ∈ before)), fun _ => ?_⟩
  · rw [hps, List.mem_append] at hp
    exact Or.inr hp
  · obtain ⟨_, _, _, _, _, hz, hn⟩ := hW
    refine ⟨hok, _, _, ([] ++ pa) ++ pv, ⟨[] ++ pa, pv, trodAll_append (hargs _ (fun _ _ => rfl)) (hres _ _ _), hvars _ (fun _ _ => rfl), rfl, ?_, ?_⟩, ?_⟩
    · intro b off hp
      have hin : MemPlace.cell b off ∈ before := by rw [hps]; simpa using hp
      rw [hb.frozen (hlt _ hin)]
      exact hz b off hin
    · intro ha
      have := hn ha
      rw [hps] at this
      simpa using this
    · intro p hp _
      rw [hps]
      simpa using hp
end

set_option maxRecDepth 100000 in
theorem lifted (os : Os) (started : os.Started) (H : Type) (enc : TypeId × Value → H) :
    ReturnsInHanded {} Try.checked os 4 .any (Rows.fifoOrderSpec.pre6 enc Try.prog Try.f4 Rows.fifoOrderRow.domain false) (Rows.fifoOrderSpec.post enc Try.prog Try.f4 false true false false) := by
  refine returnsInHanded_of_change (C := Try.checked) own started (by kernel_rfl) Try.func4
    (ChangeSpec.witness6 (enc := enc) (C := Try.checked) false ⟨#[], #[.slice none 0 0], []⟩ 8 (by kernel_rfl) (by kernel_rfl) (by kernel_rfl) (by kernel_rfl)) ?_
  intro W base args ds gs before hval0 hW hcnd _
  have hval : ∀ (j : Nat) t v, Try.f4.params[j]? = some t → args[j]? = some v → Value.okWide Try.prog W .any base t v := hval0
  have hW' := hW
  obtain ⟨p, q, hA0, hV, rfl, hfz, hnd⟩ := hW
  have hA : DataW.TrodAll enc Try.prog W 0 (fun _ => true) true Try.f4.params.toList args.toList ds p := hA0
  rw [Try.params4] at hA hval
  obtain ⟨v0, d0, rfl, rfl, h0⟩ := trodAll_one hA
  obtain ⟨rfl, rfl⟩ := trodVars_none hV
  obtain ⟨a0, len, cap, rfl⟩ := okWide_slice Try.underlying25 (hval 0 25 v0 rfl rfl)
  obtain ⟨fuel, hf⟩ := h0
  clear hA0 hval0
  simp only [List.append_nil] at hW'
  rcases open_ints Try.underlying25 Try.underlying5 cells5 hf with ⟨hcs, hx⟩ | ⟨a, len', cap', zs, hcs, _, hl, hm, hz, hx, hcell, hwz⟩
  · simp [Value.cells] at hcs
    obtain ⟨rfl, rfl, rfl⟩ := hcs
    simp only [Prod.mk.injEq] at hx
    obtain ⟨rfl, rfl⟩ := hx
    refine (walk ⟨0, 0, 1, 0, fun _ _ => .nilptr⟩ ⟨rfl, fun m h => absurd h (Nat.not_lt_zero m)⟩ _ W (fun σ h => .row 0 _ none 0 h (Nat.le_refl _) (fun h => absurd h (Nat.lt_irrefl 0))) (fun h => absurd h (Nat.lt_irrefl 0))).mono fun e W' ⟨he, hg⟩ => ?_
    subst he
    exact ⟨_, rfl, post_of_below (pa := []) (pv := []) hW' (fun _ _ _ => trodAll_mk1 (shut_bool Try.underlying4 _)) (fun sp _ => trodAll_mk1 (shut_slice_nil Try.underlying25)) (fun _ _ => rfl) rfl
      hg (ok_one (by kernel_rfl) rfl (okWide_bool_mk Try.underlying4 _))⟩
  · simp [Value.cells] at hcs
    obtain ⟨rfl, rfl, rfl⟩ := hcs
    simp only [Prod.mk.injEq] at hx
    obtain ⟨rfl, rfl⟩ := hx
    simp only [if_true] at hz
    have cellAt : 0 < zs.length → a.spot = none ∧ ∃ C e fr, W.heap[a.block]? = some (.cells C e fr) ∧ ∀ i, i < zs.length → C[a.off + i]? = some (.int .u8 (zs.getD i 0)) := by
      intro hpos
      have h0 := hcell 0 hpos
      have hadd : a.add 0 = a := by simp [Addr.add]
      rw [hadd] at h0
      unfold World.cell? at h0
      split at h0
      · rename_i C e fr hheap
        have hsp : a.spot = none := by
          cases hs : a.spot with
          | none => rfl
          | some x => rw [hs] at h0; simp at h0
        refine ⟨hsp, C, e, fr, hheap, ?_⟩
        intro i hi
        have := hcell i hi
        unfold World.cell? at this
        by_cases hi0 : i = 0
        · subst hi0
          rw [hadd, hheap, hsp] at this
          simpa using this
        · simp only [Addr.add, if_neg hi0, hheap] at this
          simpa using this
      · cases h0
    have again : ∀ W' : World, Below W.heap.size W W' → ∀ sp : Nat → Bool, (∀ p ∈ MemPlace.row a zs.length, sp p.block = true) → DataW.Trod enc Try.prog W' 0 sp true 25 (.slice (some a) len cap) (.slice (lits .u8 (zs.take len)) (lits .u8 (zs.drop len))) (MemPlace.row a zs.length) := by
      intro W' hg sp hsp
      have hcell' : ∀ i, i < zs.length → W'.cell? (a.add i) = some (.int .u8 (zs.getD i 0)) := by
        intro i hi
        obtain ⟨_, C, e, fr, hheap, _⟩ := cellAt (by omega)
        have hb : W'.heap[a.block]? = W.heap[a.block]? := hg.block _ (Array.getElem?_eq_some_iff.1 hheap).1
        have hblk : (a.add i).block = a.block := by unfold Addr.add; split <;> rfl
        rw [← hcell i hi]
        unfold World.cell?
        rw [hblk, hb]
      by_cases hz0 : zs.length = 0
      · have hc0 : cap = 0 := by omega
        have hl0 : len = 0 := by omega
        subst hc0; subst hl0
        have t0 := shut_ints (enc := enc) (w := W') (base := 0) (spare := sp) (held := true) (a := a) (len := 0) (cap := 0) (zs := zs) 0 Try.underlying25 Try.underlying5 cells5 (Nat.zero_le _) (Nat.le_refl _) hm (by simp [hz0]) hcell' hwz
        exact ⟨2, by simpa [Value.cells] using t0⟩
      · have hspb : sp a.block = true := by
          have := hsp (.cell a.block a.off) (MemPlace.mem_row.2 ⟨0, by omega, by simp⟩)
          exact this
        have t0 := shut_ints (enc := enc) (w := W') (base := 0) (spare := sp) (held := true) (a := a) (len := len) (cap := cap) (zs := zs) 0 Try.underlying25 Try.underlying5 cells5 (Nat.zero_le _) hl hm (by simp [hspb, hz]) hcell' hwz
        exact ⟨2, by simpa [Value.cells] using t0⟩
    refine (walk ⟨a.block, a.off, 1, len, fun m _ => .int .u8 (zs.getD m 0)⟩ ⟨rfl, fun m _ => ⟨_, rfl⟩⟩ _ W
      (fun σ h => .row 0 _ (some a) cap h hl (fun hpos => by
        have hpos : 0 < len := hpos
        obtain ⟨hsp, _⟩ := cellAt (by omega)
        obtain ⟨b, o, s⟩ := a
        simp only at hsp
        subst hsp
        rfl))
      (fun hpos => by
        have hpos : 0 < len := hpos
        obtain ⟨_, C, e, fr, hheap, hC⟩ := cellAt (by omega)
        refine ⟨C, e, fr, hheap, ?_⟩
        intro m j hm' hj
        have hj : j < 1 := hj
        have hm' : m < len := hm'
        refine ⟨_, ?_, fun g => .int .u8 _, rfl⟩
        have := hC m (by omega)
        show C[a.off + m * 1 + j]? = _
        rw [show a.off + m * 1 + j = a.off + m by omega]
        exact this)).mono fun e W' ⟨he, hg⟩ => ?_
    subst he
    exact ⟨_, rfl, post_of_below (pa := MemPlace.row a zs.length) (pv := []) hW' (fun _ _ _ => trodAll_mk1 (shut_bool Try.underlying4 _)) (fun sp hsp => trodAll_mk1 (again W' hg sp hsp)) (fun _ _ => rfl) (by simp)
      hg (ok_one (by kernel_rfl) rfl (okWide_bool_mk Try.underlying4 _))⟩

theorem over : Rows.fifoOrderRow.holds Try.pinned (OpenSpec.ofChange Rows.fifoOrderSpec) :=
  OpenClaim.holds_of_wide 4 Try.f4 rfl rfl rfl rfl rfl rfl rfl ⟨rfl, rfl, rfl, rfl, rfl⟩ rfl rfl rfl rfl rfl (by kernel_rfl) Try.func4 (by kernel_rfl)
    (of_decide_eq_true (by kernel_rfl)) (by unfold Func.isWrapper; first | (rw [if_pos (by decide +kernel)]; kernel_rfl) | (rw [if_neg (by decide +kernel)]; exact ⟨rfl, rfl⟩))
    (fun os started H enc _ => lifted os started H enc)

/-- THE STATEMENT -/
theorem proved : Rows.FifoOrderSaid :=
  over
#print axioms proved
end Go.Proofs.Ytgifnmiggloclaa.fifoOrder
