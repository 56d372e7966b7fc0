/-
 Contracts of the world's functions: over lists of inputs.
 No conditions.
-/
import Derived.Test.YtapfkgenachpgaaWe
import Derived.WalkKit
namespace Go.Proofs.Ytapfkgenachpgaa.wc
open Go.Ev Go.RowKit Go.Wpl Go.Wt
set_option linter.unusedVariables false
set_option linter.unusedSimpArgs false
set_option maxRecDepth 100000 in
def wq51G : List SDef := [.bin .lss (.int .i64 0) (.symi .i64 1),
 .bin .leq (.int .i64 0) (.symi .i64 1),
 .bin .leq (.symi .i64 1) (.int .i64 5864062014805)]
set_option maxRecDepth 100000 in
def wq51T : LT := .n (.n (.e) 343383798 2 (.bin .lss (.int .i64 0) (.symi .i64 1)) (.e)) 343383805 3 (.bin .leq (.int .i64 0) (.symi .i64 1)) (.n (.e) 712876369 4 (.bin .leq (.symi .i64 1) (.int .i64 5864062014805)) (.e))
set_option maxRecDepth 100000 in
def wq51W : Sw := .node 2 (.node 3 (.node 4 (.run (.leaf .ret w51Se [(0, 0), (2, 0)] [(1, .symi .i64 1), (1, .symi .i64 1), (0, .syms 0), (1, .symi .i64 1), (0, .syms 0), (1, .symi .i64 1)] [])) (.dead)) (.dead)) (.dead)
def wq51Kd : KdT := .n (.n (.n .e none .e) (some .i64) .e) none (.n (.n .e none .e) none .e)
def wq51X : Ing := { m := 2, ins := w30K, G := wq51G, T := wq51T, tab := wTab, lsts := wL, kb := 5, kt := wq51Kd }
theorem wq51_lt : okLT 2 wq51G wq51T = true := by kernel_rfl
theorem wq51_ok : okG wq51G 2 = true := by kernel_rfl
theorem wq51_seg : SegOk Try.prog wTab 8 (flatC (bodyOf Try.f51)) w30S0 wq51X wq51W where
 lt := wq51_lt
 ok := wq51_ok
 hook := fun F => no_hooks rfl F
 n0 := rfl
 id := by kernel_rfl
 reck := by kernel_rfl
 tab := rfl
 cuts := rfl
 kt := by kernel_rfl
theorem bval202 {σ : Sig} {i N : Nat} {C : ByteArray} (ht : σ.tab = wTab) (hs : σ.sval i = C) (hC : C.data.toList.length = N * 17) (h : Script (lstE C N) ∧ (N : Int) ≤ 1000000) : (!(σ.tab 202 [encB (σ.sval i)] == 0)) = true := by
 rw [ht, hs, tab202, b01_ne, decL_of hC]
 simp only [decide_eq_true_eq, lstE_len]
 exact ⟨check_zero.2 h.1, by omega⟩
theorem pin0 {g : Inj} {w : World} {n : Nat} {W : Sw} (h : pinsB n W = true) : ∀ i, (fraOf g w n).pin i ≠ none → pinW i W = true := by
 intro i hi
 have hi : (if i < n then some (g.loc i) else none) ≠ none := hi
 split at hi
 ·exact pins_of h i (by assumption)
 ·exact absurd rfl hi
def L51 : Asg := [(1, .symi .i64 1), (0, .syms 0), (1, .symi .i64 1), (0, .syms 0), (1, .symi .i64 1)]
theorem den51 {σ τ : Sig} (h0 : σ.sval 0 = τ.sval 0) (h1 : σ.ival 1 = τ.ival 1) : DenEq σ τ L51 :=
 ⟨congrArg (AVal.int .i64) h1, congrArg AVal.str h0, congrArg (AVal.int .i64) h1, congrArg AVal.str h0, congrArg (AVal.int .i64) h1, trivial⟩
def sf51p : SymF := { sf51 with pcs := [.fnb 202 [.syms 0], .bin .lss (.int .i64 0) (.symi .i64 1)] }
theorem c51p : SymFOk Try.prog wTab (fun _ => True) sf51p :=
 symF_of_stage Try.func51 rfl (n := 8) rfl (by decide) (by decide) rfl rfl (by kernel_rfl) (fun g w hg _ hE hI hpc hH => by
  obtain ⟨N, hN, hC⟩ := lst_ok (i := 0) hH rfl
  have hp := pc202 hg rfl hC (hpc _ (by simp [sf51p]))
  have h0 : (AVal.bool (decide ((0 : Int) < g.sig.ival 1))) = .bool true := Option.some.inj (hpc (.bin .lss (.int .i64 0) (.symi .i64 1)) (by simp [sf51p]))
  simp only [AVal.bool.injEq, decide_eq_true_eq] at h0
  refine Stage.last mixed wq51_seg ⟨rfl, rfl⟩ (fun σ τ (ag : Agree 2 σ τ) (h : Agree 2 g.sig σ) => h.trans' ag) (fun τ h => rows_nil) (fun τ e ht hi ag => ?_) (pin0 (by kernel_rfl))
  refine segsPw_segs ?_
  have a0 : τ.sval 0 = g.sig.sval 0 := (ag.val 0 (by decide)).2.2.symm
  have a1 : τ.ival 1 = g.sig.ival 1 := (ag.val 1 (by decide)).1.symm
  have b2 : τ.bval 2 = decide ((0 : Int) < τ.ival 1) := eqB (e.at 0 _ rfl rfl) rfl
  have b3 : τ.bval 3 = decide ((0 : Int) ≤ τ.ival 1) := eqB (e.at 1 _ rfl rfl) rfl
  have b4 : τ.bval 4 = decide (τ.ival 1 ≤ 5864062014805) := eqB (e.at 2 _ rfl rfl) rfl
  refine ⟨fun f2 => ⟨fun f3 => ⟨fun f4 => ?_, fun f4 => ?_⟩, fun f3 => ?_⟩, fun f2 => ?_⟩
  ·exact endZ_mem (M := 2) (l := L51) (vs := [.lsl 1 3 true (.int .i64 0) (.symi .i64 1)]) (by kernel_rfl) rfl rfl hH hg rfl rfl rfl (by kernel_rfl) (by kernel_rfl) (den51 a0 a1) (by decide) ag.ext.symm (.inl rfl)
  ·exfalso
   rw [b4, decide_eq_false_iff_not] at f4
   omega
  ·exfalso
   rw [b3, decide_eq_false_iff_not] at f3
   omega
  ·exfalso
   rw [b2, decide_eq_false_iff_not] at f2
   omega)
theorem c51 : SymFOk Try.prog wTab (fun _ => True) sf51 where
 len := by decide
 cpre := rfl
 cpost := rfl
 ok := rfl
 call := fun g w args' ht hi he hins hpc hH ha => by
  obtain ⟨N, hN, hC⟩ := lst_ok (i := 0) hH rfl
  by_cases h0 : N = 0
  ·subst h0
   obtain ⟨u, hu, ho⟩ : ∃ u, args' = #[u] ∧ VRel g (.lsl 0 3 true (.int .i64 0) (.symi .i64 1)) u := by
    generalize hal : args'.toList = l at ha
    cases ha with
    | cons _ v _ m hv hm =>
     cases hm
     exact ⟨v, by rw [← Array.toArray_toList (xs := args'), hal], hv⟩
   subst hu
   have hz : NoneL g (.lst (.syms 0) (.symi .i64 1) cl3 64) := by
    refine ⟨_, _, _, _, rfl, ?_, by simp only [den, hN]; rfl⟩
    simp only [den, AVal.str.injEq]
    have : (g.sig.sval 0).data.toList = [] := List.eq_nil_of_length_eq_zero (by omega)
    generalize g.sig.sval 0 = S at this
    cases S with
    | mk d => cases d with
     | mk l => (first | (simp at this; subst this; rfl) | (cases l with | nil => rfl | cons a l => cases this))
   cases ho with
   | lsl _ _ _ _ _ o m cap ao d1 d2 d3 d4 d5 =>
    simp only [den, AVal.int.injEq, true_and] at d1 d2
    have hm : m = 0 := by omega
    subst hm
    have hc := (d4 rfl).2 rfl
    subst hc
    have hres : ∀ ao', VRel g (.lsl 1 3 true (.int .i64 0) (.symi .i64 1)) (.slice ao' 0 0) := fun ao' => .lsl 1 3 true (.int .i64 0) (.symi .i64 1) 0 0 0 ao' rfl (by simp only [den, hN]) ⟨Nat.le_refl _, by decide⟩ (fun _ => ⟨rfl, fun _ => rfl⟩) (fun h => absurd h (by decide))
    have fin : ∀ {w' : World}, Below w.heap.size w w' → ∀ ao', ∃ (u : Value) (g1 : Inj), Ending.returned (.slice ao' 0 0) = .returned u ∧ g1.sig = g.sig ∧ VRel g1 sf51.v u ∧ HRel (cx0 wTab) g1 sf51.post w' ∧ (∀ i, i < sf51.pre.length → g1 i = g i) ∧ (∀ i L, sf51.pre.length ≤ i → g1 i = some L → w.heap.size ≤ L.blk ∨ ∃ j M, g j = some M ∧ M.blk = L.blk) ∧
      w.heap.size ≤ w'.heap.size ∧ (∀ b, b < w.heap.size → (∀ i L, g i = some L → L.blk ≠ b) → w'.heap[b]? = w.heap[b]?) ∧ w'.os = w.os ∧ w'.tape = w.tape ∧ w'.output = w.output := by
     intro w' hb ao'
     have h1 := (hH.below hb).1
     have h2 := (h1.snocNone hz).1
     exact ⟨_, g, rfl, rfl, hres ao', h2, fun _ _ => rfl, fun i L _ hL => .inr ⟨i, L, hL, rfl⟩, hb.size, fun b hb' _ => hb.block b hb', hb.os, hb.tape, hb.output⟩
    cases ao with
    | none =>
     refine Calls.mono (wcl.clone_nil w) ?_
     rintro en w' ⟨rfl, rfl⟩
     exact fin (Below.refl _ _) none
    | some a =>
     refine Calls.mono (wcl.clone_none a w) ?_
     rintro en w' ⟨a', rfl, hb⟩
     exact fin hb a'
  ·refine c51p.call g w args' ht hi he hins (fun d hd => ?_) hH ha
   simp only [sf51p, List.mem_cons, List.not_mem_nil, or_false] at hd
   rcases hd with rfl | rfl
   ·exact hpc _ (by simp [sf51])
   ·simp only [evalS, den]
    show some (AVal.bool (decide ((0 : Int) < g.sig.ival 1))) = _
    rw [decide_eq_true (by omega)]
end Go.Proofs.Ytapfkgenachpgaa.wc
