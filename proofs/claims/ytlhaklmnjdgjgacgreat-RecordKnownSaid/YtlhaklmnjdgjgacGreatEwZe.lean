/- Contracts whose plain function is what a run's operations themselves say: two functions by one row of operations. -/
import Derived.Test.YtlhaklmnjdgjgacGreatEwY
namespace Go.Ev
open Go.RowKit
set_option linter.unusedVariables false
set_option linter.unusedSimpArgs false
set_option linter.unnecessarySimpa false

def numsOf (σ : Sig) (cs : List AVal) : List Int := cs.map fun a => numS (den σ a)

/-- What the operations G make of numbers. -/
def dagF (tab : TabF) (m : Nat) (G : List SDef) (cs : List AVal) (l : List Int) : List Int := numsOf (solve G m (sigL tab l)) cs

theorem cell_den {σ : Sig} {kd : Nat → Option IntKind} (hk : ∀ i k, kd i = some k → k.wrap (σ.ival i) = σ.ival i) {c : Cl} {a : AVal} (h : okCell kd c a = true) : den σ a = denC c (numS (den σ a)) := by
  cases c with
  | i k =>
    obtain ⟨n, h1, h2⟩ := inK_spec hk (show inK kd k a = true from h)
    rw [h1]
    simp only [denC, numS, h2]
  | b =>
    cases a <;> simp only [okCell, Bool.false_eq_true] at h
    · rename_i x; cases x <;> rfl
    · rename_i i
      show AVal.bool (σ.bval i) = denC .b (numS (.bool (σ.bval i)))
      cases σ.bval i <;> rfl

theorem cells_out {σ : Sig} {kd : Nat → Option IntKind} (hk : ∀ i k, kd i = some k → k.wrap (σ.ival i) = σ.ival i) : ∀ (cl : List Cl) (as rest : List AVal) (r : List Cl), as.length = cl.length → okCells kd (cl ++ r) (as ++ rest) = true →
    OutCs σ cl as (numsOf σ (as ++ rest)) ∧ okCells kd r rest = true
  | [], [], rest, r, _, h => ⟨trivial, h⟩
  | c :: cl, a :: as, rest, r, hl, h => by
    simp only [List.cons_append, okCells, Bool.and_eq_true] at h
    obtain ⟨h1, h2⟩ := cells_out hk cl as rest r (by simpa using hl) h.2
    exact ⟨⟨by simpa [numsOf] using cell_den hk h.1, by simpa [numsOf] using h1⟩, h2⟩
  | [], _ :: _, _, _, hl, _ => by simp at hl
  | _ :: _, [], _, _, hl, _ => by simp at hl

theorem flat_out {σ : Sig} {kd : Nat → Option IntKind} (hk : ∀ i k, kd i = some k → k.wrap (σ.ival i) = σ.ival i) : ∀ (ss : List Sh) (vs cs : List AVal), flatS ss vs = some cs → okCells kd (cellsOf ss) cs = true → OutSh σ ss vs (numsOf σ cs)
  | [], [], cs, h, _ => trivial
  | [], _ :: _, cs, h, _ => by simp [flatS] at h
  | .one c :: r, [], cs, h, _ => by simp [flatS] at h
  | .one c :: r, a :: as, cs, h, hc => by
    simp only [flatS] at h
    split at h
    · rename_i l hl
      cases h
      simp only [cellsOf, okCells, Bool.and_eq_true] at hc
      exact ⟨by simpa [numsOf] using cell_den hk hc.1, by simpa [numsOf] using flat_out hk r as l hl hc.2⟩
    · cases h
  | .agg cl :: r, [], cs, h, _ => by simp [flatS] at h
  | .agg cl :: r, a :: as, cs, h, hc => by
    simp only [flatS] at h
    split at h
    · rename_i es
      split at h
      · rename_i hlen
        have hlen := Nat.eq_of_beq_eq_true hlen
        split at h
        · rename_i l hl
          cases h
          simp only [cellsOf] at hc
          obtain ⟨h1, h2⟩ := cells_out hk cl es l (cellsOf r) hlen hc
          refine ⟨h1, ?_⟩
          have : (numsOf σ (es ++ l)).drop cl.length = numsOf σ l := by
            simp only [numsOf, List.map_append]
            rw [List.drop_append_of_le_length (by simp [hlen]), List.drop_of_length_le (by simp [hlen]), List.nil_append]
          rw [this]
          exact flat_out hk r as l hl h2
        · cases h
      · cases h
    · cases h

def unpack (outs : List Sh) (v : AVal) : List AVal :=
  match outs with
  | [_] => [v]
  | _ => match v with
    | .tuple vs => vs
    | _ => [.nilptr]

theorem outOk_flat {σ : Sig} {kd : Nat → Option IntKind} (hk : ∀ i k, kd i = some k → k.wrap (σ.ival i) = σ.ival i) {outs : List Sh} {v : AVal} {cs : List AVal} (h : flatS outs (unpack outs v) = some cs) (hc : okCells kd (cellsOf outs) cs = true) : OutOk σ outs v (numsOf σ cs) := by
  unfold OutOk
  unfold unpack at h
  split
  · exact flat_out hk _ _ cs h hc
  · rename_i hne
    split at h
    · exact absurd rfl (hne _)
    · split at h
      · exact flat_out hk _ _ cs h hc
      · exfalso
        cases outs with
        | nil => simp [flatS] at h
        | cons s r =>
          cases r with
          | nil => exact hne _ rfl
          | cons s2 r2 =>
            cases s with
            | one c =>
              simp only [flatS] at h
              cases s2 <;> simp [flatS] at h
            | agg cl => simp [flatS] at h

/-- A function whose run ends in one leaf, with obligations: what G says of cells that are equal to its. -/
theorem dag_contractW {P : Program} {X : Ing} {fuel : Nat} {f : FuncId} {ins outs : List Sh} {v : AVal} {cs cs1 : List AVal} {Wr : Wr'} (dk : Nat) (hm : P.follows .mixedOrders = true)
    (hX : X.n = 0 ∧ X.rows = [] ∧ X.cuts = [] ∧ X.m = (cellsOf ins).length ∧ X.ins = (cellsOf ins).map kindC) (hG : okG X.G X.m = true) (hT : okLT X.m X.G X.T = true) (hh : ∀ F, Hooks P (cxOf X F))
    (h : okW (fun F => (evD P (cxOf X) true fuel 40).1 F f (symSh ins 0) ⟨[], []⟩) Wr [] = true)
    (hv : ∀ σ, Eqs σ X.m X.G → σ.tab = X.tab → InsOk σ X.m X.ins → ∀ Q : AVal → Prop, Q v → valsW σ Q Wr [])
    (hfl : flatS outs (unpack outs v) = some cs) (hc : okCells (kdF X.m X.ins X.G dk) (cellsOf outs) cs = true)
    (heq : ∀ σ, Eqs σ X.m X.G → σ.tab = X.tab → InsOk σ X.m X.ins → numsOf σ cs = numsOf σ cs1) (hinv : ∀ σ, X.inv σ := by exact fun _ => True.intro) (hkt : okKt X = true := by exact rfl) : FnOk P f ins outs (dagF X.tab X.m X.G cs1) := by
  intro l hl w
  obtain ⟨x1, x2, x3, x4, x5⟩ := hX
  have hlen := inR_length hl
  have ag := agree_solve X.G X.m (sigL X.tab l)
  have hi : ∀ i, i < X.m → (solve X.G X.m (sigL X.tab l)).ival i = l.getD i 0 := fun i hi => (ag.val i hi).1.symm
  have hb : ∀ i, i < X.m → (solve X.G X.m (sigL X.tab l)).bval i = !(l.getD i 0 == 0) := fun i hi => (ag.val i hi).2.1.symm
  have hins : InsOk (solve X.G X.m (sigL X.tab l)) X.m X.ins := by
    intro i k him hk
    rw [hi i him]
    refine inR_get hl i k ?_
    rw [x5, List.getElem?_map] at hk
    cases hc : (cellsOf ins)[i]? with
    | none => rw [hc] at hk; simp at hk
    | some c =>
      rw [hc] at hk
      cases c with
      | i k' => simp [kindC] at hk; rw [hk]
      | b => simp [kindC] at hk
  have hbase : BaseOk X (solve X.G X.m (sigL X.tab l)) := ⟨eqs_solve hG, ag.tab.symm, hins, by rw [x2]; exact rows_nil, by rw [x3]; exact cuts_nil, hinv _, hkt⟩
  have hout : OutOk (solve X.G X.m (sigL X.tab l)) outs v (dagF X.tab X.m X.G cs1 l) := by
    unfold dagF
    rw [← heq _ (eqs_solve hG) ag.tab.symm hins]
    exact outOk_flat (fun i k h => kdF_spec (eqs_solve hG) hins dk i k h) hfl hc
  refine (sym_val (Q := fun v => OutOk (solve X.G X.m (sigL X.tab l)) outs v (dagF X.tab X.m X.G cs1 l)) hm hT hh x1 (fun i => congrFun ag.ext.symm i) hbase h (hv _ (eqs_solve hG) ag.tab.symm hins _ hout) (args' := (encS ins l).toArray) ?_ w).mono ?_
  · refine symSh_rel ins l 0 hl (fun i hil => ?_)
    have him : i < X.m := by rw [x4, ← hlen]; exact hil
    rw [Nat.zero_add]
    exact ⟨hi i him, hb i him⟩
  · rintro e w' ⟨v, u, rfl, ho, hu, hB⟩
    exact ⟨by rw [outOk_rel ho hu], hB⟩
/-- A function whose run ends in one leaf. -/
theorem dag_contract {P : Program} {X : Ing} {fuel : Nat} {f : FuncId} {ins outs : List Sh} {v : AVal} {cs cs1 : List AVal} (dk : Nat) (hm : P.follows .mixedOrders = true)
    (hX : X.n = 0 ∧ X.rows = [] ∧ X.cuts = [] ∧ X.m = (cellsOf ins).length ∧ X.ins = (cellsOf ins).map kindC) (hG : okG X.G X.m = true) (hT : okLT X.m X.G X.T = true) (hh : ∀ F, Hooks P (cxOf X F))
    (h : okW (fun F => (evD P (cxOf X) true fuel 40).1 F f (symSh ins 0) ⟨[], []⟩) (.run (.leaf v)) [] = true)
    (hfl : flatS outs (unpack outs v) = some cs) (hc : okCells (kdF X.m X.ins X.G dk) (cellsOf outs) cs = true)
    (heq : ∀ σ, Eqs σ X.m X.G → σ.tab = X.tab → InsOk σ X.m X.ins → numsOf σ cs = numsOf σ cs1) (hinv : ∀ σ, X.inv σ := by exact fun _ => True.intro) (hkt : okKt X = true := by exact rfl) : FnOk P f ins outs (dagF X.tab X.m X.G cs1) :=
  dag_contractW dk hm hX hG hT hh h (fun _ _ _ _ _ hq _ => hq) hfl hc heq hinv hkt
end Go.Ev
