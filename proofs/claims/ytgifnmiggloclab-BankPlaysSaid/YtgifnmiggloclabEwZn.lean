/- Functions that are true of two that are the same. -/
import Derived.Test.YtgifnmiggloclabEwZl
namespace Go.Ev
open Go.RowKit
set_option linter.unusedVariables false
set_option linter.unusedSimpArgs false
set_option linter.unnecessarySimpa false

/-- Of any aggregate of these cells, given twice, the function says true. -/
def DupOk (P : Program) (f : FuncId) (cl : List Cl) : Prop :=
  ∀ l : List Int, InR (cellsOf [.agg cl]) l → ∀ w, Calls P f (encS [.agg cl] l ++ encS [.agg cl] l).toArray w fun e w' => e = .returned (.bool true) ∧ Below w.heap.size w w'

def dupHook (f0 : FuncId) (cl : List Cl) : HookF := fun _ kd f args =>
  match Nat.beq f0 f with
  | true => match args with
    | [.agg a, .agg b] => match eqVs a b with
      | true => match flatS [.agg cl] [.agg a] with
        | some cs => match okCells kd (cellsOf [.agg cl]) cs with
          | true => some (.bool true)
          | false => none
        | none => none
      | false => none
    | _ => none
  | false => none

theorem dup_at {P : Program} {X : Ing} {f0 : FuncId} {cl : List Cl} (h : DupOk P f0 cl) (F : List Fact) (f : FuncId) (args : List AVal) (v : AVal) (hv : dupHook f0 cl (symS (baseOf X F)) (kdX X) f args = some v) (hp : Hp) : CallP P (cxOf X F) f args hp (.val v) hp := by
  unfold dupHook at hv
  split at hv
  · rename_i hf
    have hf := Nat.eq_of_beq_eq_true hf
    subst hf
    split at hv
    · rename_i a b
      split at hv
      · rename_i hab
        have hab := eqVs_eq _ _ hab
        subst hab
        split at hv
        · rename_i cs hcs
          split at hv
          · rename_i hcell
            cases hv
            refine callP_below (fun g w args' hg ha => ?_) hp
            have hk : ∀ i k, kdX X i = some k → k.wrap (g.sig.ival i) = g.sig.ival i := fun i k h => hg.kd i k h
            have hin := okCells_inR hk (cellsOf [.agg cl]) cs hcell (okCells_rel _ _ hcell)
            have hargs : args' = (encS [.agg cl] (cs.map fun a => numS (den g.sig a)) ++ encS [.agg cl] (cs.map fun a => numS (den g.sig a))).toArray := by
              cases hl : args'.toList with
              | nil => rw [hl] at ha; cases ha
              | cons u us =>
                rw [hl] at ha
                cases ha with
                | cons _ _ _ _ h1 h2 =>
                  cases us with
                  | nil => cases h2
                  | cons u2 us2 =>
                    cases h2 with
                    | cons _ _ _ _ h3 h4 =>
                      cases h4
                      have e1 := flat_num hk [.agg cl] [.agg a] cs [u] hcs hcell (.cons _ _ _ _ h1 .nil)
                      have e2 := flat_num hk [.agg cl] [.agg a] cs [u2] hcs hcell (.cons _ _ _ _ h3 .nil)
                      have e3 : u2 = u := by
                        have := e2.trans e1.symm
                        simpa using this
                      rw [← e1]
                      have : args' = args'.toList.toArray := rfl
                      rw [this, hl, e3]; rfl
            rw [hargs]
            refine (h _ hin w).mono ?_
            rintro en w' ⟨rfl, hB⟩
            exact ⟨_, rfl, .bool _, hB⟩
          · cases hv
        · cases hv
      · cases hv
    · cases hv
  · cases hv

theorem dup_or_hooks {P : Program} {X : Ing} {Fs : Nat → List Int → List Int} {tt tbl : List Ent} {f0 : FuncId} {cl : List Cl} (hT : okLT X.m X.G X.T = true) (hX : X.hook = orHook (dupHook f0 cl) (orHook (trueHook tt) (tblHook (tabOf Fs) tbl))) (ht : X.tab = tabOf Fs)
    (h0 : DupOk P f0 cl) (h1 : ∀ e, e ∈ tt → FnOk P e.f e.ins [.one .b] (fun _ => [1])) (h2 : ∀ e, e ∈ tbl → (cellsOf e.outs).length ≤ 64 ∧ FnOk P e.f e.ins e.outs (Fs e.id)) (F : List Fact) (hmh : X.mh = noMh := by rfl) : Hooks P (cxOf X F) := by
  refine hooks_of hmh ?_
  intro f args v hv hp
  replace hv : X.hook (symS (baseOf X F)) (kdX X) f args = some v := hv
  rw [hX] at hv
  unfold orHook at hv
  split at hv
  · rename_i v' h; cases hv; exact dup_at h0 F f args _ h hp
  · split at hv
    · rename_i v' h; cases hv; exact true_at h1 F f args _ h hp
    · exact tbl_at hT ht h2 F f args v hv hp

/-- Such a function, by a run over one aggregate of unknowns. -/
theorem dup_of_run {P : Program} {X : Ing} {fuel : Nat} {f : FuncId} {cl : List Cl} (hm : P.follows .mixedOrders = true)
    (hX : X.n = 0 ∧ X.rows = [] ∧ X.cuts = [] ∧ X.m = (cellsOf [.agg cl]).length ∧ X.ins = (cellsOf [.agg cl]).map kindC) (hG : okG X.G X.m = true) (hT : okLT X.m X.G X.T = true) (hh : ∀ F, Hooks P (cxOf X F))
    (h : okW (fun F => (evD P (cxOf X) true fuel 40).1 F f (symSh [.agg cl] 0 ++ symSh [.agg cl] 0) ⟨[], []⟩) (.run (.leaf (.bool true))) [] = true)
    (hinv : ∀ σ, X.inv σ := by exact fun _ => True.intro) (hkt : okKt X = true := by exact rfl) : DupOk P f cl := by
  intro l hl w
  obtain ⟨x1, x2, x3, x4, x5⟩ := hX
  have hlen := inR_length hl
  have ag := agree_solve X.G X.m (sigL X.tab l)
  have hi : ∀ i, i < X.m → (solve X.G X.m (sigL X.tab l)).ival i = l.getD i 0 := fun i hi => (ag.val i hi).1.symm
  have hb : ∀ i, i < X.m → (solve X.G X.m (sigL X.tab l)).bval i = !(l.getD i 0 == 0) := fun i hi => (ag.val i hi).2.1.symm
  have hins : InsOk (solve X.G X.m (sigL X.tab l)) X.m X.ins := by
    intro i k him hk
    rw [hi i him]
    refine inR_get hl i k ?_
    rw [x5, List.getElem?_map] at hk
    cases hc : (cellsOf [.agg cl])[i]? with
    | none => rw [hc] at hk; simp at hk
    | some c =>
      rw [hc] at hk
      cases c with
      | i k' => simp [kindC] at hk; rw [hk]
      | b => simp [kindC] at hk
  have hbase : BaseOk X (solve X.G X.m (sigL X.tab l)) := ⟨eqs_solve hG, ag.tab.symm, hins, by rw [x2]; exact rows_nil, by rw [x3]; exact cuts_nil, hinv _, hkt⟩
  refine (sym_val (Q := fun v => v = .bool true) hm hT hh x1 (fun i => congrFun ag.ext.symm i) hbase h (fun _ => rfl) (args' := (encS [.agg cl] l ++ encS [.agg cl] l).toArray) ?_ w).mono ?_
  · have hr := symSh_rel (g := ⟨fun _ => none, solve X.G X.m (sigL X.tab l), fun _ => none⟩) [.agg cl] l 0 hl (fun i hil => by
      have him : i < X.m := by rw [x4, ← hlen]; exact hil
      rw [Nat.zero_add]
      exact ⟨hi i him, hb i him⟩)
    simp only [symSh, encS, List.cons_append, List.nil_append] at hr ⊢
    cases hr with
    | cons _ _ _ _ h1 h2 => exact .cons _ _ _ _ h1 (.cons _ _ _ _ h1 .nil)
  · rintro e w' ⟨v, u, rfl, rfl, hu, hB⟩
    cases hu
    exact ⟨rfl, hB⟩
end Go.Ev
