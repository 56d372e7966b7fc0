import Derived.Test.YtlhaklmnjdgjgacGreatEwY
/-
  Contracts that are true of all arguments, as hooks that answer true.
-/
namespace Go.Ev
open Go.RowKit

/-- Functions that are true of all arguments of their forms answer true at once. -/
def trueHook (tbl : List Ent) : HookF := fun _ kd f args =>
  match findEnt f tbl with
  | some e => match flatS e.ins args with
    | some cs => match okCells kd (cellsOf e.ins) cs with
      | true => some (.bool true)
      | false => none
    | none => none
  | none => none

def orHook (h1 h2 : HookF) : HookF := fun look kd f args =>
  match h1 look kd f args with
  | some v => some v
  | none => h2 look kd f args

/-- What a table of contracts answers is so. -/
theorem tbl_at {P : Program} {X : Ing} {Fs : Nat → List Int → List Int} {tbl : List Ent} (hT : okLT X.m X.G X.T = true) (ht : X.tab = tabOf Fs)
    (h : ∀ e, e ∈ tbl → (cellsOf e.outs).length ≤ 64 ∧ FnOk P e.f e.ins e.outs (Fs e.id)) (F : List Fact) (f : FuncId) (args : List AVal) (v : AVal) (hv : tblHook (tabOf Fs) tbl (symS (baseOf X F)) (kdX X) f args = some v) (hp : Hp) : CallP P (cxOf X F) f args hp (.val v) hp := by
  unfold tblHook at hv
  split at hv
  · rename_i e he
    obtain ⟨hmem, hf⟩ := findEnt_mem he
    subst hf
    obtain ⟨h64, hok⟩ := h e hmem
    split at hv
    · rename_i cs hcs
      split at hv
      · rename_i hcell
        split at hv
        · rename_i l hl
          refine callP_below (fun g w args' hg ha => ?_) hp
          have hk : ∀ i k, kdX X i = some k → k.wrap (g.sig.ival i) = g.sig.ival i := fun i k h => hg.kd i k h
          have ea := flat_num hk e.ins args cs args'.toList hcs hcell ha
          have hin := okCells_inR hk (cellsOf e.ins) cs hcell (okCells_rel _ _ hcell)
          have hargs : args' = (encS e.ins (cs.map fun a => numS (den g.sig a))).toArray := by rw [← ea]
          rw [hargs]
          refine (hok _ hin w).mono ?_
          rintro en w' ⟨rfl, hB⟩
          have hout := outSs_sound (lit := cs.all isLit) hT hg ht (fun h => h) hl
          have hnum : encS e.outs (numsFrom (tabOf Fs) (cs.map fun a => numS (den g.sig a)) (64 * e.id) (cellsOf e.outs).length) = encS e.outs (Fs e.id (cs.map fun a => numS (den g.sig a))) := by
            refine encS_congr fun i hi => ?_
            rw [numsFrom_getD _ _ _ _ hi]
            unfold tabOf
            rw [show (64 * e.id + i) / 64 = e.id by omega, show (64 * e.id + i) % 64 = i by omega]
          rw [hnum] at hout
          refine ⟨_, rfl, ?_, hB⟩
          generalize Fs e.id (cs.map fun a => numS (den g.sig a)) = R at hout ⊢
          generalize e.outs = outs at hv hout ⊢
          unfold packS at hv
          unfold encR
          split at hv
          · rename_i s
            split at hv
            · rename_i a
              cases hv
              cases hE : encS [s] R with
              | nil => rw [hE] at hout; cases hout
              | cons u us => rw [hE] at hout; cases hout with | cons _ _ _ _ h1 _ => exact h1
            · cases hv
          · rename_i hne
            cases hv
            exact .tuple _ _ (by simpa using hout)
        · cases hv
      · cases hv
    · cases hv
  · cases hv


theorem true_at {P : Program} {X : Ing} {tbl : List Ent}
    (h : ∀ e, e ∈ tbl → FnOk P e.f e.ins [.one .b] (fun _ => [1])) (F : List Fact) (f : FuncId) (args : List AVal) (v : AVal) (hv : trueHook tbl (symS (baseOf X F)) (kdX X) f args = some v) (hp : Hp) : CallP P (cxOf X F) f args hp (.val v) hp := by
  unfold trueHook at hv
  split at hv
  · rename_i e he
    obtain ⟨hmem, hf⟩ := findEnt_mem he
    subst hf
    have hok := h e hmem
    split at hv
    · rename_i cs hcs
      split at hv
      · rename_i hcell
        cases hv
        refine callP_below (fun g w args' hg ha => ?_) hp
        have hk : ∀ i k, kdX X i = some k → k.wrap (g.sig.ival i) = g.sig.ival i := fun i k h => hg.kd i k h
        have ea := flat_num hk e.ins args cs args'.toList hcs hcell ha
        have hin := okCells_inR hk (cellsOf e.ins) cs hcell (okCells_rel _ _ hcell)
        have hargs : args' = (encS e.ins (cs.map fun a => numS (den g.sig a))).toArray := by rw [← ea]
        rw [hargs]
        refine (hok _ hin w).mono ?_
        rintro en w' ⟨rfl, hB⟩
        exact ⟨_, rfl, .bool _, hB⟩
      · cases hv
    · cases hv
  · cases hv

theorem or_hooks {P : Program} {X : Ing} {Fs : Nat → List Int → List Int} {tt tbl : List Ent} (hT : okLT X.m X.G X.T = true) (hX : X.hook = orHook (trueHook tt) (tblHook (tabOf Fs) tbl)) (ht : X.tab = tabOf Fs)
    (h1 : ∀ e, e ∈ tt → FnOk P e.f e.ins [.one .b] (fun _ => [1])) (h2 : ∀ e, e ∈ tbl → (cellsOf e.outs).length ≤ 64 ∧ FnOk P e.f e.ins e.outs (Fs e.id)) (F : List Fact) (hmh : X.mh = noMh := by rfl) (hin : X.insf = none := by rfl) (hat : X.atoms = [] := by rfl) : Hooks P (cxOf X F) := by
  refine hooks_of hmh hin hat ?_
  intro f args v hv hp
  replace hv : X.hook (symS (baseOf X F)) (kdX X) f args = some v := hv
  rw [hX] at hv
  unfold orHook at hv
  split at hv
  · rename_i v' h; cases hv; exact true_at h1 F f args _ h hp
  · exact tbl_at hT ht h2 F f args v hv hp

end Go.Ev
