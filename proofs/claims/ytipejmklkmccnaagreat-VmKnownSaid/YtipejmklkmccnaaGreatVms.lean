/- Rest over a machine of which the only instruction jumps to itself: shown by stages, for its 100000 rounds; an entry as the others. -/
import Derived.Test.YtipejmklkmccnaaGreatRows
import Derived.WalkKit
import Derived.ProofKit
import Derived.OpenShut
import Derived.Below
import Derived.ChangeSame
import Derived.Laws.Externs
import Derived.Laws.LoneSync
import Derived.Test.YtipejmklkmccnaaGreatVka
import Derived.Test.YtipejmklkmccnaaGreatEv8
namespace Go.Proofs.YtipejmklkmccnaaGreat.vmKnown
open Go.ChangeShapes Go.WideShapes Go.ChangeAt Go.RowKit
set_option linter.unusedVariables false

section
open Go.Ev
set_option linter.unusedSimpArgs false
set_option maxRecDepth 100000
def vsH : List Blk := [.cells [.slice 1 0 1 1 .none, .nilslice, .slice 2 0 1 1 .none, .nilslice, .int .i64 0, .int .i64 0, .int .i64 0, .int .i64 0, .int .i64 0, .int .i64 0, .int .i64 0, .int .i64 0, .int .i64 0, .int .i64 0, .int .i64 0, .int .i64 0, .int .i64 0, .int .i64 0, .int .i64 0, .int .i64 0, .int .i64 0, .int .i64 0, .int .i64 0, .int .i64 0, .int .i64 0, .int .i64 0, .int .i64 0, .int .i32 0, .int .i32 0, .int .i32 0, .int .i32 0, .int .i32 0, .int .i32 0, .int .i32 0, .int .i32 0, .int .i32 0, .slice 3 0 0 0 .none, .slice 4 0 0 0 .none, .int .i64 0, .nilslice, .int .u8 0, .int .u8 0, .int .u8 0, .int .i64 0, .int .u8 0, .int .u8 0, .int .u8 0, .int .u8 0, .int .u8 0, .int .u8 0, .int .u8 0, .int .u8 0, .int .i64 0, .int .u8 0, .int .u8 0, .int .u8 0, .int .u8 0, .int .u8 0, .int .u8 0, .int .u8 0, .int .u8 0, .bool false, .int .u8 0, .int .u8 0, .int .u16 0, .int .u16 0, .int .u16 0, .int .u16 0, .int .u16 0, .int .u16 0, .int .u8 0, .int .u8 0, .int .u8 0, .symi .u64 3, .symi .u64 4, .int .i64 0, .symi .i64 0, .symi .i64 1, .nilslice, .ptr 5 0] 83, .cells [.int .u8 20, .int .u8 0, .int .u8 0, .int .u8 0, .int .i32 0] 33, .cells [.str ⟨#[109, 97, 105, 110]⟩, .int .i64 (-1), .int .i64 0, .int .i64 0, .int .i64 0, .int .i64 0, .int .i64 0, .nilslice, .nilslice] 71, .cells [] 21, .cells [] 21, .cells [.symi .u64 2] 98]
def vsS : Shape := ⟨[(0, .ptr 0 0)], vsH⟩
def vsE : Shape := ⟨[(0, .ptr 0 0), (2, .int .i64 0)], vsH⟩
def vsH0 : List Blk := [.cells [.slice 1 0 1 1 .none, .nilslice, .slice 2 0 1 1 .none, .nilslice, .int .i64 0, .int .i64 0, .int .i64 0, .int .i64 0, .int .i64 0, .int .i64 0, .int .i64 0, .int .i64 0, .int .i64 0, .int .i64 0, .int .i64 0, .int .i64 0, .int .i64 0, .int .i64 0, .int .i64 0, .int .i64 0, .int .i64 0, .int .i64 0, .int .i64 0, .int .i64 0, .int .i64 0, .int .i64 0, .int .i64 0, .int .i32 0, .int .i32 0, .int .i32 0, .int .i32 0, .int .i32 0, .int .i32 0, .int .i32 0, .int .i32 0, .int .i32 0, .slice 3 0 0 0 .none, .slice 4 0 0 0 .none, .int .i64 0, .nilslice, .int .u8 0, .int .u8 0, .int .u8 0, .int .i64 0, .int .u8 0, .int .u8 0, .int .u8 0, .int .u8 0, .int .u8 0, .int .u8 0, .int .u8 0, .int .u8 0, .int .i64 0, .int .u8 0, .int .u8 0, .int .u8 0, .int .u8 0, .int .u8 0, .int .u8 0, .int .u8 0, .int .u8 0, .bool false, .int .u8 0, .int .u8 0, .int .u16 0, .int .u16 0, .int .u16 0, .int .u16 0, .int .u16 0, .int .u16 0, .int .u8 0, .int .u8 0, .int .u8 0, .int .u64 0, .int .u64 0, .int .i64 0, .int .i64 0, .int .i64 0, .nilslice, .ptr 5 0] 83, .cells [.int .u8 20, .int .u8 0, .int .u8 0, .int .u8 0, .int .i32 0] 33, .cells [.str ⟨#[109, 97, 105, 110]⟩, .int .i64 (-1), .int .i64 0, .int .i64 0, .int .i64 0, .int .i64 0, .int .i64 0, .nilslice, .nilslice] 71, .cells [] 21, .cells [] 21, .cells [.int .u64 0] 98]
def vsS0 : Shape := ⟨argT 0 [.ptr 0 0], vsH0⟩
def vsK : List (Option IntKind) := [some .i64, some .i64, some .u64, some .u64, some .u64]
def sd0 : MemF := ⟨14, [.ptr 0 0], [.cells [.slice 1 0 1 1 .none, .nilslice, .slice 2 0 1 1 .none, .nilslice, .int .i64 0, .int .i64 0, .int .i64 0, .int .i64 0, .int .i64 0, .int .i64 0, .int .i64 0, .int .i64 0, .int .i64 0, .int .i64 0, .int .i64 0, .int .i64 0, .int .i64 0, .int .i64 0, .int .i64 0, .int .i64 0, .int .i64 0, .int .i64 0, .int .i64 0, .int .i64 0, .int .i64 0, .int .i64 0, .int .i64 0, .int .i32 0, .int .i32 0, .int .i32 0, .int .i32 0, .int .i32 0, .int .i32 0, .int .i32 0, .int .i32 0, .int .i32 0, .slice 3 0 0 0 .none, .slice 4 0 0 0 .none, .int .i64 0, .nilslice, .int .u8 0, .int .u8 0, .int .u8 0, .int .i64 0, .int .u8 0, .int .u8 0, .int .u8 0, .int .u8 0, .int .u8 0, .int .u8 0, .int .u8 0, .int .u8 0, .int .i64 0, .int .u8 0, .int .u8 0, .int .u8 0, .int .u8 0, .int .u8 0, .int .u8 0, .int .u8 0, .int .u8 0, .bool false, .int .u8 0, .int .u8 0, .int .u16 0, .int .u16 0, .int .u16 0, .int .u16 0, .int .u16 0, .int .u16 0, .int .u8 0, .int .u8 0, .int .u8 0, .int .u64 0, .int .u64 0, .int .i64 0, .int .i64 0, .int .i64 0, .nilslice, .ptr 5 0] 83, .cells [.int .u8 20, .int .u8 0, .int .u8 0, .int .u8 0, .int .i32 0] 33, .cells [.str ⟨#[109, 97, 105, 110]⟩, .int .i64 (-1), .int .i64 0, .int .i64 0, .int .i64 0, .int .i64 0, .int .i64 0, .nilslice, .nilslice] 71, .cells [] 21, .cells [] 21, .cells [.int .u64 0] 98], .int .i64 0, [.cells [.slice 1 0 1 1 .none, .nilslice, .slice 2 0 1 1 .none, .nilslice, .int .i64 0, .int .i64 0, .int .i64 0, .int .i64 0, .int .i64 0, .int .i64 0, .int .i64 0, .int .i64 0, .int .i64 0, .int .i64 0, .int .i64 0, .int .i64 0, .int .i64 0, .int .i64 0, .int .i64 0, .int .i64 0, .int .i64 0, .int .i64 0, .int .i64 0, .int .i64 0, .int .i64 0, .int .i64 0, .int .i64 0, .int .i32 0, .int .i32 0, .int .i32 0, .int .i32 0, .int .i32 0, .int .i32 0, .int .i32 0, .int .i32 0, .int .i32 0, .slice 3 0 0 0 .none, .slice 4 0 0 0 .none, .int .i64 0, .nilslice, .int .u8 0, .int .u8 0, .int .u8 0, .int .i64 0, .int .u8 0, .int .u8 0, .int .u8 0, .int .u8 0, .int .u8 0, .int .u8 0, .int .u8 0, .int .u8 0, .int .i64 0, .int .u8 0, .int .u8 0, .int .u8 0, .int .u8 0, .int .u8 0, .int .u8 0, .int .u8 0, .int .u8 0, .bool false, .int .u8 0, .int .u8 0, .int .u16 0, .int .u16 0, .int .u16 0, .int .u16 0, .int .u16 0, .int .u16 0, .int .u8 0, .int .u8 0, .int .u8 0, .int .u64 100000, .int .u64 100000, .int .i64 0, .int .i64 100000, .int .i64 5, .nilslice, .ptr 5 0] 83, .cells [.int .u8 20, .int .u8 0, .int .u8 0, .int .u8 0, .int .i32 0] 33, .cells [.str ⟨#[109, 97, 105, 110]⟩, .int .i64 (-1), .int .i64 0, .int .i64 0, .int .i64 0, .int .i64 0, .int .i64 0, .nilslice, .nilslice] 71, .cells [] 21, .cells [] 21, .cells [.int .u64 100001] 98]⟩
def vsAG : List SDef := []

def vsAT : LT := .e

def vsAW : Sw := .run (.leaf .normal vsS [(0, 0), (1, 0), (2, 0), (3, 0), (4, 0), (5, 0)] [(3, .int .u64 0), (4, .int .u64 0), (0, .int .i64 0), (1, .int .i64 0), (2, .int .u64 0)] [])

def vsAKd : KdT := .e

def vsBG : List SDef := [.bin .eql (.symi .i64 1) (.int .i64 0),
  .bin .add (.symi .u64 2) (.int .u64 1),
  .bin .geq (.symi .i64 0) (.int .i64 100000),
  .bin .add (.symi .u64 4) (.int .u64 1),
  .bin .add (.symi .u64 3) (.int .u64 1),
  .bin .add (.symi .i64 0) (.int .i64 1),
  .ite (.symb 7) (.symi .u64 3) (.symi .u64 9),
  .ite (.symb 7) (.symi .u64 4) (.symi .u64 8),
  .ite (.symb 7) (.symi .i64 0) (.symi .i64 10),
  .ite (.symb 7) (.int .i64 5) (.symi .i64 1)]

def vsBT : LT := .n (.n (.n (.n (.e) 60352 10 (.bin .add (.symi .i64 0) (.int .i64 1)) (.e)) 50296096 14 (.ite (.symb 7) (.int .i64 5) (.symi .i64 1)) (.e)) 101010697 5 (.bin .eql (.symi .i64 1) (.int .i64 0)) (.n (.n (.e) 202060958 6 (.bin .add (.symi .u64 2) (.int .u64 1)) (.e)) 303061261 9 (.bin .add (.symi .u64 3) (.int .u64 1)) (.e))) 335554919 13 (.ite (.symb 7) (.symi .i64 0) (.symi .i64 10)) (.n (.n (.n (.e) 404061564 8 (.bin .add (.symi .u64 4) (.int .u64 1)) (.e)) 629555801 12 (.ite (.symb 7) (.symi .u64 4) (.symi .u64 8)) (.e)) 631555807 11 (.ite (.symb 7) (.symi .u64 3) (.symi .u64 9)) (.n (.e) 708543121 7 (.bin .geq (.symi .i64 0) (.int .i64 100000)) (.e)))

def vsBW : Sw := .run (.node 5 (.leaf .normal vsS [(0, 0), (1, 0), (2, 0), (3, 0), (4, 0), (5, 0)] [(3, .symi .u64 11), (4, .symi .u64 12), (0, .symi .i64 13), (1, .symi .i64 14), (2, .symi .u64 6)] []) (.leaf (.exit 1) vsS [(0, 0), (1, 0), (2, 0), (3, 0), (4, 0), (5, 0)] [(3, .symi .u64 3), (4, .symi .u64 4), (0, .symi .i64 0), (1, .symi .i64 1), (2, .symi .u64 2)] []))

def vsBKd : KdT := .n (.n (.n (.n .e none .e) (some .u64) (.n .e (some .u64) .e)) (some .i64) (.n (.n .e (some .u64) .e) none (.n .e (some .i64) .e))) (some .i64) (.n (.n (.n .e (some .u64) .e) (some .u64) (.n .e (some .u64) .e)) (some .u64) (.n (.n .e (some .i64) .e) (some .u64) (.n .e (some .i64) .e)))

def vsCG : List SDef := []

def vsCT : LT := .e

def vsCW : Sw := .run (.leaf .ret vsE [(0, 0), (1, 0), (2, 0), (3, 0), (4, 0), (5, 0)] [(3, .symi .u64 3), (4, .symi .u64 4), (0, .symi .i64 0), (1, .symi .i64 1), (2, .symi .u64 2)] [])

def vsCKd : KdT := .n (.n (.n .e (some .u64) .e) (some .i64) .e) (some .i64) (.n (.n .e (some .u64) .e) (some .u64) .e)


def vsAt : List (Nat × Bool) := [(36, true), (48, false)]
def vsAX : Ing := { m := 0, G := vsAG, T := vsAT, atoms := vsAt, kb := 0, kt := vsAKd }
def vsBX : Ing := { m := 5, ins := vsK, G := vsBG, T := vsBT, atoms := vsAt, kb := 15, kt := vsBKd }
def vsCX : Ing := { m := 5, ins := vsK, G := vsCG, T := vsCT, atoms := vsAt, kb := 5, kt := vsCKd }
theorem vs_hooks {X : Ing} (h1 : X.hook = noHook) (h2 : X.mh = noMh) (h3 : X.insf = none) (h4 : X.atoms = vsAt) (F : List Fact) : Hooks Tryz.prog (cxOf X F) where
  val := fun f args v h => by simp only [cxOf, h1, noHook, reduceCtorEq] at h
  mem := fun f args hp v hp' h => by simp only [cxOf, h2, noMh, reduceCtorEq] at h
  ovl := fun f k h => by simp only [cxOf, h3, reduceCtorEq] at h
  atm := fun k b h => by
    simp only [cxOf, h4, vsAt, List.mem_cons, Prod.mk.injEq, List.not_mem_nil, or_false] at h
    rcases h with ⟨rfl, rfl⟩ | ⟨rfl, rfl⟩
    · exact atm36
    · exact atm48
theorem vsA_seg : SegOk Tryz.prog noTab 20 ((flatC (bodyOf Tryz.f14)).take 2) vsS0 vsAX vsAW where
  lt := by kernel_rfl
  ok := by kernel_rfl
  hook := vs_hooks rfl rfl rfl rfl
  n0 := rfl
  id := by kernel_rfl
  reck := by kernel_rfl
  tab := rfl
  cuts := rfl
  kt := by kernel_rfl
theorem vsB_seg : SegOk Tryz.prog noTab 20 [loopOf (bodyOf Tryz.f14)] vsS vsBX vsBW where
  lt := by kernel_rfl
  ok := by kernel_rfl
  hook := vs_hooks rfl rfl rfl rfl
  n0 := rfl
  id := by kernel_rfl
  reck := by kernel_rfl
  tab := rfl
  cuts := rfl
  kt := by kernel_rfl
theorem vsC_seg : SegOk Tryz.prog noTab 20 ((flatC (bodyOf Tryz.f14)).drop 3) vsS vsCX vsCW where
  lt := by kernel_rfl
  ok := by kernel_rfl
  hook := vs_hooks rfl rfl rfl rfl
  n0 := rfl
  id := by kernel_rfl
  reck := by kernel_rfl
  tab := rfl
  cuts := rfl
  kt := by kernel_rfl
theorem vs_split : flatC (bodyOf Tryz.f14) = (flatC (bodyOf Tryz.f14)).take 2 ++ (Code.block 1 (.loop (loopOf (bodyOf Tryz.f14))) :: (flatC (bodyOf Tryz.f14)).drop 3) := by kernel_rfl

/-- so long as it runs: as many rounds as instructions -/
def vsJ (x : Sig) (σ : Sig) : Prop := 0 ≤ σ.ival 0 ∧ σ.ival 0 ≤ 100000 ∧ σ.ival 3 = σ.ival 0 ∧ σ.ival 4 = σ.ival 0 ∧ ((σ.ival 1 = 0 ∧ σ.ival 2 = σ.ival 0) ∨ (σ.ival 1 = 5 ∧ σ.ival 0 = 100000 ∧ σ.ival 2 = 100001)) ∧ x.ext = σ.ext
def vsJ2 (x : Sig) (σ : Sig) : Prop := σ.ival 0 = 100000 ∧ σ.ival 3 = 100000 ∧ σ.ival 4 = 100000 ∧ σ.ival 1 = 5 ∧ σ.ival 2 = 100001 ∧ x.ext = σ.ext
def vsMu (σ : Sig) : Nat := (100000 - σ.ival 0).toNat + (if σ.ival 1 = 0 then 1 else 0)
theorem vsJ_agree (x : Sig) : ∀ σ τ, Agree 5 σ τ → vsJ x σ → vsJ x τ := fun σ τ ag h => by
  unfold vsJ at h ⊢
  rw [← (ag.val 0 (by decide)).1, ← (ag.val 1 (by decide)).1, ← (ag.val 2 (by decide)).1, ← (ag.val 3 (by decide)).1, ← (ag.val 4 (by decide)).1, ← ag.ext]; exact h
theorem vsJ2_agree (x : Sig) : ∀ σ τ, Agree 5 σ τ → vsJ2 x σ → vsJ2 x τ := fun σ τ ag h => by
  unfold vsJ2 at h ⊢
  rw [← (ag.val 0 (by decide)).1, ← (ag.val 1 (by decide)).1, ← (ag.val 2 (by decide)).1, ← (ag.val 3 (by decide)).1, ← (ag.val 4 (by decide)).1, ← ag.ext]; exact h
theorem vsMu_agree : ∀ σ τ, Agree 5 σ τ → vsMu σ = vsMu τ := fun σ τ ag => by
  unfold vsMu; rw [(ag.val 0 (by decide)).1, (ag.val 1 (by decide)).1]
def vsEnv : TT := .al [(0, .int .i64 100000), (1, .int .i64 5), (2, .int .u64 100001), (3, .int .u64 100000), (4, .int .u64 100000)]
theorem vsEnv_ok {x σ τ : Sig} (h : vsJ2 x σ) : EnvS τ σ vsEnv := by
  obtain ⟨h0, h3, h4, h1, h2, _⟩ := h
  have key : ∀ i a, vsEnv.get i = some a → (i = 0 ∧ a = .int .i64 100000) ∨ (i = 1 ∧ a = .int .i64 5) ∨ (i = 2 ∧ a = .int .u64 100001) ∨ (i = 3 ∧ a = .int .u64 100000) ∨ (i = 4 ∧ a = .int .u64 100000) := by
    intro i a h
    simp only [vsEnv, TT.get, alGet] at h
    split at h
    · rename_i hb; have := Nat.eq_of_beq_eq_true hb; cases h; exact .inl ⟨this.symm, rfl⟩
    split at h
    · rename_i hb; have := Nat.eq_of_beq_eq_true hb; cases h; exact .inr (.inl ⟨this.symm, rfl⟩)
    split at h
    · rename_i hb; have := Nat.eq_of_beq_eq_true hb; cases h; exact .inr (.inr (.inl ⟨this.symm, rfl⟩))
    split at h
    · rename_i hb; have := Nat.eq_of_beq_eq_true hb; cases h; exact .inr (.inr (.inr (.inl ⟨this.symm, rfl⟩)))
    split at h
    · rename_i hb; have := Nat.eq_of_beq_eq_true hb; cases h; exact .inr (.inr (.inr (.inr ⟨this.symm, rfl⟩)))
    · cases h
  refine ⟨fun i a k h hk => ?_, fun i a h hk => ?_, fun i a h hk => ?_⟩
  · rcases key i a h with ⟨rfl, rfl⟩ | ⟨rfl, rfl⟩ | ⟨rfl, rfl⟩ | ⟨rfl, rfl⟩ | ⟨rfl, rfl⟩ <;> (simp only [skOf, Option.some.injEq, SK.i.injEq] at hk; subst hk)
    · rw [h0]; rfl
    · rw [h1]; rfl
    · rw [h2]; rfl
    · rw [h3]; rfl
    · rw [h4]; rfl
  · rcases key i a h with ⟨rfl, rfl⟩ | ⟨rfl, rfl⟩ | ⟨rfl, rfl⟩ | ⟨rfl, rfl⟩ | ⟨rfl, rfl⟩ <;> simp [skOf] at hk
  · rcases key i a h with ⟨rfl, rfl⟩ | ⟨rfl, rfl⟩ | ⟨rfl, rfl⟩ | ⟨rfl, rfl⟩ | ⟨rfl, rfl⟩ <;> simp [skOf] at hk
def vsE2 : Shape := ⟨[(0, .ptr 0 0), (2, .int .i64 0)], sd0.post⟩

theorem vs_contract : SymFOk Tryz.prog noTab (fun _ => True) (entSym sd0) :=
  symF_of_stage Tryz.func14 rfl (n := 20) rfl (by decide) (by decide) rfl rfl (by kernel_rfl) (fun g w hg _ hE hI hpc hH => by
    have hpin : ∀ i, (fraOf g w).pin i ≠ none → i < 6 := fun i hi => by
      obtain ⟨L, hL⟩ := Option.ne_none_iff_exists'.1 hi
      exact (hH.dom i L hL).1
    have last : Stage Tryz.prog noTab 20 (fraOf g w) (bodyPost Tryz.prog Tryz.f14 (MemR noTab (entSym sd0) g w)) ((flatC (bodyOf Tryz.f14)).drop 3) vsS 5 vsK (vsJ2 g.sig) := by
      refine Stage.last mixed vsC_seg ⟨rfl, rfl⟩ (vsJ2_agree g.sig) (fun τ h => rows_nil) (fun τ e ht hi hj => ?_) (fun i hi => (by decide : ∀ i, i < 6 → pinW i vsCW = true) i (hpin i hi))
      intro _
      intro en a w' hx hA
      have hj2 : vsJ2 g.sig (asgS τ ([(3, .symi .u64 3), (4, .symi .u64 4), (0, .symi .i64 0), (1, .symi .i64 1), (2, .symi .u64 2)] ++ [])) := hj
      have hA2 : At noTab vsE2 20 g.sig (fraOf g w) a w' := At.subst hA (vsEnv_ok hj2) hj2.2.2.2.2.2 hg (S2 := vsE2) (by kernel_rfl) (by kernel_rfl)
      exact endZ_mem (e := entSym sd0) (M := 0) (SE := vsE2) (l := []) (vs := [.int .i64 0]) (by kernel_rfl) rfl rfl hH hg rfl rfl (by kernel_rfl) rfl (by kernel_rfl) trivial rfl (.inl rfl) en a w' hx hA2
    have loop : Stage Tryz.prog noTab 20 (fraOf g w) (bodyPost Tryz.prog Tryz.f14 (MemR noTab (entSym sd0) g w)) (Code.block 1 (.loop (loopOf (bodyOf Tryz.f14))) :: (flatC (bodyOf Tryz.f14)).drop 3) vsS 5 vsK (vsJ g.sig) := by
      refine Stage.loop mixed vsB_seg ⟨rfl, rfl⟩ (vsJ_agree g.sig) vsMu_agree (fun τ h => rows_nil) last (fun τ e ht hi hj => ?_) (fun i hi => (by decide : ∀ i, i < 6 → pinW i vsBW = true) i (hpin i hi))
      obtain ⟨j1, j2, j3, j4, j5, j6⟩ := hj
      have e5 : τ.bval 5 = (τ.ival 1 == 0) := eqB (e.at 0 _ rfl rfl) rfl
      refine ⟨fun hF => .inl ⟨rfl, rfl, insOk_kt (X := vsBX) e hi vsB_seg.kt (by kernel_rfl), ?_, ht, ?_⟩, fun hF => .inr (.inl ⟨rfl, rfl, insOk_kt (X := vsBX) e hi vsB_seg.kt (by kernel_rfl), ?_, ht⟩)⟩
      all_goals
        have e6 : τ.ival 6 = IntKind.u64.wrap (τ.ival 2 + 1) := eqI (e.at 1 _ rfl rfl) rfl
        have e7 : τ.bval 7 = decide (τ.ival 0 ≥ 100000) := eqB (e.at 2 _ rfl rfl) rfl
        have e8 : τ.ival 8 = IntKind.u64.wrap (τ.ival 4 + 1) := eqI (e.at 3 _ rfl rfl) rfl
        have e9 : τ.ival 9 = IntKind.u64.wrap (τ.ival 3 + 1) := eqI (e.at 4 _ rfl rfl) rfl
        have e10 : τ.ival 10 = IntKind.i64.wrap (τ.ival 0 + 1) := eqI (e.at 5 _ rfl rfl) rfl
        have e11 : τ.ival 11 = (bif τ.bval 7 then τ.ival 3 else τ.ival 9) := eqIteI (e.at 6 _ rfl rfl) rfl rfl rfl
        have e12 : τ.ival 12 = (bif τ.bval 7 then τ.ival 4 else τ.ival 8) := eqIteI (e.at 7 _ rfl rfl) rfl rfl rfl
        have e13 : τ.ival 13 = (bif τ.bval 7 then τ.ival 0 else τ.ival 10) := eqIteI (e.at 8 _ rfl rfl) rfl rfl rfl
        have e14 : τ.ival 14 = (bif τ.bval 7 then 5 else τ.ival 1) := eqIteI (e.at 9 _ rfl rfl) rfl rfl rfl
        rw [wr_u64] at e6 e8 e9
        rw [wr_i64] at e10
        have h5 : τ.bval 5 = _ := hF.1
        rw [e5] at h5
      · have h1 : τ.ival 1 = 0 := by simpa using h5
        show 0 ≤ τ.ival 13 ∧ τ.ival 13 ≤ 100000 ∧ τ.ival 11 = τ.ival 13 ∧ τ.ival 12 = τ.ival 13 ∧ ((τ.ival 14 = 0 ∧ τ.ival 6 = τ.ival 13) ∨ (τ.ival 14 = 5 ∧ τ.ival 13 = 100000 ∧ τ.ival 6 = 100001)) ∧ g.sig.ext = τ.ext
        by_cases hc : τ.ival 0 ≥ 100000
        · rw [decide_eq_true hc] at e7
          rw [e7] at e11 e12 e13 e14
          simp only [cond_true] at e11 e12 e13 e14
          exact ⟨by omega, by omega, by omega, by omega, .inr ⟨by omega, by omega, by omega⟩, j6⟩
        · rw [decide_eq_false hc] at e7
          rw [e7] at e11 e12 e13 e14
          simp only [cond_false] at e11 e12 e13 e14
          exact ⟨by omega, by omega, by omega, by omega, .inl ⟨by omega, by omega⟩, j6⟩
      · have h1 : τ.ival 1 = 0 := by simpa using h5
        show (100000 - τ.ival 13).toNat + (if τ.ival 14 = 0 then 1 else 0) < (100000 - τ.ival 0).toNat + (if τ.ival 1 = 0 then 1 else 0)
        rw [if_pos h1]
        by_cases hc : τ.ival 0 ≥ 100000
        · rw [decide_eq_true hc] at e7
          rw [e7] at e13 e14
          simp only [cond_true] at e13 e14
          rw [if_neg (by omega)]; omega
        · rw [decide_eq_false hc] at e7
          rw [e7] at e13 e14
          simp only [cond_false] at e13 e14
          rw [if_pos (by omega)]; omega
      · have h1 : τ.ival 1 ≠ 0 := by simpa using h5
        show τ.ival 0 = 100000 ∧ τ.ival 3 = 100000 ∧ τ.ival 4 = 100000 ∧ τ.ival 1 = 5 ∧ τ.ival 2 = 100001 ∧ g.sig.ext = τ.ext
        exact ⟨by omega, by omega, by omega, by omega, by omega, j6⟩
    show Stage _ _ _ _ _ (flatC (bodyOf Tryz.f14)) _ _ _ _
    rw [vs_split]
    refine Stage.seg mixed vsA_seg ⟨rfl, rfl⟩ (fun σ τ ag h => h.trans' ag) (fun τ h => rows_nil) loop (fun τ e ht hi hj => ?_) (fun i hi => (by decide : ∀ i, i < 6 → pinW i vsAW = true) i (hpin i hi))
    intro _
    exact .inl ⟨rfl, rfl, insOk_kt (X := vsAX) e hi vsA_seg.kt (by kernel_rfl), ⟨Int.le_refl 0, (show (0 : Int) ≤ 100000 by decide), rfl, rfl, .inl ⟨rfl, rfl⟩, hj.ext⟩, ht⟩)

theorem sd0_ok : MemFOk Tryz.prog noTab sd0 := memF_of_symF vs_contract (by kernel_rfl)
end
end Go.Proofs.YtipejmklkmccnaaGreat.vmKnown
