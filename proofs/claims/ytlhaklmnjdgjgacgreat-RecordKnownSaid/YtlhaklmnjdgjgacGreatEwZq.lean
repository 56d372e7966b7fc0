/- Calls of literal arguments that are known ahead (each a theorem of its own), also beside other calls that touch memory. -/
import Derived.Test.YtlhaklmnjdgjgacGreatEwZm
namespace Go.Ev
open Go.RowKit
set_option linter.unusedVariables false
set_option linter.unusedSimpArgs false

mutual
def litV : AVal → Bool
  | .bool _ => true
  | .int _ _ => true
  | .str _ => true
  | .nilptr => true
  | .nilslice => true
  | .nilmap => true
  | .niliface => true
  | .agg l => litVs l
  | _ => false
def litVs : List AVal → Bool
  | [] => true
  | a :: l => litV a && litVs l
end

mutual
theorem litV_rel {g g' : Inj} : ∀ {a : AVal} {v : Value}, VRel g a v → litV a = true → VRel g' a v
  | _, _, .bool b, _ => .bool b
  | _, _, .int k n, _ => .int k n
  | _, _, .float _ _, h => by simp [litV] at h
  | _, _, .str s, _ => .str s
  | _, _, .nilptr, _ => .nilptr
  | _, _, .ptr _ _ _ _, h => by simp [litV] at h
  | _, _, .nilslice, _ => .nilslice
  | _, _, .slice _ _ _ _ _ _ _ _ _ _ _ _, h => by simp [litV] at h
  | _, _, .nilmap, _ => .nilmap
  | _, _, .map _ _ _, h => by simp [litV] at h
  | _, _, .nilfunc, h => by simp [litV] at h
  | _, _, .func _ _ _ _ _ _ _, h => by simp [litV] at h
  | _, _, .niliface, _ => .niliface
  | _, _, .iface _ _ _ _, h => by simp [litV] at h
  | _, _, .agg l l' h1, h => .agg l l' (litVs_rel h1 (by simpa [litV] using h))
  | _, _, .tuple _ _ _, h => by simp [litV] at h
  | _, _, .symi _ _, h => by simp [litV] at h
  | _, _, .symb _, h => by simp [litV] at h
  | _, _, .syms _, h => by simp [litV] at h
  | _, _, .row _ _ _ _ _ _ _, h => by simp [litV] at h
  | _, _, .rptr _ _ _ _ _ _ _ _, h => by simp [litV] at h
  | _, _, .yield _ _ _, h => by simp [litV] at h
theorem litVs_rel {g g' : Inj} : ∀ {a : List AVal} {v : List Value}, LRel g a v → litVs a = true → LRel g' a v
  | _, _, .nil, _ => .nil
  | _, _, .cons a v l m h1 h2, h => by
    simp only [litVs, Bool.and_eq_true] at h
    exact .cons a v l m (litV_rel h1 h.1) (litVs_rel h2 h.2)
end

/-- A call of literal arguments: the function, the arguments, and the truth that it gives. -/
structure LitE where
  f : FuncId
  args : List AVal
  b : Bool

def findLit (f : FuncId) (args : List AVal) : List LitE → Option Bool
  | [] => none
  | e :: l => match Nat.beq f e.f with
    | true => match eqVs args e.args with
      | true => some e.b
      | false => findLit f args l
    | false => findLit f args l

theorem findLit_mem {f : FuncId} {args : List AVal} {b : Bool} : ∀ {l : List LitE}, findLit f args l = some b → ∃ e, e ∈ l ∧ e.f = f ∧ e.args = args ∧ e.b = b
  | [], h => by cases h
  | e :: l, h => by
    simp only [findLit] at h
    have rest : findLit f args l = some b → ∃ e', e' ∈ e :: l ∧ e'.f = f ∧ e'.args = args ∧ e'.b = b := fun h =>
      let ⟨x, h1, h2⟩ := findLit_mem h
      ⟨x, List.mem_cons_of_mem _ h1, h2⟩
    split at h
    · rename_i hf
      split at h
      · rename_i ha
        cases h
        exact ⟨e, List.mem_cons_self .., (Nat.eq_of_beq_eq_true hf).symm, (eqVs_eq _ _ ha).symm, rfl⟩
      · exact rest h
    · exact rest h

def litMh (tbl : List LitE) : MHookF := fun _ f args hp =>
  match findLit f args tbl with
  | some b => some (.bool b, hp)
  | none => none

/-- What such an entry says of the program, in a world whose block is as told. -/
def LitOk (P : Program) (blk : Nat) (OK : Obj → Prop) (e : LitE) : Prop :=
  litVs e.args = true ∧ ∀ (w : World) (O : Obj), OK O → w.heap[blk]? = some O → ∀ (g : Inj) (args' : Array Value), LRel g e.args args'.toList → Calls P e.f args' w fun en w' => en = .returned (.bool e.b) ∧ Below w.heap.size w w'

theorem lit_mem {P : Program} {X : Ing} {tbl : List LitE} {blk : Nat} {OK : Obj → Prop} (h : ∀ e, e ∈ tbl → LitOk P blk OK e)
    (hinv : ∀ σ, X.inv σ → OwnInv blk OK σ) (F : List Fact) (f : FuncId) (args : List AVal) (hp : Hp) (v : AVal) (hp' : Hp) (hm : litMh tbl (symS (baseOf X F)) f args hp = some (v, hp')) : CallP P (cxOf X F) f args hp (.val v) hp' := by
  unfold litMh at hm
  split at hm
  · rename_i b hb
    cases hm
    obtain ⟨e, he, rfl, rfl, rfl⟩ := findLit_mem hb
    obtain ⟨_, hc⟩ := h e he
    refine ⟨Touch.refl _, fun g w args' hH hl => ?_⟩
    obtain ⟨O, hO1, hO2⟩ := own_of hH (hinv _ hH.sig.ok.2.inv)
    refine (hc w O hO1 hO2 g args' hl).mono ?_
    rintro en w' ⟨rfl, hB⟩
    obtain ⟨g1, g2⟩ := hH.below hB
    exact ⟨g, ⟨_, rfl, .bool _⟩, g1, g2⟩
  · cases hm

def orMh (a b : MHookF) : MHookF := fun look f args hp =>
  match a look f args hp with
  | some r => some r
  | none => b look f args hp

def isBool (b : Bool) : Tree (Out × Hp) → Bool
  | .leaf x => match x.1 with
    | .val (.bool c) => b == c
    | _ => false
  | .or y n => isBool b y && isBool b n
  | _ => false

theorem isBool_sat {σ : Sig} {b : Bool} : ∀ {T : Tree (Out × Hp)}, isBool b T = true → Sat σ (fun x => x.1 = .val (.bool b)) T
  | .leaf x, h => by
    simp only [isBool] at h
    split at h
    · rename_i c hc
      have : b = c := by simpa using h
      subst this
      exact hc
    · cases h
  | .or y n, h => by
    simp only [isBool, Bool.and_eq_true] at h
    exact ⟨isBool_sat h.1, isBool_sat h.2⟩
  | .node _ _ _, h => by simp [isBool] at h
  | .pick _ _ _ _, h => by simp [isBool] at h
  | .dead, h => by simp [isBool] at h
  | .req _ _, h => by simp [isBool] at h

/-- A call of literal arguments that is reckoned to give a truth, with such calls, in a world whose block is as told. -/
theorem closed_lit {P : Program} {X : Ing} {mb : Bool} {fuel d : Nat} {e : LitE} {blk : Nat} {OK : Obj → Prop} (Y : Obj → Fz) (hX : X.m = 0 ∧ X.G = [] ∧ X.T = .e ∧ X.n = 0 ∧ X.rows = [] ∧ X.cuts = []) (hinv : ∀ O σ, OK O → (σ.ext = fun i => if i = 0 then some (Y O) else none) → X.inv σ)
    (hY : ∀ O (w : World), OK O → w.heap[blk]? = some O → FzOk (Y O) w) (hm : P.follows .mixedOrders = true) (hh : ∀ F, Hooks P (cxOf X F)) (hl : litVs e.args = true) (h : isBool e.b ((evD P (cxOf X) mb fuel d).1 [] e.f e.args ⟨[], []⟩) = true) (hkt : okKt X = true := by exact rfl) : LitOk P blk OK e := by
  refine ⟨hl, fun w O hO hw g0 args' ha => ?_⟩
  obtain ⟨x1, x2, x3, x4, x5, x6⟩ := hX
  let σ : Sig := ⟨fun _ => 0, fun _ => false, fun _ => .empty, X.tab, fun i => if i = 0 then some (Y O) else none⟩
  have hb : BaseOk X σ := ⟨by rw [x2]; intro k d h; simp at h, rfl, fun i k hi _ => by omega, by rw [x5]; exact rows_nil, by rw [x6]; exact cuts_nil, hinv O _ hO rfl, hkt⟩
  have hg := cx_good (X := X) (F := []) (σ := σ) (by rw [x3]; rfl) hb trivial
  have h0 : HRel (cxOf X []) ⟨fun _ => none, σ, fun _ => none⟩ [] w := ⟨fun i L hi => by simp at hi, fun i j L M hi => by simp at hi, fun i k hi => by simp at hi, fun i hi => by have : (cxOf X []).n = 0 := x4; omega, hg,
    ⟨fun i Z hi _ => by have := ext_one (σ := σ) rfl hi; subst this; exact ⟨hY O w hO hw, fun j L hj => by cases hj⟩, fun i Y hi => by cases hi⟩⟩
  refine ((evD_env (mb := mb) (fuel := fuel) hm (cx_ok (by rw [x3]; rfl)) hh d).call [] e.f e.args ⟨[], []⟩ (fun x => x.1 = .val (.bool e.b)) ⟨fun _ => none, σ, fun _ => none⟩ w args' h0 (litVs_rel ha hl) (isBool_sat h)).mono ?_
  rintro en w' ⟨x, hq, _, g', h1, h2, h3⟩
  rw [hq] at h1
  obtain ⟨u, rfl, hu⟩ := h1
  cases hu
  exact ⟨rfl, h3.os, h3.tape, h3.output, h3.size, fun k hk => h3.frame k hk (fun i L hi => by simp at hi)⟩
end Go.Ev
