/- Contexts out of what is known; runs with unknowns. -/
import Derived.Test.YtlhaklmnjdgjgacGreatEwU
namespace Go.Ev

theorem wrap_wrap (k : IntKind) (n : Int) : k.wrap (k.wrap n) = k.wrap n := by
  cases k <;> simp [IntKind.wrap, IntKind.bits, IntKind.signed] <;> (try split) <;> (try split) <;> omega

abbrev TabF := Nat → List Int → Int
def noTab : TabF := fun _ _ => 0
/-- Calls known ahead: by what operations give, and which numbers are within their kinds. -/
abbrev HookF := (SDef → Option AVal) → (Nat → Option IntKind) → FuncId → List AVal → Option AVal
def noHook : HookF := fun _ _ _ _ => none
abbrev MHookF := (SDef → Option AVal) → FuncId → List AVal → Hp → Option (AVal × Hp)
def noMh : MHookF := fun _ _ _ _ => none

def nonIn : List Fact → Nat → Bool
  | [], _ => false
  | x :: F, i => match x with
    | .non j n => match Nat.beq j i with
      | true => match n with
        | .ofNat 0 => true
        | _ => nonIn F i
      | false => nonIn F i
    | _ => nonIn F i

theorem nonIn_spec {σ : Sig} : ∀ {F : List Fact} {i : Nat}, nonIn F i = true → Holds σ F → σ.ival i ≠ 0
  | [], _, h, _ => by simp [nonIn] at h
  | x :: F, i, h, hF => by
    simp only [nonIn] at h
    split at h
    · split at h
      · rename_i hs
        have := Nat.eq_of_beq_eq_true hs
        subst this
        split at h
        · exact hF.1
        · exact nonIn_spec h hF.2
      · exact nonIn_spec h hF.2
    · exact nonIn_spec h hF.2

/-- A row that came in: its length, and some of its elements, by their index. -/
structure RowS where
  len : AVal
  els : List (AVal × List AVal)

/-- kinds, as a tree: 0 at the root, odd ones left, even ones right -/
inductive KdT where
  | e
  | n (l : KdT) (k : Option IntKind) (r : KdT)

def KdT.get : KdT → Nat → Option IntKind
  | .e, _ => none
  | .n l v r, i => match i with
    | 0 => v
    | i + 1 => match Nat.beq (i % 2) 0 with
      | true => l.get (i / 2)
      | false => r.get (i / 2)

/-- What is known of the unknowns: how many came in, of which kinds; the operations; functions; calls; rows. -/
structure Ing where
  n : Nat := 0
  m : Nat
  ins : List (Option IntKind) := []
  G : List SDef
  T : LT
  tab : TabF := noTab
  hook : HookF := noHook
  rows : List RowS := []
  cuts : List (Nat × AVal × Nat) := []
  inv : Sig → Prop := fun _ => True      -- what else is taken of the unknowns
  dk : Nat := 4      -- how deep kinds are looked for
  kb : Nat := 0      -- how many kinds are known at once
  kt : KdT := .e
  mh : MHookF := noMh      -- calls known ahead that touch memory
  atoms : List (Nat × Bool) := []      -- sync/atomic.AddUint64 (true), LoadUint64 (false)
  insf : Option (Nat × Nat) := none      -- slices.Insert, slices.overlaps
  fu : Nat := 1000      -- fuel of pieces (odd: the ways of a region come to one)

def lookF (X : Ing) (F : List Fact) (d : SDef) : Option Nat :=
  match condD d with
  | some j => match nonIn F j with
    | true => lookT d (hashD d) X.T
    | false => none
  | none => lookT d (hashD d) X.T

/-- within its kind, as it is known -/
def inK (kd : Nat → Option IntKind) (k : IntKind) : AVal → Bool
  | .int k' n => decide (k = k') && (k.wrap n == n)
  | .symi k' i => decide (k = k') && (match kd i with
    | some k'' => decide (k = k'')
    | none => false)
  | _ => false

def inKs (kd : Nat → Option IntKind) (k : IntKind) : List AVal → Bool
  | [] => true
  | a :: l => inK kd k a && inKs kd k l

def kdD (kd : Nat → Option IntKind) (d : SDef) : Option IntKind :=
  match condD d with
  | some _ => none
  | none => match d with
    | .bin op a _ => match skOf a with
      | some (.i k) => match op with
        | .add | .sub | .mul | .quo | .and | .or | .xor | .andNot | .shl => some k
        | .rem => match inK kd k a with
          | true => some k
          | false => none
        | _ => none
      | _ => none
    | .conv k _ => some k
    | .fn _ k _ => some k
    | .sop .at _ => some .u8
    | .ite _ a b => match skOf a with
      | some (.i k) => match inK kd k a && inK kd k b with
        | true => some k
        | false => none
      | _ => none
    | .sel l _ => match l with
      | a :: r => match skOf a with
        | some (.i k) => match inKs kd k (a :: r) with
          | true => some k
          | false => none
        | _ => none
      | [] => none
    | _ => none

def kdF (m : Nat) (ins : List (Option IntKind)) (G : List SDef) : Nat → Nat → Option IntKind
  | 0, _ => none
  | n + 1, i => match Nat.blt i m with
    | true => (ins[i]?).getD none
    | false => match G[i - m]? with
      | some d => kdD (kdF m ins G n) d
      | none => none

def Eqs (σ : Sig) (m : Nat) (G : List SDef) : Prop := ∀ k d, G[k]? = some d → (∀ j, condD d = some j → σ.ival j ≠ 0) → evalS σ d = some (den σ (resS d (m + k)))

theorem eqs_solve {m : Nat} {G : List SDef} {σ : Sig} (hG : okG G m = true) : Eqs (solve G m σ) m G := fun _ _ hd hc => solve_good hG hd hc

theorem Eqs.at {σ : Sig} {m : Nat} {G : List SDef} (e : Eqs σ m G) (k : Nat) (d : SDef) (h : G[k]? = some d) (hc : condD d = none) : evalS σ d = some (den σ (resS d (m + k))) := e k d h (fun j hj => by rw [hc] at hj; cases hj)

def InsOk (σ : Sig) (m : Nat) (ins : List (Option IntKind)) : Prop := ∀ (i : Nat) (k : IntKind), i < m → (ins[i]?).getD none = some k → k.wrap (σ.ival i) = σ.ival i

def RowsOk (σ : Sig) (rows : List RowS) : Prop :=
  ∀ i r X, rows[i]? = some r → σ.ext i = some X → den σ r.len = .int .i64 X.len ∧
    ∀ p, p ∈ r.els → ∀ m : Nat, den σ p.1 = .int .i64 m → m < X.len → p.2.length = X.z ∧ ∀ (j : Nat) (c : AVal), p.2[j]? = some c → den σ c = X.val m j

def CutsOk (σ : Sig) (cuts : List (Nat × AVal × Nat)) : Prop :=
  ∀ p, p ∈ cuts → ∀ X, σ.ext p.1 = some X → ∃ Y, σ.ext p.2.2 = some Y ∧ Y.blk = X.blk ∧ Y.off = X.off ∧ Y.len ≤ X.len ∧ den σ p.2.1 = .int .i64 Y.len

theorem rows_nil {σ : Sig} : RowsOk σ [] := fun i r X h => by simp at h
theorem cuts_nil {σ : Sig} : CutsOk σ [] := fun p hp => by cases hp

theorem inK_spec {σ : Sig} {kd : Nat → Option IntKind} (hk : ∀ i k, kd i = some k → k.wrap (σ.ival i) = σ.ival i) {k : IntKind} {a : AVal} (h : inK kd k a = true) : ∃ n, den σ a = .int k n ∧ k.wrap n = n := by
  unfold inK at h
  split at h
  · simp only [Bool.and_eq_true, decide_eq_true_eq, beq_iff_eq] at h
    obtain ⟨rfl, h⟩ := h
    exact ⟨_, rfl, h⟩
  · rename_i k' i
    simp only [Bool.and_eq_true, decide_eq_true_eq] at h
    obtain ⟨rfl, h⟩ := h
    split at h
    · rename_i k'' hi
      simp only [decide_eq_true_eq] at h
      subst h
      exact ⟨_, rfl, hk i _ hi⟩
    · cases h
  · cases h

theorem inKs_spec {kd : Nat → Option IntKind} {k : IntKind} : ∀ {l : List AVal}, inKs kd k l = true → ∀ a, a ∈ l → inK kd k a = true
  | b :: l, h, a, ha => by
    simp only [inKs, Bool.and_eq_true] at h
    rcases List.mem_cons.1 ha with rfl | ha
    · exact h.1
    · exact inKs_spec h.2 a ha

theorem wrap_tmod (k : IntKind) {x : Int} (y : Int) (h : k.wrap x = x) : k.wrap (x.tmod y) = x.tmod y := by
  have hb : (0 ≤ x ∧ 0 ≤ x.tmod y ∧ x.tmod y ≤ x) ∨ (x < 0 ∧ x ≤ x.tmod y ∧ x.tmod y ≤ 0) := by
    have hm : (x.tmod y).natAbs ≤ x.natAbs := by rw [Int.natAbs_tmod]; exact Nat.mod_le _ _
    by_cases h0 : 0 ≤ x
    · have := Int.tmod_nonneg y h0
      exact .inl ⟨h0, this, by omega⟩
    · have h1 : 0 ≤ (-x).tmod y := Int.tmod_nonneg y (by omega)
      rw [Int.neg_tmod] at h1
      exact .inr ⟨by omega, by omega, by omega⟩
  generalize x.tmod y = z at hb
  cases k <;> simp [IntKind.wrap, IntKind.bits, IntKind.signed] at h ⊢ <;> omega

theorem kdD_spec {σ : Sig} {kd : Nat → Option IntKind} (ih : ∀ i k, kd i = some k → k.wrap (σ.ival i) = σ.ival i) {d : SDef} {i : Nat} (he : condD d = none → evalS σ d = some (den σ (resS d i))) {k : IntKind} (h : kdD kd d = some k) : k.wrap (σ.ival i) = σ.ival i := by
  unfold kdD at h
  split at h
  · cases h
  · rename_i hc
    have e := he hc
    split at h
    · rename_i op a b
      split at h
      · rename_i k' ha
        obtain ⟨⟨x, hx⟩, hl⟩ := sk_i ha σ
        have go : ∀ (y : AVal), resS (.bin op a b) i = .symi k' i → (∃ z, evalS σ (.bin op a b) = some (.int k' (k'.wrap z))) → k' = k → k.wrap (σ.ival i) = σ.ival i := by
          rintro y hr ⟨z, hz⟩ rfl
          rw [hr, hz] at e
          simp only [den, Option.some.injEq, AVal.int.injEq, true_and] at e
          rw [← e, wrap_wrap]
        have ev : ∀ v, evalS σ (.bin op a b) = some v → ∃ k2 y, den σ b = .int k2 y := by
          intro v hv
          simp only [evalS, hx] at hv
          generalize den σ b = q at hv
          cases q <;> simp only [binS, reduceCtorEq] at hv
          exact ⟨_, _, rfl⟩
        obtain ⟨k2, y, hy⟩ := ev _ e
        cases op <;> (try simp only [Option.some.injEq, reduceCtorEq] at h)
        case rem =>
          split at h
          · rename_i hin
            cases h
            obtain ⟨n, hn, wn⟩ := inK_spec ih hin
            rw [show resS (.bin .rem a b) i = .symi k i by simp only [resS, hl]] at e
            simp only [evalS, hn, hy, binS, intA] at e
            split at e
            · split at e
              · cases e
              · simp only [den, Option.some.injEq, AVal.int.injEq, true_and] at e
                rw [← e]; exact wrap_tmod k _ wn
            · cases e
          · cases h
        case quo =>
          refine go (.nilptr) (by simp only [resS, hl]) ?_ h
          rw [e]
          simp only [evalS, hx, hy, binS, intA] at e
          split at e
          · split at e
            · cases e
            · rename_i hk _; subst hk; exact ⟨_, by rw [← e]⟩
          · cases e
        case shl =>
          refine go (.nilptr) (by simp only [resS, hl]) ?_ h
          rw [e]
          simp only [evalS, hx, hy, binS, intA] at e
          split at e
          · cases e
          · exact ⟨_, by rw [← e]⟩
        all_goals
          refine go (.nilptr) (by simp only [resS, hl]) ?_ h
          rw [e]
          simp only [evalS, hx, hy, binS, intA] at e
          split at e
          · exact ⟨_, by rw [← e]⟩
          · cases e
      · cases h
    · rename_i k' a
      cases h
      simp only [evalS] at e
      generalize den σ a = q at e
      cases q <;> simp only [convS, resS, den, Option.some.injEq, AVal.int.injEq, true_and, reduceCtorEq] at e
      rw [← e, wrap_wrap]
    · rename_i id k' l
      cases h
      simp only [evalS, resS, den, Option.some.injEq, AVal.int.injEq, true_and] at e
      rw [← e, wrap_wrap]
    · rename_i l
      cases h
      simp only [evalS, resS, den, sopA] at e
      split at e
      · rename_i s k' n _
        simp only [Option.some.injEq, AVal.int.injEq, true_and] at e
        rw [← e]
        generalize s.data.toList.getD n.toNat 0 = c
        have := UInt8.toNat_lt c
        simp [IntKind.wrap, IntKind.bits, IntKind.signed]
        omega
      · cases e
    · rename_i c a b
      split at h
      · rename_i k' ha
        split at h
        · rename_i hh
          cases h
          simp only [Bool.and_eq_true] at hh
          obtain ⟨x, hx, wx⟩ := inK_spec ih hh.1
          obtain ⟨y, hy, wy⟩ := inK_spec ih hh.2
          obtain ⟨_, hl⟩ := sk_i ha σ
          simp only [evalS, resS, hl, hx, hy] at e
          generalize den σ c = q at e
          cases q <;> simp only [reduceCtorEq] at e
          rename_i bb
          cases bb <;> simp only [cond_true, cond_false, den, Option.some.injEq, AVal.int.injEq, true_and] at e
          · rw [← e]; exact wy
          · rw [← e]; exact wx
        · cases h
      · cases h
    · rename_i l ix
      split at h
      · rename_i a r
        split at h
        · rename_i k' ha
          split at h
          · rename_i hh
            cases h
            obtain ⟨_, hl⟩ := sk_i ha σ
            simp only [evalS, resS, hl] at e
            generalize den σ ix = q at e
            cases q <;> simp only [reduceCtorEq] at e
            rename_i k3 z
            have hmem : (a :: r).getD z.toNat a ∈ a :: r := by
              simp only [List.getD_eq_getElem?_getD]
              cases hg : (a :: r)[z.toNat]? with
              | none => simp
              | some c => simpa using List.mem_of_getElem? hg
            obtain ⟨x, hx, wx⟩ := inK_spec ih (inKs_spec hh _ hmem)
            rw [hx] at e
            simp only [den, Option.some.injEq, AVal.int.injEq, true_and] at e
            rw [← e]; exact wx
          · cases h
        · cases h
      · cases h
    · cases h

theorem kdF_spec {σ : Sig} {m : Nat} {ins : List (Option IntKind)} {G : List SDef} (hG : Eqs σ m G) (hi : InsOk σ m ins) : ∀ (n i : Nat) (k : IntKind), kdF m ins G n i = some k → k.wrap (σ.ival i) = σ.ival i
  | 0, _, _, h => by simp [kdF] at h
  | n + 1, i, k, h => by
    have ih := kdF_spec hG hi n
    simp only [kdF] at h
    split at h
    · rename_i hlt; exact hi i k (by rw [Nat.blt_eq] at hlt; exact hlt) h
    · rename_i hge
      have hge : m ≤ i := by
        have : ¬ (i < m) := fun h => by rw [← Nat.blt_eq] at h; rw [h] at hge; cases hge
        omega
      split at h
      · rename_i d hd
        have hmi : m + (i - m) = i := by omega
        exact kdD_spec ih (fun hc => by have e := hG.at (i - m) d hd hc; rwa [hmi] at e) h
      · cases h

/-- of which kinds the unknowns are: as they were reckoned, once -/
def okKs (kt : KdT) : List SDef → Nat → Bool
  | [], _ => true
  | d :: G, i => (match kt.get i with
    | none => true
    | some k => match kdD (fun j => match Nat.blt j i with
        | true => kt.get j
        | false => none) d with
      | some k' => decide (k = k')
      | none => false) && okKs kt G (i + 1)

def okKi (kt : KdT) : List (Option IntKind) → Nat → Bool
  | [], _ => true
  | o :: r, i => (match kt.get i with
    | none => true
    | some k => match o with
      | some k' => decide (k = k')
      | none => false) && okKi kt r (i + 1)

def okKt (X : Ing) : Bool :=
  match X.kb with
  | 0 => true
  | b + 1 => Nat.beq (b + 1) (X.m + X.G.length) && (Nat.beq X.ins.length X.m && (okKi X.kt X.ins 0 && okKs X.kt X.G X.m))

def kdX (X : Ing) (i : Nat) : Option IntKind :=
  match X.kb with
  | 0 => kdF X.m X.ins X.G X.dk i
  | b + 1 => match Nat.blt i (b + 1) with
    | true => X.kt.get i
    | false => none

theorem okKi_spec {kt : KdT} : ∀ {l : List (Option IntKind)} {i : Nat}, okKi kt l i = true → ∀ (j : Nat) (k : IntKind), j < l.length → kt.get (i + j) = some k → (l[j]?).getD none = some k
  | [], _, _, j, k, hj, _ => by simp at hj
  | o :: r, i, h, 0, k, _, hg => by
    simp only [okKi, Bool.and_eq_true] at h
    have h1 := h.1
    rw [Nat.add_zero] at hg
    rw [hg] at h1
    simp only at h1
    split at h1
    · simp only [decide_eq_true_eq] at h1; subst h1; simp
    · cases h1
  | o :: r, i, h, j + 1, k, hj, hg => by
    simp only [okKi, Bool.and_eq_true] at h
    have := okKi_spec h.2 j k (by simpa using hj) (by rw [show i + 1 + j = i + (j + 1) by omega]; exact hg)
    simpa using this

theorem okKs_spec {kt : KdT} : ∀ {G : List SDef} {i : Nat}, okKs kt G i = true → ∀ (j : Nat) (k : IntKind) (d : SDef), G[j]? = some d → kt.get (i + j) = some k → kdD (fun x => match Nat.blt x (i + j) with | true => kt.get x | false => none) d = some k
  | [], _, _, j, k, d, hd, _ => by simp at hd
  | e :: G, i, h, 0, k, d, hd, hg => by
    simp only [List.getElem?_cons_zero, Option.some.injEq] at hd
    subst hd
    simp only [okKs, Bool.and_eq_true] at h
    have h1 := h.1
    rw [Nat.add_zero] at hg ⊢
    rw [hg] at h1
    simp only at h1
    split at h1
    · rename_i k' hk; simp only [decide_eq_true_eq] at h1; subst h1; exact hk
    · cases h1
  | e :: G, i, h, j + 1, k, d, hd, hg => by
    simp only [okKs, Bool.and_eq_true] at h
    have := okKs_spec h.2 j k d (by simpa using hd) (by rw [show i + 1 + j = i + (j + 1) by omega]; exact hg)
    rwa [show i + 1 + j = i + (j + 1) by omega] at this

theorem kdX_spec {σ : Sig} {X : Ing} (hG : Eqs σ X.m X.G) (hi : InsOk σ X.m X.ins) (hk : okKt X = true) : ∀ (i : Nat) (k : IntKind), kdX X i = some k → k.wrap (σ.ival i) = σ.ival i := by
  intro i k h
  unfold kdX at h
  unfold okKt at hk
  cases hb : X.kb with
  | zero => rw [hb] at h; exact kdF_spec hG hi _ i k h
  | succ b =>
    rw [hb] at h hk
    simp only [Bool.and_eq_true] at h hk
    obtain ⟨q1, q2, q3, q4⟩ := hk
    have q1 := Nat.eq_of_beq_eq_true q1
    have q2 := Nat.eq_of_beq_eq_true q2
    split at h
    · rename_i hlt
      have hlt : i < b + 1 := by rw [Nat.blt_eq] at hlt; exact hlt
      clear hb
      induction i using Nat.strongRecOn generalizing k with
      | ind i ih =>
        by_cases him : i < X.m
        · exact hi i k him (okKi_spec q3 i k (by omega) (by rw [Nat.zero_add]; exact h))
        · have hmi : X.m + (i - X.m) = i := by omega
          cases hd : X.G[i - X.m]? with
          | none =>
            have := List.getElem?_eq_none_iff.1 hd
            omega
          | some d =>
            have := okKs_spec q4 (i - X.m) k d hd (by rw [hmi]; exact h)
            rw [hmi] at this
            refine kdD_spec (kd := _) (fun j k' hj => ?_) (fun hc => by have e := hG.at (i - X.m) d hd hc; rwa [hmi] at e) this
            split at hj
            · rename_i hji
              have hji : j < i := by rw [Nat.blt_eq] at hji; exact hji
              exact ih j hji k' (by rw [Nat.blt_eq]; omega) hj (by omega)
            · cases hj
    · cases h

structure BaseOk (X : Ing) (σ : Sig) : Prop where
  eqs : Eqs σ X.m X.G
  tab : σ.tab = X.tab
  ins : InsOk σ X.m X.ins
  rows : RowsOk σ X.rows
  cuts : CutsOk σ X.cuts
  inv : X.inv σ
  kt : okKt X = true

def baseOf (X : Ing) (F : List Fact) : Cx where
  n := X.n
  look := lookF X F
  fact := factIn F
  num := numIn F
  hook := fun _ _ => none
  tab := X.tab
  kd := kdX X
  ok := fun σ => Holds σ F ∧ BaseOk X σ

def rowLenF (rows : List RowS) (i : Nat) : Option AVal :=
  match rows[i]? with
  | some r => some r.len
  | none => none

def findE (ix : AVal) : List (AVal × List AVal) → Option (List AVal)
  | [] => none
  | p :: l => match sameV p.1 ix with
    | true => some p.2
    | false => findE ix l

def isI64 (a : AVal) : Bool :=
  match skOf a with
  | some (.i k) => decide (k = .i64)
  | _ => false

def numA (num : Nat → Option Int) : AVal → Option Int
  | .int _ n => some n
  | .symi _ j => num j
  | _ => none

def rowAtF (look : SDef → Option AVal) (num : Nat → Option Int) (rows : List RowS) (i : Nat) (ix : AVal) : Option (List AVal) :=
  match rows[i]? with
  | some r => match findE ix r.els with
    | some us => match isI64 ix && isI64 r.len with
      | true => match numA num ix, numA num r.len with
        | some a, some b => match decide (0 ≤ a) && decide (a < b) with
          | true => some us
          | false => none
        | _, _ => match look (.bin .leq (.int .i64 0) ix), look (.bin .lss ix r.len) with
          | some (.bool true), some (.bool true) => some us
          | _, _ => none
      | false => none
    | none => none
  | none => none

theorem findE_mem {ix : AVal} : ∀ {l : List (AVal × List AVal)} {us : List AVal}, findE ix l = some us → (ix, us) ∈ l
  | [], _, h => by simp [findE] at h
  | p :: l, us, h => by
    simp only [findE] at h
    split at h
    · rename_i hs
      cases h
      have := sameV_eq hs
      rw [← this]
      simp
    · exact List.mem_cons_of_mem _ (findE_mem h)

theorem isI64_den {a : AVal} (h : isI64 a = true) (σ : Sig) : ∃ x, den σ a = .int .i64 x := by
  unfold isI64 at h
  split at h
  · rename_i k hk
    have := of_decide_eq_true h
    subst this
    exact (sk_i hk σ).1
  · cases h

/-- a row's beginning, where that is known as a row -/
def cutF (cuts : List (Nat × AVal × Nat)) (i : Nat) (a : AVal) : Option Nat :=
  match cuts with
  | [] => none
  | p :: l => match Nat.beq p.1 i && sameV p.2.1 a with
    | true => some p.2.2
    | false => cutF l i a

theorem cutF_mem {i k : Nat} {a : AVal} : ∀ {l : List (Nat × AVal × Nat)}, cutF l i a = some k → (i, a, k) ∈ l
  | [], h => by simp [cutF] at h
  | (x, y, z) :: l, h => by
    simp only [cutF] at h
    split at h
    · rename_i hs
      cases h
      simp only [Bool.and_eq_true] at hs
      have h1 := Nat.eq_of_beq_eq_true hs.1
      have h2 := sameV_eq hs.2
      subst h1; subst h2
      simp
    · exact List.mem_cons_of_mem _ (cutF_mem h)

/-- which operation a string is -/
def sdfG (m : Nat) (G : List SDef) (i : Nat) : Option SDef :=
  match Nat.ble m i with
  | true => match G[i - m]? with
    | some d => match condD d with
      | none => some d
      | some _ => none
    | none => none
  | false => none

theorem sdfG_spec {X : Ing} {σ : Sig} (he : Eqs σ X.m X.G) {i : Nat} {d : SDef} (h : sdfG X.m X.G i = some d) : evalS σ d = some (den σ (resS d i)) := by
  unfold sdfG at h
  split at h
  · rename_i hm
    have hm := Nat.le_of_ble_eq_true hm
    split at h
    · rename_i d' hl
      split at h
      · rename_i hc
        cases h
        have := he.at (i - X.m) _ hl hc
        rw [show X.m + (i - X.m) = i by omega] at this
        exact this
      · cases h
    · cases h
  · cases h

def cxOf (X : Ing) : CxF := fun F => { baseOf X F with hook := X.hook (symS (baseOf X F)) (kdX X), rlen := rowLenF X.rows, rat := rowAtF (symS (baseOf X F)) (numIn F) X.rows, rcut := cutF X.cuts, mhook := X.mh (symS (baseOf X F)), sdf := sdfG X.m X.G, insf := X.insf, atoms := X.atoms }

theorem lookF_spec {X : Ing} {F : List Fact} {σ : Sig} (hT : okLT X.m X.G X.T = true) (hb : BaseOk X σ) (hF : Holds σ F) {d : SDef} {i : Nat} (h : lookF X F d = some i) : evalS σ d = some (den σ (resS d i)) := by
  unfold lookF at h
  split at h
  · rename_i j hj
    split at h
    · rename_i hn
      obtain ⟨k, rfl, hk⟩ := lookT_spec hT h
      exact hb.eqs k d hk (fun j' hj' => by rw [hj] at hj'; cases hj'; exact nonIn_spec hn hF)
    · cases h
  · rename_i hj
    obtain ⟨k, rfl, hk⟩ := lookT_spec hT h
    exact hb.eqs k d hk (fun j' hj' => by rw [hj] at hj'; cases hj')

theorem base_good {X : Ing} {F : List Fact} {σ : Sig} (hT : okLT X.m X.G X.T = true) (hb : BaseOk X σ) (hF : Holds σ F) : (baseOf X F).Good σ :=
  ⟨fun _ _ h => lookF_spec hT hb hF h, fun _ _ h => factIn_spec h hF, fun _ _ h => numIn_spec h hF, hb.tab, fun _ _ _ h => by simp [baseOf] at h, fun _ _ _ _ h => by simp [baseOf] at h, fun _ _ _ _ h => by simp [baseOf] at h,
    fun i k h => kdX_spec hb.eqs hb.ins hb.kt i k h, fun _ _ h => by simp [baseOf] at h, ⟨hF, hb⟩⟩

theorem sym_bool {ng : Cx} {σ : Sig} {d : SDef} {b : Bool} (hg : ng.Good σ) (h : symS ng d = some (.bool true)) (hd : evalS σ d = some (.bool b)) : b = true := by
  obtain ⟨q, h1, h2⟩ := symS_sound (g := ⟨fun _ => none, σ, fun _ => none⟩) hg h
  rw [hd] at h1
  cases h1
  have := h2 (.bool b) (.bool b)
  cases this
  rfl

theorem numA_den {X0 : Ing} {F : List Fact} {σ : Sig} (hb : (baseOf X0 F).Good σ) {a : AVal} {n x : Int} {k : IntKind} (h : numA (numIn F) a = some n) (hx : den σ a = .int k x) : n = x := by
  unfold numA at h
  split at h
  · cases h; simp only [den] at hx; cases hx; rfl
  · rename_i j
    have := hb.num j n h
    simp only [den] at hx; cases hx; exact this.symm
  · cases h

theorem rowAtF_spec {X0 : Ing} {F : List Fact} {rows : List RowS} {σ : Sig} (hb : (baseOf X0 F).Good σ) (hr : RowsOk σ rows) {i : Nat} {a : AVal} {cs : List AVal} {X : Fz}
    (h : rowAtF (symS (baseOf X0 F)) (numIn F) rows i a = some cs) (hX : σ.ext i = some X) : ∃ m : Nat, den σ a = .int .i64 m ∧ m < X.len ∧ cs.length = X.z ∧ ∀ (j : Nat) (c : AVal), cs[j]? = some c → den σ c = X.val m j := by
  unfold rowAtF at h
  split at h
  · rename_i r hri
    split at h
    · rename_i us hus
      split at h
      · rename_i hk
        simp only [Bool.and_eq_true] at hk
        split at h
        · rename_i ia ib na nb
          split at h
          · rename_i hab
            cases h
            simp only [Bool.and_eq_true, decide_eq_true_eq] at hab
            obtain ⟨x, hx⟩ := isI64_den hk.1 σ
            obtain ⟨r1, r2⟩ := hr i r X hri hX
            have e1 := numA_den hb na hx
            have e2 := numA_den hb nb r1
            subst e1
            have hxm : ia = (ia.toNat : Int) := by omega
            have hlt : ia.toNat < X.len := by omega
            obtain ⟨q1, q2⟩ := r2 _ (findE_mem hus) ia.toNat (by rw [← hxm]; exact hx) hlt
            exact ⟨ia.toNat, by rw [← hxm]; exact hx, hlt, q1, q2⟩
          · cases h
        split at h
        · rename_i l0 l1
          cases h
          obtain ⟨x, hx⟩ := isI64_den hk.1 σ
          obtain ⟨r1, r2⟩ := hr i r X hri hX
          have d0 : evalS σ (.bin .leq (.int .i64 0) a) = some (.bool (decide (0 ≤ x))) := by
            have e : den σ (.int .i64 0) = .int .i64 0 := rfl
            simp only [evalS, hx, e, binS, intA, if_true]
          have d1 : evalS σ (.bin .lss a r.len) = some (.bool (decide (x < X.len))) := by
            simp only [evalS, hx, r1, binS, intA, if_true]
          have b0 := of_decide_eq_true (sym_bool hb l0 d0)
          have b1 := of_decide_eq_true (sym_bool hb l1 d1)
          have hxm : x = (x.toNat : Int) := by omega
          have hlt : x.toNat < X.len := by omega
          obtain ⟨q1, q2⟩ := r2 _ (findE_mem hus) x.toNat (by rw [← hxm]; exact hx) hlt
          exact ⟨x.toNat, by rw [← hxm]; exact hx, hlt, q1, q2⟩
        · cases h
      · cases h
    · cases h
  · cases h

theorem cx_good {X : Ing} {F : List Fact} {σ : Sig} (hT : okLT X.m X.G X.T = true) (hb : BaseOk X σ) (hF : Holds σ F) : (cxOf X F).Good σ := by
  refine ⟨fun _ _ h => lookF_spec hT hb hF h, fun _ _ h => factIn_spec h hF, fun _ _ h => numIn_spec h hF, hb.tab, fun i a Y h hX => ?_, fun i a cs Y h hX => rowAtF_spec (base_good hT hb hF) hb.rows h hX, fun i a k Y h hX => hb.cuts _ (cutF_mem h) Y hX,
    fun i k h => kdX_spec hb.eqs hb.ins hb.kt i k h, fun i n h => sdfG_spec hb.eqs h, ⟨hF, hb⟩⟩
  have h : rowLenF X.rows i = some a := h
  unfold rowLenF at h
  split at h
  · rename_i r hri
    cases h
    exact (hb.rows i r Y hri hX).1
  · cases h

theorem cx_ok {X : Ing} (hT : okLT X.m X.G X.T = true) : CtxOk (cxOf X) :=
  ⟨fun _ _ => rfl, fun _ _ h => h.ok.1, fun _ _ _ h hF => cx_good hT h.ok.2 hF⟩

/-! ### Runs -/

/-- A call without addresses: what it ends in. -/
theorem run_call {P : Program} {X : Ing} {mb : Bool} {fuel d : Nat} {f : FuncId} {args : List AVal} {F : List Fact} {σ : Sig} {Q : Out × Hp → Prop} (hm : P.follows .mixedOrders = true) (hT : okLT X.m X.G X.T = true) (hh : ∀ F, Hooks P (cxOf X F)) (h0n : X.n = 0)
    (hz : ∀ i, σ.ext i = none) (hb : BaseOk X σ) (hF : Holds σ F) (h : Sat σ Q ((evD P (cxOf X) mb fuel d).1 F f args ⟨[], []⟩)) {args' : Array Value} (ha : LRel ⟨fun _ => none, σ, fun _ => none⟩ args args'.toList) (w : World) :
    Calls P f args' w fun e w' => ∃ x, Q x ∧ ∃ g', g'.sig = σ ∧ OutRel g' x.1 e ∧ RowKit.Below w.heap.size w w' := by
  have hg := cx_good (X := X) hT hb hF
  have h0 : HRel (cxOf X F) ⟨fun _ => none, σ, fun _ => none⟩ [] w := ⟨fun i L hi => by simp at hi, fun i j L M hi => by simp at hi, fun i k hi => by simp at hi, fun i hi => by have : (cxOf X F).n = 0 := h0n; omega, hg, ⟨fun i Y hi _ => by have hi : σ.ext i = some Y := hi; (rw [hz i] at hi; cases hi), fun i Y hi => by cases hi⟩⟩
  refine ((evD_env (mb := mb) (fuel := fuel) hm (cx_ok hT) hh d).call F f args ⟨[], []⟩ Q ⟨fun _ => none, σ, fun _ => none⟩ w args' h0 ha h).mono ?_
  rintro e w' ⟨x, hq, _, g', h1, h2, h3⟩
  exact ⟨x, hq, g', h3.sub.sig, h1, h3.os, h3.tape, h3.output, h3.size, fun k hk => h3.frame k hk (fun i L hi => by simp at hi)⟩

/-- Trees whose leaves say what the result is; some splits are ahead of the run. -/
inductive Vr where
  | leaf (v : AVal)
  | req (o : Ob) (v : Vr)
  | dead
  | node (i : Nat) (yes no : Vr)
  | pick (i : Nat) (n : Int) (yes no : Vr)
  | or (y n : Vr)

def eqOb : Ob → Ob → Bool
  | .ok, .ok => true
  | .no, .no => true
  | .node i y n, .node j y' n' => Nat.beq i j && (eqOb y y' && eqOb n n')
  | .pick i k y n, .pick j k' y' n' => Nat.beq i j && (decide (k = k') && (eqOb y y' && eqOb n n'))
  | _, _ => false

theorem eqOb_eq : ∀ (a b : Ob), eqOb a b = true → a = b
  | .ok, .ok, _ => rfl
  | .no, .no, _ => rfl
  | .node i y n, .node j y' n', h => by
    simp only [eqOb, Bool.and_eq_true] at h
    rw [Nat.eq_of_beq_eq_true h.1, eqOb_eq _ _ h.2.1, eqOb_eq _ _ h.2.2]
  | .pick i k y n, .pick j k' y' n', h => by
    simp only [eqOb, Bool.and_eq_true, decide_eq_true_eq] at h
    rw [Nat.eq_of_beq_eq_true h.1, h.2.1, eqOb_eq _ _ h.2.2.1, eqOb_eq _ _ h.2.2.2]
  | .ok, .no, h => by simp [eqOb] at h
  | .ok, .node _ _ _, h => by simp [eqOb] at h
  | .ok, .pick _ _ _ _, h => by simp [eqOb] at h
  | .no, .ok, h => by simp [eqOb] at h
  | .no, .node _ _ _, h => by simp [eqOb] at h
  | .no, .pick _ _ _ _, h => by simp [eqOb] at h
  | .node _ _ _, .ok, h => by simp [eqOb] at h
  | .node _ _ _, .no, h => by simp [eqOb] at h
  | .node _ _ _, .pick _ _ _ _, h => by simp [eqOb] at h
  | .pick _ _ _ _, .ok, h => by simp [eqOb] at h
  | .pick _ _ _ _, .no, h => by simp [eqOb] at h
  | .pick _ _ _ _, .node _ _ _, h => by simp [eqOb] at h

def okV : Tree (Out × Hp) → Vr → Bool
  | .leaf x, .leaf v => match x.1 with
    | .val r => idFree r && eqV r v
    | .pan _ => false
  | _, .dead => true
  | .node i y n, .node j y' n' => Nat.beq i j && (okV y y' && okV n n')
  | .pick i k y n, .pick j k' y' n' => Nat.beq i j && (decide (k = k') && (okV y y' && okV n n'))
  | .req o t, .req o' v => eqOb o o' && okV t v
  | .or y n, .or a b => okV y a && okV n b
  | .or y n, v => okV y v && okV n v
  | _, _ => false

/-- What is to be shown of the leaves. -/
def vals (σ : Sig) (Q : AVal → Prop) : Vr → List Fact → Prop
  | .leaf v, F => Holds σ F → Q v
  | .req o v, F => (Holds σ F → o.Sat σ) ∧ vals σ Q v F
  | .dead, F => ¬ Holds σ F
  | .node i y n, F => vals σ Q y (.tru i true :: F) ∧ vals σ Q n (.tru i false :: F)
  | .pick i k y n, F => vals σ Q y (.isn i k :: F) ∧ vals σ Q n (.non i k :: F)
  | .or y n, F => vals σ Q y F ∧ vals σ Q n F

theorem okV_sat {σ : Sig} {Q : AVal → Prop} : ∀ {T : Tree (Out × Hp)} {V : Vr} {F : List Fact}, okV T V = true → vals σ Q V F → Holds σ F → Sat σ (fun x => ∃ v, x.1 = .val v ∧ idFree v = true ∧ Q v) T
  | T, .dead, F, _, hv, hF => absurd hF hv
  | .leaf x, .leaf v, F, h, hv, hF => by
    simp only [okV] at h
    split at h
    · rename_i r hr
      simp only [Bool.and_eq_true] at h
      have := eqV_eq _ _ h.2
      subst this
      exact ⟨r, hr, h.1, hv hF⟩
    · cases h
  | .node i y n, .node j y' n', F, h, hv, hF => by
    simp only [okV, Bool.and_eq_true] at h
    have := Nat.eq_of_beq_eq_true h.1
    subst this
    exact ⟨fun e => okV_sat h.2.1 hv.1 (holds_cons (.tru _ _) e hF), fun e => okV_sat h.2.2 hv.2 (holds_cons (.tru _ _) e hF)⟩
  | .pick i k y n, .pick j k' y' n', F, h, hv, hF => by
    simp only [okV, Bool.and_eq_true, decide_eq_true_eq] at h
    have := Nat.eq_of_beq_eq_true h.1
    subst this
    obtain ⟨rfl, h1, h2⟩ := h.2
    exact ⟨fun e => okV_sat h1 hv.1 (holds_cons (.isn _ _) e hF), fun e => okV_sat h2 hv.2 (holds_cons (.non _ _) e hF)⟩
  | .req o t, .req o' v, F, h, hv, hF => by
    simp only [okV, Bool.and_eq_true] at h
    have := eqOb_eq _ _ h.1
    subst this
    exact ⟨hv.1 hF, okV_sat h.2 hv.2 hF⟩
  | .or y n, .or a b, F, h, hv, hF => by
    simp only [okV, Bool.and_eq_true] at h
    exact ⟨okV_sat h.1 hv.1 hF, okV_sat h.2 hv.2 hF⟩
  | .leaf _, .or _ _, _, h, _, _ => by simp [okV] at h
  | .node _ _ _, .or _ _, _, h, _, _ => by simp [okV] at h
  | .pick _ _ _ _, .or _ _, _, h, _, _ => by simp [okV] at h
  | .req _ _, .or _ _, _, h, _, _ => by simp [okV] at h
  | .dead, .or _ _, _, h, _, _ => by simp [okV] at h
  | .or y n, .leaf v, F, h, hv, hF => by
    simp only [okV, Bool.and_eq_true] at h
    exact ⟨okV_sat h.1 hv hF, okV_sat h.2 hv hF⟩
  | .or y n, .node i a b, F, h, hv, hF => by
    simp only [okV, Bool.and_eq_true] at h
    exact ⟨okV_sat h.1 hv hF, okV_sat h.2 hv hF⟩
  | .or y n, .pick i k a b, F, h, hv, hF => by
    simp only [okV, Bool.and_eq_true] at h
    exact ⟨okV_sat h.1 hv hF, okV_sat h.2 hv hF⟩
  | .or y n, .req o v, F, h, hv, hF => by
    simp only [okV, Bool.and_eq_true] at h
    exact ⟨okV_sat h.1 hv hF, okV_sat h.2 hv hF⟩
  | .leaf _, .node _ _ _, _, h, _, _ => by simp [okV] at h
  | .leaf _, .pick _ _ _ _, _, h, _, _ => by simp [okV] at h
  | .leaf _, .req _ _, _, h, _, _ => by simp [okV] at h
  | .node _ _ _, .leaf _, _, h, _, _ => by simp [okV] at h
  | .node _ _ _, .pick _ _ _ _, _, h, _, _ => by simp [okV] at h
  | .node _ _ _, .req _ _, _, h, _, _ => by simp [okV] at h
  | .pick _ _ _ _, .leaf _, _, h, _, _ => by simp [okV] at h
  | .pick _ _ _ _, .node _ _ _, _, h, _, _ => by simp [okV] at h
  | .pick _ _ _ _, .req _ _, _, h, _, _ => by simp [okV] at h
  | .req _ _, .leaf _, _, h, _, _ => by simp [okV] at h
  | .req _ _, .node _ _ _, _, h, _, _ => by simp [okV] at h
  | .req _ _, .pick _ _ _ _, _, h, _, _ => by simp [okV] at h
  | .dead, .leaf _, _, h, _, _ => by simp [okV] at h
  | .dead, .node _ _ _, _, h, _, _ => by simp [okV] at h
  | .dead, .pick _ _ _ _, _, h, _, _ => by simp [okV] at h
  | .dead, .req _ _, _, h, _, _ => by simp [okV] at h

/-- Splits ahead of runs. -/
inductive Wr' where
  | run (v : Vr)
  | dead
  | node (i : Nat) (yes no : Wr')
  | pick (i : Nat) (n : Int) (yes no : Wr')

def okW (run : List Fact → Tree (Out × Hp)) : Wr' → List Fact → Bool
  | .run v, F => okV (run F) v
  | .dead, _ => true
  | .node i y n, F => okW run y (.tru i true :: F) && okW run n (.tru i false :: F)
  | .pick i k y n, F => okW run y (.isn i k :: F) && okW run n (.non i k :: F)

def valsW (σ : Sig) (Q : AVal → Prop) : Wr' → List Fact → Prop
  | .run v, F => vals σ Q v F
  | .dead, F => ¬ Holds σ F
  | .node i y n, F => valsW σ Q y (.tru i true :: F) ∧ valsW σ Q n (.tru i false :: F)
  | .pick i k y n, F => valsW σ Q y (.isn i k :: F) ∧ valsW σ Q n (.non i k :: F)

theorem okW_sat {σ : Sig} {Q : AVal → Prop} {run : List Fact → Tree (Out × Hp)} : ∀ {W : Wr'} {F : List Fact}, okW run W F = true → valsW σ Q W F → Holds σ F → ∃ F', Holds σ F' ∧ Sat σ (fun x => ∃ v, x.1 = .val v ∧ idFree v = true ∧ Q v) (run F')
  | .run v, F, h, hv, hF => ⟨F, hF, okV_sat h hv hF⟩
  | .dead, _, _, hv, hF => absurd hF hv
  | .node i y n, F, h, hv, hF => by
    simp only [okW, Bool.and_eq_true] at h
    cases hb : σ.bval i with
    | true => exact okW_sat h.1 hv.1 (holds_cons (.tru i true) hb hF)
    | false => exact okW_sat h.2 hv.2 (holds_cons (.tru i false) hb hF)
  | .pick i k y n, F, h, hv, hF => by
    simp only [okW, Bool.and_eq_true] at h
    rcases Classical.em (σ.ival i = k) with hb | hb
    · exact okW_sat h.1 hv.1 (holds_cons (.isn i k) hb hF)
    · exact okW_sat h.2 hv.2 (holds_cons (.non i k) hb hF)

/-- A call with unknowns: what it gives at each leaf. -/
theorem sym_val {P : Program} {X : Ing} {mb : Bool} {fuel d : Nat} {f : FuncId} {args : List AVal} {W : Wr'} {σ : Sig} {Q : AVal → Prop} (hm : P.follows .mixedOrders = true) (hT : okLT X.m X.G X.T = true) (hh : ∀ F, Hooks P (cxOf X F)) (h0n : X.n = 0)
    (hz : ∀ i, σ.ext i = none) (hb : BaseOk X σ) (h : okW (fun F => (evD P (cxOf X) mb fuel d).1 F f args ⟨[], []⟩) W [] = true) (hv : valsW σ Q W []) {args' : Array Value} (ha : LRel ⟨fun _ => none, σ, fun _ => none⟩ args args'.toList) (w : World) :
    Calls P f args' w fun e w' => ∃ v u, e = .returned u ∧ Q v ∧ VRel ⟨fun _ => none, σ, fun _ => none⟩ v u ∧ RowKit.Below w.heap.size w w' := by
  obtain ⟨F, hF, hs⟩ := okW_sat h hv trivial
  refine (run_call hm hT hh h0n hz hb hF hs ha w).mono ?_
  rintro e w' ⟨⟨o, hp⟩, ⟨v, rfl, hf, hq⟩, g', hg, ⟨u, rfl, hu⟩, hB⟩
  exact ⟨v, u, rfl, hq, idFree_rel hg.symm hu hf, hB⟩

/-! ### Closed runs -/

def noIng : Ing := { m := 0, G := [], T := .e }

def isTrue : Tree (Out × Hp) → Bool
  | .leaf x => match x.1 with
    | .val (.bool true) => true
    | _ => false
  | .or y n => isTrue y && isTrue n
  | _ => false

theorem isTrue_sat {σ : Sig} : ∀ {T : Tree (Out × Hp)}, isTrue T = true → Sat σ (fun x => x.1 = .val (.bool true)) T
  | .leaf x, h => by
    simp only [isTrue] at h
    split at h
    · assumption
    · cases h
  | .or y n, h => by
    simp only [isTrue, Bool.and_eq_true] at h
    exact ⟨isTrue_sat h.1, isTrue_sat h.2⟩
  | .node _ _ _, h => by simp [isTrue] at h
  | .pick _ _ _ _, h => by simp [isTrue] at h
  | .dead, h => by simp [isTrue] at h
  | .req _ _, h => by simp [isTrue] at h

/-- A closed call that is reckoned to give true; with calls known ahead. -/
theorem closed_hook {P : Program} {X : Ing} {mb : Bool} {fuel d : Nat} {f : FuncId} (hX : X.m = 0 ∧ X.G = [] ∧ X.T = .e ∧ X.n = 0 ∧ X.rows = [] ∧ X.cuts = []) (hinv : ∀ σ, X.inv σ := by exact fun _ => True.intro) (hkt : okKt X = true := by exact rfl) (hm : P.follows .mixedOrders = true) (hh : ∀ F, Hooks P (cxOf X F)) (h : isTrue ((evD P (cxOf X) mb fuel d).1 [] f [] ⟨[], []⟩) = true) (w : World) :
    Calls P f #[] w fun e w' => e = .returned (.bool true) ∧ RowKit.Below w.heap.size w w' := by
  obtain ⟨x1, x2, x3, x4, x5, x6⟩ := hX
  let σ : Sig := ⟨fun _ => 0, fun _ => false, fun _ => .empty, X.tab, fun _ => none⟩
  have hb : BaseOk X σ := ⟨by rw [x2]; intro k d h; simp at h, rfl, fun i k hi _ => by omega, by rw [x5]; exact rows_nil, by rw [x6]; exact cuts_nil, hinv _, hkt⟩
  refine (run_call (σ := σ) (F := []) hm (by rw [x3]; rfl) hh x4 (fun _ => rfl) hb trivial (isTrue_sat h) (args' := #[]) .nil w).mono ?_
  rintro e w' ⟨x, hq, g', hg, ho, hB⟩
  rw [hq] at ho
  obtain ⟨u, rfl, hu⟩ := ho
  cases hu
  exact ⟨rfl, hB⟩

theorem hooks_of {P : Program} {X : Ing} {F : List Fact} (hmh : X.mh = noMh) (hin : X.insf = none) (hat : X.atoms = []) (h : ∀ f args v, (cxOf X F).hook f args = some v → ∀ hp, CallP P (cxOf X F) f args hp (.val v) hp) : Hooks P (cxOf X F) :=
  ⟨h, fun f args hp v hp' e => by simp only [cxOf, hmh, noMh, reduceCtorEq] at e, fun f k e => by simp only [cxOf, hin, reduceCtorEq] at e, fun k b e => by simp only [cxOf, hat, List.not_mem_nil] at e⟩

theorem no_hooks {P : Program} {X : Ing} (hX : X.hook = noHook) (F : List Fact) (hmh : X.mh = noMh := by rfl) (hin : X.insf = none := by rfl) (hat : X.atoms = [] := by rfl) : Hooks P (cxOf X F) := by
  refine hooks_of hmh hin hat ?_
  intro f args v h
  simp only [cxOf, hX, noHook, reduceCtorEq] at h

end Go.Ev
