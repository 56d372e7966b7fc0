/- What follows from the operations and from what is taken, without any law of numbers: unknowns that are numbers, or others. -/
import Derived.Test.YtgifnmiggloclaaEwZg
namespace Go.Ev
set_option linter.unusedVariables false
set_option linter.unusedSimpArgs false
set_option linter.unnecessarySimpa false

/-- unknown u is what stands there -/
def RepV (σ : Sig) (u : Nat) : AVal → Prop
  | .int _ n => σ.ival u = n
  | .symi _ j => σ.ival u = σ.ival j
  | .bool b => σ.bval u = b
  | .symb j => σ.bval u = σ.bval j
  | _ => True

def RepOk (σ : Sig) (S : TT) : Prop := ∀ u r, S.get u = some r → RepV σ u r

theorem RepOk.put {σ : Sig} {S : TT} (h : RepOk σ S) {u : Nat} {r : AVal} (hr : RepV σ u r) : RepOk σ (S.put u r) := by
  intro v w hv
  rcases TT.get_put _ _ _ _ _ hv with ⟨rfl, rfl⟩ | ⟨_, h2⟩
  · exact hr
  · exact h v w h2

def subA (S : TT) (a : AVal) : AVal :=
  match a with
  | .symi k i => match S.get i with
    | some (.int _ n) => .int k n
    | some (.symi _ j) => .symi k j
    | _ => a
  | .symb i => match S.get i with
    | some (.bool b) => .bool b
    | some (.symb j) => .symb j
    | _ => a
  | _ => a

theorem subA_den {σ : Sig} {S : TT} (h : RepOk σ S) (a : AVal) : den σ (subA S a) = den σ a := by
  unfold subA
  split
  · rename_i k i
    split
    · rename_i k' n hg; simp only [den]; rw [show σ.ival i = n from h _ _ hg]
    · rename_i k' j hg; simp only [den]; rw [show σ.ival i = σ.ival j from h _ _ hg]
    · rfl
  · rename_i i
    split
    · rename_i b hg; simp only [den]; rw [show σ.bval i = b from h _ _ hg]
    · rename_i j hg; simp only [den]; rw [show σ.bval i = σ.bval j from h _ _ hg]
    · rfl
  · rfl

def subL (S : TT) : List AVal → List AVal
  | [] => []
  | a :: l => subA S a :: subL S l

def subP (S : TT) : List (AVal × AVal) → List (AVal × AVal)
  | [] => []
  | a :: l => (subA S a.1, subA S a.2) :: subP S l

theorem subL_den {σ : Sig} {S : TT} (h : RepOk σ S) : ∀ l : List AVal, (subL S l).map (den σ) = l.map (den σ)
  | [] => rfl
  | a :: l => by simp only [subL, List.map_cons, subA_den h, subL_den h l]

theorem subP_den {σ : Sig} {S : TT} (h : RepOk σ S) : ∀ l : List (AVal × AVal), ((subP S l).all fun x => eqS (den σ x.1) (den σ x.2)) = (l.all fun x => eqS (den σ x.1) (den σ x.2))
  | [] => rfl
  | a :: l => by simp only [subP, List.all_cons, subA_den h, subP_den h l]

theorem subL_getD {σ : Sig} {S : TT} (h : RepOk σ S) (l : List AVal) (d : AVal) (n : Nat) : den σ ((subL S l).getD n (subA S d)) = den σ (l.getD n d) := by
  induction l generalizing n with
  | nil => simp [subL, subA_den h]
  | cons a l ih =>
    cases n with
    | zero => simp [subL, subA_den h]
    | succ n => simpa [subL] using ih n

def subD (S : TT) : SDef → SDef
  | .bin o a b => .bin o (subA S a) (subA S b)
  | .un o a => .un o (subA S a)
  | .conv k a => .conv k (subA S a)
  | .low l => .low (subL S l)
  | .high l => .high (subL S l)
  | .all l => .all (subP S l)
  | .text l => .text (subL S l)
  | .fn i k l => .fn i k (subL S l)
  | .fnb i l => .fnb i (subL S l)
  | .ite c a b => .ite (subA S c) (subA S a) (subA S b)
  | .sel l a => .sel (subL S l) (subA S a)
  | .sop o l => .sop o (subL S l)

theorem subD_eval {σ : Sig} {S : TT} (h : RepOk σ S) (d : SDef) : evalS σ (subD S d) = evalS σ d := by
  cases d <;> simp only [subD, evalS, subA_den h, subL_den h, subP_den h]
  · rename_i l
    have e : ∀ l : List AVal, (l.map fun a => byteS (den σ a)) = (l.map (den σ)).map byteS := fun l => by simp
    rw [e, e, subL_den h]
  · rename_i l
    have e : ∀ l : List AVal, (l.map fun a => numS (den σ a)) = (l.map (den σ)).map numS := fun l => by simp
    rw [e, e, subL_den h]
  · rename_i l
    have e : ∀ l : List AVal, (l.map fun a => numS (den σ a)) = (l.map (den σ)).map numS := fun l => by simp
    rw [e, e, subL_den h]
  · rename_i l a
    cases l with
    | nil => rfl
    | cons b r =>
      cases den σ a with
      | int k n => simp only [subL]; rw [show subA S b :: subL S r = subL S (b :: r) from rfl, subL_getD h]
      | _ => rfl

def allT : List (AVal × AVal) → Bool
  | [] => true
  | a :: l => match eqV a.1 a.2 with
    | true => match skOf a.1 with
      | some _ => allT l
      | none => false
    | false => false

theorem skOf_eqS {a : AVal} {k : SK} (h : skOf a = some k) (σ : Sig) : eqS (den σ a) (den σ a) = true := by
  cases a <;> simp only [skOf, reduceCtorEq] at h <;> simp [den, eqS]

theorem allT_spec {σ : Sig} : ∀ {l : List (AVal × AVal)}, allT l = true → (l.all fun x => eqS (den σ x.1) (den σ x.2)) = true
  | [], _ => rfl
  | (a, b) :: l, h => by
    simp only [allT] at h
    split at h
    · rename_i he
      have := eqV_eq _ _ he
      subst this
      split at h
      · rename_i k hk
        simp only [List.all_cons, skOf_eqS hk, allT_spec h, Bool.and_self]
      · cases h
    · cases h

/-- two numbers that are told as different -/
def litNe : AVal → AVal → Bool
  | .int _ a, .int _ b => !(a == b)
  | .bool a, .bool b => !(a == b)
  | _, _ => false

def anyNe : List (AVal × AVal) → Bool
  | [] => false
  | a :: l => litNe a.1 a.2 || anyNe l

theorem anyNe_spec {σ : Sig} : ∀ {l : List (AVal × AVal)}, anyNe l = true → (l.all fun x => eqS (den σ x.1) (den σ x.2)) = false
  | [], h => by simp [anyNe] at h
  | (a, b) :: l, h => by
    simp only [anyNe, Bool.or_eq_true] at h
    simp only [List.all_cons, Bool.and_eq_false_iff]
    rcases h with h | h
    · left
      unfold litNe at h
      split at h <;> simp_all [den, eqS]
    · right; exact anyNe_spec h

def isLits : List AVal → Bool
  | [] => true
  | a :: l => isLit a && isLits l

theorem isLit_den {σ : Sig} {a : AVal} (h : isLit a = true) : den σ a = a := by
  cases a <;> simp only [isLit, Bool.false_eq_true] at h <;> rfl

theorem isLits_den {σ : Sig} : ∀ {l : List AVal}, isLits l = true → l.map (den σ) = l
  | [], _ => rfl
  | a :: l, h => by
    simp only [isLits, Bool.and_eq_true] at h
    simp only [List.map_cons, isLit_den h.1, isLits_den h.2]

/-- a literal, or nothing -/
def litO (v : Option AVal) : Option AVal :=
  match v with
  | some a => match isLit a with
    | true => some a
    | false => none
  | none => none

theorem litO_spec {v : Option AVal} {a : AVal} (h : litO v = some a) : v = some a ∧ isLit a = true := by
  unfold litO at h
  split at h
  · split at h
    · rename_i hl; cases h; exact ⟨rfl, hl⟩
    · cases h
  · cases h

/-- an operation that is known at once -/
def foldD : SDef → Option AVal
  | .bin op a b => match isLit a && isLit b with
    | true => litO (binS op a b)
    | false => match eqV a b with
      | true => match skOf a with
        | some .s => none
        | some _ => match op with
          | .eql => some (.bool true)
          | .neq => some (.bool false)
          | _ => none
        | none => none
      | false => none
  | .un op a => match isLit a with
    | true => litO (unA op a)
    | false => none
  | .conv k a => match isLit a with
    | true => litO (convS k a)
    | false => none
  | .low l => match isLits l with
    | true => litO (minA l)
    | false => none
  | .high l => match isLits l with
    | true => litO (maxA l)
    | false => none
  | .all l => match allT l with
    | true => some (.bool true)
    | false => match anyNe l with
      | true => some (.bool false)
      | false => none
  | .ite c a b => match c with
    | .bool true => some a
    | .bool false => some b
    | .symb _ => match eqV a b with
      | true => some a
      | false => none
    | _ => none
  | .sel l ix => match ix with
    | .int _ n => match l with
      | a :: r => some ((a :: r).getD n.toNat a)
      | [] => none
    | _ => none
  | _ => none

theorem foldD_spec {σ : Sig} {d : SDef} {a : AVal} (h : foldD d = some a) : evalS σ d = some (den σ a) := by
  unfold foldD at h
  split at h
  · rename_i op x y
    split at h
    · rename_i hl
      simp only [Bool.and_eq_true] at hl
      obtain ⟨h1, h2⟩ := litO_spec h
      simp only [evalS, isLit_den hl.1, isLit_den hl.2, isLit_den h2, h1]
    · split at h
      · rename_i he
        have := eqV_eq _ _ he
        subst this
        split at h
        · cases h
        · rename_i k hk1 hk
          split at h
          · cases h
            cases x <;> simp only [skOf, reduceCtorEq, Option.some.injEq] at hk <;> first
              | (simp [evalS, den, binS, intA]; done)
              | (exfalso; exact hk1 hk.symm)
          · cases h
            cases x <;> simp only [skOf, reduceCtorEq, Option.some.injEq] at hk <;> first
              | (simp [evalS, den, binS, intA]; done)
              | (exfalso; exact hk1 hk.symm)
          · cases h
        · cases h
      · cases h
  · rename_i op x
    split at h
    · rename_i hl
      obtain ⟨h1, h2⟩ := litO_spec h
      simp only [evalS, isLit_den hl, isLit_den h2, h1]
    · cases h
  · rename_i k x
    split at h
    · rename_i hl
      obtain ⟨h1, h2⟩ := litO_spec h
      simp only [evalS, isLit_den hl, isLit_den h2, h1]
    · cases h
  · rename_i l
    split at h
    · rename_i hl
      obtain ⟨h1, h2⟩ := litO_spec h
      simp only [evalS, isLits_den hl, isLit_den h2, h1]
    · cases h
  · rename_i l
    split at h
    · rename_i hl
      obtain ⟨h1, h2⟩ := litO_spec h
      simp only [evalS, isLits_den hl, isLit_den h2, h1]
    · cases h
  · rename_i l
    split at h
    · rename_i hl
      cases h
      simp only [evalS]; rw [allT_spec hl]; rfl
    · split at h
      · rename_i hl
        cases h
        simp only [evalS]; rw [anyNe_spec hl]; rfl
      · cases h
  · rename_i c x y
    split at h
    · cases h; simp [evalS, den]
    · cases h; simp [evalS, den]
    · split at h
      · rename_i he
        have := eqV_eq _ _ he
        subst this
        cases h
        simp [evalS, den]
      · cases h
    · cases h
  · rename_i l ix
    split at h
    · split at h
      · cases h; simp [evalS, den]
      · cases h
    · cases h
  · cases h

/-! ### Operations that were met already -/

inductive KT where
  | e
  | n (l : KT) (h : Nat) (d : SDef) (a : AVal) (r : KT)

def KT.find (d : SDef) (h : Nat) : KT → Option AVal
  | .e => none
  | .n l k x a r => match Nat.beq h k with
    | true => match sameD x d with
      | true => some a
      | false => r.find d h
    | false => match Nat.blt h k with
      | true => l.find d h
      | false => r.find d h

def KT.ins (d : SDef) (h : Nat) (v : AVal) : KT → KT
  | .e => .n .e h d v .e
  | .n l k x a r => match Nat.blt h k with
    | true => .n (l.ins d h v) k x a r
    | false => .n l k x a (r.ins d h v)

def KT.Ok (σ : Sig) : KT → Prop
  | .e => True
  | .n l _ d a r => l.Ok σ ∧ evalS σ d = some (den σ a) ∧ r.Ok σ

theorem KT.find_ok {σ : Sig} {d : SDef} {h : Nat} {v : AVal} : ∀ {t : KT}, t.Ok σ → t.find d h = some v → evalS σ d = some (den σ v)
  | .e, _, hf => by simp [KT.find] at hf
  | .n l k x a r, ho, hf => by
    obtain ⟨h1, h2, h3⟩ := ho
    simp only [KT.find] at hf
    split at hf
    · split at hf
      · rename_i hs; cases hf; rw [← sameD_eq hs]; exact h2
      · exact KT.find_ok h3 hf
    · split at hf
      · exact KT.find_ok h1 hf
      · exact KT.find_ok h3 hf

theorem KT.ins_ok {σ : Sig} {d : SDef} {h : Nat} {v : AVal} (hv : evalS σ d = some (den σ v)) : ∀ {t : KT}, t.Ok σ → (t.ins d h v).Ok σ
  | .e, _ => ⟨trivial, hv, trivial⟩
  | .n l k x a r, ho => by
    obtain ⟨h1, h2, h3⟩ := ho
    simp only [KT.ins]
    split
    · exact ⟨KT.ins_ok hv h1, h2, h3⟩
    · exact ⟨h1, h2, KT.ins_ok hv h3⟩

/-! ### All operations -/

structure St where
  S : TT
  bad : Bool

structure St.Ok (σ : Sig) (x : St) : Prop where
  rep : RepOk σ x.S
  bad : x.bad = true → False

/-- what an unknown is told as, twice -/
def clash : AVal → AVal → Bool
  | .int _ a, .int _ b => !(a == b)
  | .bool a, .bool b => !(a == b)
  | _, _ => false

theorem clash_ok {σ : Sig} {u : Nat} {a b : AVal} (h : clash a b = true) (ha : RepV σ u a) (hb : RepV σ u b) : False := by
  unfold clash at h
  split at h
  · simp only [RepV] at ha hb; rw [ha] at hb; subst hb; simp at h
  · simp only [RepV] at ha hb; rw [ha] at hb; subst hb; simp at h
  · cases h

def linkS (x : St) (i : Nat) (a : AVal) : St :=
  match x.S.get i with
  | some r => match clash r a with
    | true => ⟨x.S, true⟩
    | false => x
  | none => ⟨x.S.put i a, x.bad⟩

theorem linkS_ok {σ : Sig} {x : St} {i : Nat} {a : AVal} (h : x.Ok σ) (ha : RepV σ i a) : (linkS x i a).Ok σ := by
  unfold linkS
  split
  · rename_i r hr
    split
    · rename_i hc; exact ⟨h.rep, fun _ => clash_ok hc (h.rep _ _ hr) ha⟩
    · exact h
  · exact ⟨h.rep.put ha, h.bad⟩

def symOf (i : Nat) (r : AVal) : Prop := (∃ k, r = .symi k i) ∨ r = .symb i ∨ r = .syms i

theorem symOf_like (a : AVal) (i : Nat) : symOf i (likeS a i) := by
  cases a <;> first | exact .inl ⟨_, rfl⟩ | exact .inr (.inl rfl) | exact .inr (.inr rfl)

theorem resS_cases (d : SDef) (i : Nat) : symOf i (resS d i) := by
  cases d with
  | bin op a b => cases op <;> first | exact symOf_like a i | exact .inr (.inl rfl)
  | un op a => exact symOf_like a i
  | conv k a => exact .inl ⟨_, rfl⟩
  | low l => cases l <;> first | exact .inr (.inl rfl) | exact symOf_like _ i
  | high l => cases l <;> first | exact .inr (.inl rfl) | exact symOf_like _ i
  | all l => exact .inr (.inl rfl)
  | text l => exact .inr (.inr rfl)
  | fn i k l => exact .inl ⟨_, rfl⟩
  | fnb i l => exact .inr (.inl rfl)
  | ite c a b => exact symOf_like a i
  | sel l a => cases l <;> first | exact .inr (.inl rfl) | exact symOf_like _ i
  | sop o l => cases o <;> first | exact .inl ⟨_, rfl⟩ | exact .inr (.inr rfl)

theorem rep_of {σ : Sig} {d : SDef} {i : Nat} {a : AVal} (h : den σ (resS d i) = den σ a) : RepV σ i a := by
  rcases resS_cases d i with ⟨k, e⟩ | e | e <;> rw [e] at h <;> cases a <;> simp only [den, AVal.int.injEq, AVal.bool.injEq, reduceCtorEq] at h <;> simp only [RepV] <;> first
    | exact h.2
    | exact h
    | trivial

def stepR (x : St × KT) (i : Nat) (d : SDef) : St × KT :=
  match condD d with
  | some _ => x
  | none => match foldD (subD x.1.S d) with
    | some a => (linkS x.1 i a, x.2)
    | none => match x.2.find (subD x.1.S d) (hashD (subD x.1.S d)) with
      | some a => (linkS x.1 i a, x.2)
      | none => (x.1, x.2.ins (subD x.1.S d) (hashD (subD x.1.S d)) (subA x.1.S (resS d i)))

theorem stepR_ok {σ : Sig} {x : St × KT} {i : Nat} {d : SDef} (h : x.1.Ok σ) (hk : x.2.Ok σ) (he : condD d = none → evalS σ d = some (den σ (resS d i))) : (stepR x i d).1.Ok σ ∧ (stepR x i d).2.Ok σ := by
  unfold stepR
  split
  · exact ⟨h, hk⟩
  · rename_i hc
    have he := he hc
    rw [← subD_eval h.rep] at he
    split
    · rename_i a ha
      have := foldD_spec (σ := σ) ha
      rw [he, Option.some.injEq] at this
      exact ⟨linkS_ok h (rep_of this), hk⟩
    · split
      · rename_i a ha
        have := KT.find_ok hk ha
        rw [he, Option.some.injEq] at this
        exact ⟨linkS_ok h (rep_of this), hk⟩
      · exact ⟨h, KT.ins_ok (by rw [subA_den h.rep]; exact he) hk⟩

def runR : List SDef → Nat → St × KT → St × KT
  | [], _, x => x
  | d :: G, i, x => runR G (i + 1) (stepR x i d)

theorem runR_ok {σ : Sig} : ∀ {G : List SDef} {i : Nat} {x : St × KT}, x.1.Ok σ → x.2.Ok σ → (∀ k d, G[k]? = some d → condD d = none → evalS σ d = some (den σ (resS d (i + k)))) → (runR G i x).1.Ok σ
  | [], _, _, h, _, _ => h
  | d :: G, i, x, h, hk, he => by
    obtain ⟨h1, h2⟩ := stepR_ok (i := i) (d := d) h hk (he 0 d rfl)
    refine runR_ok (G := G) (i := i + 1) h1 h2 (fun k e hke hc => ?_)
    have := he (k + 1) e (by simpa using hke) hc
    rw [show i + 1 + k = i + (k + 1) by omega]; exact this

/-! ### What is taken: facts, and what they come of -/

def learn (m : Nat) (G : List SDef) : Nat → TT → Nat → Bool → TT
  | 0, S, i, b => S.put i (.bool b)
  | n + 1, S, i, b => match Nat.ble m i with
    | true => match G[i - m]? with
      | some (.bin .eql (.symi k a) (.int k' x)) => match b && decide (k = k') with
        | true => (S.put i (.bool b)).put a (.int k x)
        | false => S.put i (.bool b)
      | some (.bin .neq (.symi k a) (.int k' x)) => match !b && decide (k = k') with
        | true => (S.put i (.bool b)).put a (.int k x)
        | false => S.put i (.bool b)
      | some (.un .not (.symb a)) => learn m G n (S.put i (.bool b)) a (!b)
      | some (.ite (.symb c) (.symb y) (.bool false)) => match b with
        | true => learn m G n (learn m G n (S.put i (.bool b)) c true) y true
        | false => S.put i (.bool b)
      | some (.ite (.symb c) (.bool true) (.symb y)) => match b with
        | false => learn m G n (learn m G n (S.put i (.bool b)) c false) y false
        | true => S.put i (.bool b)
      | _ => S.put i (.bool b)
    | false => S.put i (.bool b)

theorem learn_ok {σ : Sig} {m : Nat} {G : List SDef} (hG : Eqs σ m G) : ∀ {n : Nat} {S : TT} {i : Nat} {b : Bool}, RepOk σ S → σ.bval i = b → RepOk σ (learn m G n S i b)
  | 0, S, i, b, h, hb => h.put hb
  | n + 1, S, i, b, h, hb => by
    have hp := h.put (u := i) (r := .bool b) hb
    unfold learn
    split
    · rename_i hle
      have hle : m ≤ i := by simpa using hle
      have him : m + (i - m) = i := by omega
      split
      · rename_i k a k' x hg
        split
        · rename_i hc
          simp only [Bool.and_eq_true, decide_eq_true_eq] at hc
          obtain ⟨rfl, rfl⟩ := hc
          have := hG.at _ _ hg rfl
          rw [him] at this
          simp only [evalS, den, binS, intA, resS, if_true, Option.some.injEq, AVal.bool.injEq, hb] at this
          refine hp.put ?_
          show σ.ival a = x
          simpa using this
        · exact hp
      · rename_i k a k' x hg
        split
        · rename_i hc
          simp only [Bool.and_eq_true, Bool.not_eq_true', decide_eq_true_eq] at hc
          obtain ⟨rfl, rfl⟩ := hc
          have := hG.at _ _ hg rfl
          rw [him] at this
          simp only [evalS, den, binS, intA, resS, if_true, Option.some.injEq, AVal.bool.injEq, hb] at this
          refine hp.put ?_
          show σ.ival a = x
          simpa using this
        · exact hp
      · rename_i a hg
        have := hG.at _ _ hg rfl
        rw [him] at this
        simp only [evalS, den, unA, resS, likeS, Option.some.injEq, AVal.bool.injEq, hb] at this
        exact learn_ok hG hp (by rw [← this]; simp)
      · rename_i c y hg
        split
        · have := hG.at _ _ hg rfl
          rw [him] at this
          simp only [evalS, den, resS, likeS, Option.some.injEq, hb] at this
          cases hc : σ.bval c with
          | true =>
            rw [hc] at this
            simp only [cond_true, AVal.bool.injEq] at this
            exact learn_ok hG (learn_ok hG hp hc) this
          | false =>
            rw [hc] at this
            simp only [cond_false, AVal.bool.injEq] at this
            cases this
        · exact hp
      · rename_i c y hg
        split
        · have := hG.at _ _ hg rfl
          rw [him] at this
          simp only [evalS, den, resS, likeS, Option.some.injEq, hb] at this
          cases hc : σ.bval c with
          | false =>
            rw [hc] at this
            simp only [cond_false, AVal.bool.injEq] at this
            exact learn_ok hG (learn_ok hG hp hc) this
          | true =>
            rw [hc] at this
            simp only [cond_true, AVal.bool.injEq] at this
            cases this
        · exact hp
      · exact hp
    · exact hp

def factsS (m : Nat) (G : List SDef) : List Fact → TT → TT
  | [], S => S
  | x :: F, S => match x with
    | .tru i b => learn m G 8 (factsS m G F S) i b
    | .isn i n => (factsS m G F S).put i (.int .i64 n)
    | .non _ _ => factsS m G F S

theorem factsS_ok {σ : Sig} {m : Nat} {G : List SDef} (hG : Eqs σ m G) : ∀ {F : List Fact} {S : TT}, Holds σ F → RepOk σ S → RepOk σ (factsS m G F S)
  | [], _, _, h => h
  | .tru i b :: F, S, hF, h => learn_ok hG (factsS_ok (F := F) hG hF.2 h) hF.1
  | .isn i n :: F, S, hF, h => (factsS_ok (F := F) hG hF.2 h).put hF.1
  | .non i n :: F, S, hF, h => factsS_ok (F := F) hG hF.2 h

/-- All that is known, with what is taken. -/
def mkSt (m : Nat) (G : List SDef) (F : List Fact) : St := (runR G m (⟨factsS m G F (TT.skel (m + G.length) 12 0 1), false⟩, .e)).1

theorem mkSt_ok {σ : Sig} {m : Nat} {G : List SDef} (hG : Eqs σ m G) {F : List Fact} (hF : Holds σ F) : (mkSt m G F).Ok σ := by
  refine runR_ok (σ := σ) ⟨factsS_ok hG hF (fun u r h => by rw [TT.get_skel] at h; cases h), fun h => by cases h⟩ trivial (fun k d hk hc => hG.at k d hk hc)

def sameF : Fact → Fact → Bool
  | .tru i b, .tru j c => Nat.beq i j && (b == c)
  | .isn i n, .isn j k => Nat.beq i j && (n == k)
  | .non i n, .non j k => Nat.beq i j && (n == k)
  | _, _ => false

theorem sameF_eq {a b : Fact} (h : sameF a b = true) : a = b := by
  unfold sameF at h
  split at h
  · simp only [Bool.and_eq_true, beq_iff_eq] at h; rw [Nat.eq_of_beq_eq_true h.1, h.2]
  · simp only [Bool.and_eq_true, beq_iff_eq] at h; rw [Nat.eq_of_beq_eq_true h.1, h.2]
  · simp only [Bool.and_eq_true, beq_iff_eq] at h; rw [Nat.eq_of_beq_eq_true h.1, h.2]
  · cases h

def hasF (x : Fact) : List Fact → Bool
  | [] => false
  | y :: F => sameF y x || hasF x F

theorem hasF_ok {σ : Sig} {x : Fact} : ∀ {F : List Fact}, hasF x F = true → Holds σ F → x.holds σ
  | [], h, _ => by simp [hasF] at h
  | y :: F, h, hF => by
    simp only [hasF, Bool.or_eq_true] at h
    rcases h with h | h
    · rw [← sameF_eq h]; exact hF.1
    · exact hasF_ok h hF.2

def hasFs (F : List Fact) : List Fact → Bool
  | [] => true
  | x :: l => hasF x F && hasFs F l

theorem hasFs_ok {σ : Sig} {F : List Fact} : ∀ {l : List Fact}, hasFs F l = true → Holds σ F → Holds σ l
  | [], _, _ => trivial
  | x :: l, h, hF => by
    simp only [hasFs, Bool.and_eq_true] at h
    exact ⟨hasF_ok h.1 hF, hasFs_ok h.2 hF⟩

/-- what follows from rules -/
def rulesF (F : List Fact) : List (List Fact × Fact) → List Fact
  | [] => []
  | p :: K => match hasFs F p.1 with
    | true => p.2 :: rulesF F K
    | false => rulesF F K

def Rules (σ : Sig) (K : List (List Fact × Fact)) : Prop := ∀ p, p ∈ K → Holds σ p.1 → p.2.holds σ

theorem rulesF_ok {σ : Sig} {F : List Fact} (hF : Holds σ F) : ∀ {K : List (List Fact × Fact)}, Rules σ K → Holds σ (rulesF F K)
  | [], _ => trivial
  | p :: K, h => by
    simp only [rulesF]
    have hr : Rules σ K := fun q hq => h q (by simp [hq])
    split
    · rename_i hb; exact ⟨h p (by simp) (hasFs_ok hb hF), rulesF_ok hF hr⟩
    · exact rulesF_ok hF hr

theorem holds_app {σ : Sig} : ∀ {F K : List Fact}, Holds σ F → Holds σ K → Holds σ (F ++ K)
  | [], _, _, hK => hK
  | _ :: _, _, hF, hK => ⟨hF.1, holds_app hF.2 hK⟩

/-! ### What is left to be shown of a tree of ends -/

inductive Rem where
  | dead (F : List Fact)
  | leaf (x : SEx) (s : Shape) (l : Asg) (F : List Fact)
  | ob (o : Ob) (F : List Fact)

def Rem.Ok (σ : Sig) (Q : SEx → Shape → Sig → Prop) : Rem → Prop
  | .dead F => ¬ Holds σ F
  | .leaf x s l F => Holds σ F → Q x s (asgS σ l)
  | .ob o F => Holds σ F → o.Sat σ

def subG (S : TT) : Asg → Asg
  | [] => []
  | p :: l => (p.1, subA S p.2) :: subG S l

theorem findAs_sub {S : TT} : ∀ (l : Asg) (i : Nat), findAs (subG S l) i = (findAs l i).map (subA S)
  | [], _ => rfl
  | p :: l, i => by
    simp only [subG, findAs]
    split
    · rfl
    · exact findAs_sub l i

theorem valS_sub {σ : Sig} {S : TT} (h : RepOk σ S) (a : AVal) : valS σ (subA S a) = valS σ a := by
  have hp : ∀ x, notPtr x = true → valS σ x = den σ x := fun x hx => valS_plain hx
  by_cases ha : notPtr a = true
  · have hs : notPtr (subA S a) = true := by
      unfold subA
      split
      · split <;> rfl
      · split <;> rfl
      · exact ha
    rw [hp _ hs, hp _ ha, subA_den h]
  · cases a <;> simp [notPtr] at ha
    rfl

theorem asgS_sub {σ : Sig} {S : TT} (h : RepOk σ S) (l : Asg) : asgS σ (subG S l) = asgS σ l := by
  unfold asgS
  congr 1 <;> funext i <;> rw [findAs_sub] <;> cases findAs l i <;> simp [valS_sub h]

/-- unknowns that come twice are the same -/
def eqsB (S : TT) (l : Asg) : List (Nat × AVal) → Bool
  | [] => true
  | p :: r => match findAs l p.1 with
    | some y => match sameV p.2 y with
      | true => eqsB S l r
      | false => sameV (subA S p.2) (subA S y) && eqsB S l r
    | none => eqsB S l r

theorem eqsB_ok {σ : Sig} {S : TT} (h : RepOk σ S) {l : Asg} : ∀ {r : List (Nat × AVal)}, eqsB S l r = true → EqsL σ l r
  | [], _ => trivial
  | p :: r, hb => by
    simp only [eqsB] at hb
    simp only [EqsL]
    split at hb
    · rename_i y hy
      simp only [hy]
      split at hb
      · rename_i hs
        simp only [hs]; exact eqsB_ok h hb
      · rename_i hs
        simp only [hs]
        simp only [Bool.and_eq_true] at hb
        refine ⟨?_, eqsB_ok h hb.2⟩
        rw [← subA_den h p.2, ← subA_den h y, sameV_eq hb.1]
    · rename_i hy
      simp only [hy]; exact eqsB_ok h hb

def obB (S : TT) : Ob → Bool
  | .ok => true
  | .no => false
  | .node i y n => match subA S (.symb i) with
    | .bool true => obB S y
    | .bool false => obB S n
    | _ => obB S y && obB S n
  | .pick i k y n => match subA S (.symi .i64 i) with
    | .int _ x => match x == k with
      | true => obB S y
      | false => obB S n
    | _ => obB S y && obB S n

theorem repB {σ : Sig} {S : TT} (h : RepOk σ S) {i : Nat} {b : Bool} (he : subA S (.symb i) = .bool b) : σ.bval i = b := by
  have := subA_den h (.symb i)
  rw [he] at this
  simpa [den] using this.symm

theorem repI {σ : Sig} {S : TT} (h : RepOk σ S) {i : Nat} {k : IntKind} {n : Int} (he : subA S (.symi .i64 i) = .int k n) : σ.ival i = n := by
  have := subA_den h (.symi .i64 i)
  rw [he] at this
  simp only [den, AVal.int.injEq] at this
  exact this.2.symm

theorem obB_ok {σ : Sig} {S : TT} (h : RepOk σ S) : ∀ {o : Ob}, obB S o = true → o.Sat σ
  | .ok, _ => trivial
  | .no, hb => by simp [obB] at hb
  | .node i y n, hb => by
    simp only [obB] at hb
    split at hb
    · rename_i he; have := repB h he; exact ⟨fun _ => obB_ok h hb, fun h2 => (by rw [this] at h2; cases h2)⟩
    · rename_i he; have := repB h he; exact ⟨fun h2 => (by rw [this] at h2; cases h2), fun _ => obB_ok h hb⟩
    · simp only [Bool.and_eq_true] at hb; exact ⟨fun _ => obB_ok h hb.1, fun _ => obB_ok h hb.2⟩
  | .pick i k y n, hb => by
    simp only [obB] at hb
    split at hb
    · rename_i he
      have := repI h he
      split at hb
      · rename_i hx; exact ⟨fun _ => obB_ok h hb, fun h2 => absurd (by rw [this]; simpa using hx) h2⟩
      · rename_i hx; exact ⟨fun h2 => (by rw [this] at h2; simp [h2] at hx), fun _ => obB_ok h hb⟩
    · simp only [Bool.and_eq_true] at hb; exact ⟨fun _ => obB_ok h hb.1, fun _ => obB_ok h hb.2⟩

/-- with rules -/
def stR (m : Nat) (G : List SDef) (K : List (List Fact × Fact)) (F : List Fact) : St := mkSt m G (F ++ rulesF F K)

theorem stR_ok {σ : Sig} {m : Nat} {G : List SDef} (hG : Eqs σ m G) {K : List (List Fact × Fact)} (hK : Rules σ K) {F : List Fact} (hF : Holds σ F) : (stR m G K F).Ok σ :=
  mkSt_ok hG (holds_app hF (rulesF_ok hF hK))

def leftV (m : Nat) (G : List SDef) (K : List (List Fact × Fact)) (okR : Rem → Bool) : Sv → List Fact → St → Bool
  | .leaf x s _ l ex, F, st => okR (.leaf x s (subG st.S (l ++ ex)) F)
  | .leafE x s _ l ex, F, st => eqsB st.S l l && okR (.leaf x s (subG st.S (l ++ ex)) F)
  | .req o v, F, st => (obB st.S o || okR (.ob o F)) && leftV m G K okR v F st
  | .dead, F, st => st.bad || okR (.dead F)
  | .node i y n, F, st => match subA st.S (.symb i) with
    | .bool true => leftV m G K okR y (.tru i true :: F) st
    | .bool false => leftV m G K okR n (.tru i false :: F) st
    | _ => leftV m G K okR y (.tru i true :: F) (stR m G K (.tru i true :: F)) && leftV m G K okR n (.tru i false :: F) (stR m G K (.tru i false :: F))
  | .pick i k y n, F, st => match subA st.S (.symi .i64 i) with
    | .int _ x => match x == k with
      | true => leftV m G K okR y (.isn i k :: F) st
      | false => leftV m G K okR n (.non i k :: F) st
    | _ => leftV m G K okR y (.isn i k :: F) (stR m G K (.isn i k :: F)) && leftV m G K okR n (.non i k :: F) st

theorem segs_none {σ : Sig} {Q : SEx → Shape → Sig → Prop} : ∀ {V : Sv} {F : List Fact}, ¬ Holds σ F → segs σ Q V F
  | .leaf .., _, h => fun hF => absurd hF h
  | .leafE .., _, h => fun hF => absurd hF h
  | .req o v, _, h => ⟨fun hF => absurd hF h, segs_none h⟩
  | .dead, _, h => h
  | .node i y n, _, h => ⟨segs_none fun hF => h hF.2, segs_none fun hF => h hF.2⟩
  | .pick i k y n, _, h => ⟨segs_none fun hF => h hF.2, segs_none fun hF => h hF.2⟩

theorem leftV_ok {σ : Sig} {m : Nat} {G : List SDef} (hG : Eqs σ m G) {K : List (List Fact × Fact)} (hK : Rules σ K) {Q : SEx → Shape → Sig → Prop} {okR : Rem → Bool} (hok : ∀ r, okR r = true → r.Ok σ Q) : ∀ {V : Sv} {F : List Fact} {st : St}, (Holds σ F → st.Ok σ) → leftV m G K okR V F st = true → segs σ Q V F
  | .leaf x s f l ex, F, st, hst, h => fun hF => by
    have := hok _ h hF
    rwa [asgS_sub (hst hF).rep] at this
  | .leafE x s f l ex, F, st, hst, h => fun hF => by
    simp only [leftV, Bool.and_eq_true] at h
    have := hok _ h.2 hF
    rw [asgS_sub (hst hF).rep] at this
    exact ⟨eqsB_ok (hst hF).rep h.1, this⟩
  | .req o v, F, st, hst, h => by
    simp only [leftV, Bool.and_eq_true, Bool.or_eq_true] at h
    refine ⟨fun hF => ?_, leftV_ok hG hK hok hst h.2⟩
    rcases h.1 with h1 | h1
    · exact obB_ok (hst hF).rep h1
    · exact hok _ h1 hF
  | .dead, F, st, hst, h => fun hF => by
    simp only [leftV, Bool.or_eq_true] at h
    rcases h with h | h
    · exact (hst hF).bad h
    · exact hok _ h hF
  | .node i y n, F, st, hst, h => by
    simp only [leftV] at h
    split at h
    · rename_i he
      refine ⟨leftV_ok hG hK hok (fun hF => hst hF.2) h, segs_none fun hF => ?_⟩
      have h1 : σ.bval i = false := hF.1
      rw [repB (hst hF.2).rep he] at h1; cases h1
    · rename_i he
      refine ⟨segs_none fun hF => ?_, leftV_ok hG hK hok (fun hF => hst hF.2) h⟩
      have h1 : σ.bval i = true := hF.1
      rw [repB (hst hF.2).rep he] at h1; cases h1
    · simp only [Bool.and_eq_true] at h
      exact ⟨leftV_ok hG hK hok (fun hF => stR_ok hG hK hF) h.1, leftV_ok hG hK hok (fun hF => stR_ok hG hK hF) h.2⟩
  | .pick i k y n, F, st, hst, h => by
    simp only [leftV] at h
    split at h
    · rename_i he
      split at h
      · rename_i hx
        refine ⟨leftV_ok hG hK hok (fun hF => hst hF.2) h, segs_none fun hF => ?_⟩
        have h1 : σ.ival i ≠ k := hF.1
        exact h1 (by rw [repI (hst hF.2).rep he]; simpa using hx)
      · rename_i hx
        refine ⟨segs_none fun hF => ?_, leftV_ok hG hK hok (fun hF => hst hF.2) h⟩
        have h1 : σ.ival i = k := hF.1
        rw [repI (hst hF.2).rep he] at h1
        simp [h1] at hx
    · simp only [Bool.and_eq_true] at h
      exact ⟨leftV_ok hG hK hok (fun hF => stR_ok hG hK hF) h.1, leftV_ok hG hK hok (fun hF => hst hF.2) h.2⟩

def leftW (m : Nat) (G : List SDef) (K : List (List Fact × Fact)) (okR : Rem → Bool) : Sw → List Fact → St → Bool
  | .run v, F, st => leftV m G K okR v F st
  | .dead, F, st => st.bad || okR (.dead F)
  | .node i y n, F, st => match subA st.S (.symb i) with
    | .bool true => leftW m G K okR y (.tru i true :: F) st
    | .bool false => leftW m G K okR n (.tru i false :: F) st
    | _ => leftW m G K okR y (.tru i true :: F) (stR m G K (.tru i true :: F)) && leftW m G K okR n (.tru i false :: F) (stR m G K (.tru i false :: F))
  | .pick i k y n, F, st => match subA st.S (.symi .i64 i) with
    | .int _ x => match x == k with
      | true => leftW m G K okR y (.isn i k :: F) st
      | false => leftW m G K okR n (.non i k :: F) st
    | _ => leftW m G K okR y (.isn i k :: F) (stR m G K (.isn i k :: F)) && leftW m G K okR n (.non i k :: F) st

theorem segsW_none {σ : Sig} {Q : SEx → Shape → Sig → Prop} : ∀ {V : Sw} {F : List Fact}, ¬ Holds σ F → segsW σ Q V F
  | .run v, _, h => segs_none h
  | .dead, _, h => h
  | .node i y n, _, h => ⟨segsW_none fun hF => h hF.2, segsW_none fun hF => h hF.2⟩
  | .pick i k y n, _, h => ⟨segsW_none fun hF => h hF.2, segsW_none fun hF => h hF.2⟩

theorem leftW_ok {σ : Sig} {m : Nat} {G : List SDef} (hG : Eqs σ m G) {K : List (List Fact × Fact)} (hK : Rules σ K) {Q : SEx → Shape → Sig → Prop} {okR : Rem → Bool} (hok : ∀ r, okR r = true → r.Ok σ Q) : ∀ {V : Sw} {F : List Fact} {st : St}, (Holds σ F → st.Ok σ) → leftW m G K okR V F st = true → segsW σ Q V F
  | .run v, F, st, hst, h => leftV_ok hG hK hok hst h
  | .dead, F, st, hst, h => fun hF => by
    simp only [leftW, Bool.or_eq_true] at h
    rcases h with h | h
    · exact (hst hF).bad h
    · exact hok _ h hF
  | .node i y n, F, st, hst, h => by
    simp only [leftW] at h
    split at h
    · rename_i he
      refine ⟨leftW_ok hG hK hok (fun hF => hst hF.2) h, segsW_none fun hF => ?_⟩
      have h1 : σ.bval i = false := hF.1
      rw [repB (hst hF.2).rep he] at h1; cases h1
    · rename_i he
      refine ⟨segsW_none fun hF => ?_, leftW_ok hG hK hok (fun hF => hst hF.2) h⟩
      have h1 : σ.bval i = true := hF.1
      rw [repB (hst hF.2).rep he] at h1; cases h1
    · simp only [Bool.and_eq_true] at h
      exact ⟨leftW_ok hG hK hok (fun hF => stR_ok hG hK hF) h.1, leftW_ok hG hK hok (fun hF => stR_ok hG hK hF) h.2⟩
  | .pick i k y n, F, st, hst, h => by
    simp only [leftW] at h
    split at h
    · rename_i he
      split at h
      · rename_i hx
        refine ⟨leftW_ok hG hK hok (fun hF => hst hF.2) h, segsW_none fun hF => ?_⟩
        have h1 : σ.ival i ≠ k := hF.1
        exact h1 (by rw [repI (hst hF.2).rep he]; simpa using hx)
      · rename_i hx
        refine ⟨segsW_none fun hF => ?_, leftW_ok hG hK hok (fun hF => hst hF.2) h⟩
        have h1 : σ.ival i = k := hF.1
        rw [repI (hst hF.2).rep he] at h1
        simp [h1] at hx
    · simp only [Bool.and_eq_true] at h
      exact ⟨leftW_ok hG hK hok (fun hF => stR_ok hG hK hF) h.1, leftW_ok hG hK hok (fun hF => hst hF.2) h.2⟩

/-- What is left of a tree of ends, by what follows from the operations alone. -/
theorem left_ok {σ : Sig} {m : Nat} {G : List SDef} (hG : Eqs σ m G) {K : List (List Fact × Fact)} (hK : Rules σ K) {Q : SEx → Shape → Sig → Prop} {okR : Rem → Bool} (hok : ∀ r, okR r = true → r.Ok σ Q) {V : Sw} (h : leftW m G K okR V [] (stR m G K []) = true) : segsW σ Q V [] :=
  leftW_ok hG hK hok (fun hF => stR_ok hG hK hF) h

/-! ### Ends that are true -/

/-- one of these rows of facts is among what is taken -/
def deadBy : List (List Fact) → List Fact → Bool
  | [], _ => false
  | l :: D, F => hasFs F l || deadBy D F

theorem deadBy_ok {σ : Sig} {F : List Fact} : ∀ {D : List (List Fact)}, deadBy D F = true → (∀ l, l ∈ D → ¬ Holds σ l) → ¬ Holds σ F
  | [], h, _ => by simp [deadBy] at h
  | l :: D, h, hD => by
    simp only [deadBy, Bool.or_eq_true] at h
    rcases h with h | h
    · exact fun hF => hD l (by simp) (hasFs_ok h hF)
    · exact deadBy_ok h (fun l hl => hD l (by simp [hl]))

def sameT : List (Nat × AVal) → List (Nat × AVal) → Bool
  | [], [] => true
  | a :: l, b :: m => Nat.beq a.1 b.1 && (eqV a.2 b.2 && sameT l m)
  | _, _ => false

theorem sameT_eq : ∀ {l m : List (Nat × AVal)}, sameT l m = true → l = m
  | [], [], _ => rfl
  | (a, a') :: l, (b, b') :: m, h => by
    simp only [sameT, Bool.and_eq_true] at h
    rw [Nat.eq_of_beq_eq_true h.1, eqV_eq _ _ h.2.1, sameT_eq h.2.2]
  | [], _ :: _, h => by simp [sameT] at h
  | _ :: _, [], h => by simp [sameT] at h

def sameH : List Blk → List Blk → Bool
  | [], [] => true
  | .cells c e :: l, .cells d f :: m => Nat.beq e f && (eqVs c d && sameH l m)
  | _, _ => false

theorem sameH_eq : ∀ {l m : List Blk}, sameH l m = true → l = m
  | [], [], _ => rfl
  | .cells c e :: l, .cells d f :: m, h => by
    simp only [sameH, Bool.and_eq_true] at h
    rw [Nat.eq_of_beq_eq_true h.1, eqVs_eq _ _ h.2.1, sameH_eq h.2.2]
  | [], _ :: _, h => by simp [sameH] at h
  | .cells _ _ :: _, [], h => by simp [sameH] at h
  | .map _ :: _, _, h => by simp [sameH] at h
  | .gone :: _, _, h => by simp [sameH] at h
  | .loop _ :: _, _, h => by simp [sameH] at h
  | .dfr :: _, _, h => by simp [sameH] at h
  | .iter _ _ _ :: _, _, h => by simp [sameH] at h
  | .cells _ _ :: _, .map _ :: _, h => by simp [sameH] at h
  | .cells _ _ :: _, .gone :: _, h => by simp [sameH] at h
  | .cells _ _ :: _, .loop _ :: _, h => by simp [sameH] at h
  | .cells _ _ :: _, .dfr :: _, h => by simp [sameH] at h
  | .cells _ _ :: _, .iter _ _ _ :: _, h => by simp [sameH] at h

def sameShape (a b : Shape) : Bool := sameT a.t b.t && sameH a.heap b.heap

theorem sameShape_eq {a b : Shape} (h : sameShape a b = true) : a = b := by
  obtain ⟨t, H⟩ := a
  obtain ⟨t', H'⟩ := b
  simp only [sameShape, Bool.and_eq_true] at h
  rw [show t = t' from sameT_eq h.1, show H = H' from sameH_eq h.2]

def retB : SEx → Bool
  | .ret => true
  | .normal => true
  | .exit _ => false

def trueAt (l : Asg) : Bool :=
  match findAs l 0 with
  | some (.bool true) => true
  | _ => false

/-- An end of the shape SE, with unknown truth 0 true; a dead end by one of D. -/
def okTrue (SE : Shape) (D : List (List Fact)) : Rem → Bool
  | .leaf x s l _ => retB x && (sameShape s SE && trueAt l)
  | .dead F => deadBy D F
  | .ob _ _ => false

/-- All ends are true. K: what is so besides; D: rows of facts that cannot be. -/
theorem ends_true {τ : Sig} {m : Nat} {G : List SDef} {SE : Shape} {K : List (List Fact × Fact)} {D : List (List Fact)} {W : Sw} (hG : Eqs τ m G) (hK : Rules τ K) (hD : ∀ l, l ∈ D → ¬ Holds τ l)
    (h : leftW m G K (okTrue SE D) W [] (stR m G K []) = true) : segsW τ (fun x s σ2 => (x = .ret ∨ x = .normal) ∧ s = SE ∧ OutOk σ2 [.one .b] (packA [.symb 0]) [1]) W [] := by
  refine left_ok hG hK (fun r hr => ?_) h
  cases r with
  | dead F => exact deadBy_ok hr hD
  | ob o F => cases hr
  | leaf x s l F =>
    intro _
    simp only [okTrue, Bool.and_eq_true] at hr
    obtain ⟨h1, h2, h3⟩ := hr
    refine ⟨?_, sameShape_eq h2, ?_⟩
    · cases x <;> first | exact .inl rfl | exact .inr rfl | cases h1
    · refine ⟨?_, trivial⟩
      have : (asgS τ l).bval 0 = true := by
        unfold trueAt at h3
        split at h3
        · rename_i h0; simp only [asgS, h0, valS, den, bOf]
        · cases h3
      show AVal.bool _ = _
      rw [this]; rfl

/-- What an unknown is, with facts: as it was reckoned. -/
theorem rep_i {τ : Sig} {m : Nat} {G : List SDef} (hG : Eqs τ m G) (F : List Fact) (hF : Holds τ F) {k : IntKind} {i j : Nat} (h : eqV (subA (mkSt m G F).S (.symi k i)) (.symi k j) = true) : τ.ival i = τ.ival j := by
  have := subA_den (mkSt_ok hG hF).rep (.symi k i)
  rw [eqV_eq _ _ h] at this
  simpa [den] using this.symm

theorem rep_n {τ : Sig} {m : Nat} {G : List SDef} (hG : Eqs τ m G) (F : List Fact) (hF : Holds τ F) {k : IntKind} {i : Nat} {n : Int} (h : eqV (subA (mkSt m G F).S (.symi k i)) (.int k n) = true) : τ.ival i = n := by
  have := subA_den (mkSt_ok hG hF).rep (.symi k i)
  rw [eqV_eq _ _ h] at this
  simpa [den] using this.symm

theorem rep_b {τ : Sig} {m : Nat} {G : List SDef} (hG : Eqs τ m G) (F : List Fact) (hF : Holds τ F) {i : Nat} {b : Bool} (h : eqV (subA (mkSt m G F).S (.symb i)) (.bool b) = true) : τ.bval i = b := by
  have := subA_den (mkSt_ok hG hF).rep (.symb i)
  rw [eqV_eq _ _ h] at this
  simpa [den] using this.symm
end Go.Ev
