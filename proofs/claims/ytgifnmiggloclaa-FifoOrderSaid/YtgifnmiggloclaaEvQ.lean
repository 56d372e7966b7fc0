/- Valuations of unknowns: each is what its operation gives; splits on truths. -/
import Derived.Test.YtgifnmiggloclaaEvP
namespace Go.Ev

def sameV : AVal → AVal → Bool
  | .int k a, .int k' b => decide (k = k') && a == b
  | .bool a, .bool b => a == b
  | .symi k i, .symi k' j => decide (k = k') && i == j
  | .symb i, .symb j => i == j
  | .syms i, .syms j => i == j
  | _, _ => false

theorem sameV_eq {a b : AVal} (h : sameV a b = true) : a = b := by
  unfold sameV at h
  split at h
  · simp only [Bool.and_eq_true, decide_eq_true_eq, beq_iff_eq] at h; obtain ⟨rfl, rfl⟩ := h; rfl
  · simp only [beq_iff_eq] at h; subst h; rfl
  · simp only [Bool.and_eq_true, decide_eq_true_eq, beq_iff_eq] at h; obtain ⟨rfl, rfl⟩ := h; rfl
  · simp only [beq_iff_eq] at h; subst h; rfl
  · simp only [beq_iff_eq] at h; subst h; rfl
  · cases h

def sameVs : List AVal → List AVal → Bool
  | [], [] => true
  | a :: l, b :: m => sameV a b && sameVs l m
  | _, _ => false

theorem sameVs_eq : ∀ {l m : List AVal}, sameVs l m = true → l = m
  | [], [], _ => rfl
  | a :: l, b :: m, h => by
    simp only [sameVs, Bool.and_eq_true] at h
    rw [sameV_eq h.1, sameVs_eq h.2]
  | [], _ :: _, h => by simp [sameVs] at h
  | _ :: _, [], h => by simp [sameVs] at h

def samePs : List (AVal × AVal) → List (AVal × AVal) → Bool
  | [], [] => true
  | a :: l, b :: m => sameV a.1 b.1 && sameV a.2 b.2 && samePs l m
  | _, _ => false

theorem samePs_eq : ∀ {l m : List (AVal × AVal)}, samePs l m = true → l = m
  | [], [], _ => rfl
  | (a, a') :: l, (b, b') :: m, h => by
    simp only [samePs, Bool.and_eq_true] at h
    rw [sameV_eq h.1.1, sameV_eq h.1.2, samePs_eq h.2]
  | [], _ :: _, h => by simp [samePs] at h
  | _ :: _, [], h => by simp [samePs] at h

def sameD : SDef → SDef → Bool
  | .bin o a b, .bin o' a' b' => decide (o = o') && (sameV a a' && sameV b b')
  | .un o a, .un o' a' => decide (o = o') && sameV a a'
  | .conv k a, .conv k' a' => decide (k = k') && sameV a a'
  | .low l, .low m => sameVs l m
  | .high l, .high m => sameVs l m
  | .all l, .all m => samePs l m
  | .text l, .text m => sameVs l m
  | .fn i k l, .fn j k' m => Nat.beq i j && (decide (k = k') && sameVs l m)
  | _, _ => false

theorem sameD_eq {d e : SDef} (h : sameD d e = true) : d = e := by
  unfold sameD at h
  split at h
  · simp only [Bool.and_eq_true, decide_eq_true_eq] at h; rw [h.1, sameV_eq h.2.1, sameV_eq h.2.2]
  · simp only [Bool.and_eq_true, decide_eq_true_eq] at h; rw [h.1, sameV_eq h.2]
  · simp only [Bool.and_eq_true, decide_eq_true_eq] at h; rw [h.1, sameV_eq h.2]
  · rw [sameVs_eq h]
  · rw [sameVs_eq h]
  · rw [samePs_eq h]
  · rw [sameVs_eq h]
  · simp only [Bool.and_eq_true, decide_eq_true_eq] at h; rw [Nat.eq_of_beq_eq_true h.1, h.2.1, sameVs_eq h.2.2]
  · cases h

def lookIn (d : SDef) : List SDef → Nat → Option Nat
  | [], _ => none
  | e :: G, i => match sameD e d with
    | true => some i
    | false => lookIn d G (i + 1)

theorem lookIn_spec {d : SDef} : ∀ {G : List SDef} {i j : Nat}, lookIn d G i = some j → ∃ k, j = i + k ∧ G[k]? = some d
  | [], _, _, h => by simp [lookIn] at h
  | e :: G, i, j, h => by
    simp only [lookIn] at h
    split at h
    · rename_i hs; cases h; exact ⟨0, rfl, by rw [sameD_eq hs]; rfl⟩
    · obtain ⟨k, h1, h2⟩ := lookIn_spec h
      exact ⟨k + 1, by omega, by simpa using h2⟩

/-- What is taken of unknowns. -/
inductive Fact where
  | tru (i : Nat) (b : Bool)
  | isn (i : Nat) (n : Int)
  | non (i : Nat) (n : Int)

def factIn : List Fact → Nat → Option Bool
  | [], _ => none
  | x :: F, i => match x with
    | .tru j b => match Nat.beq j i with
      | true => some b
      | false => factIn F i
    | _ => factIn F i

def numIn : List Fact → Nat → Option Int
  | [], _ => none
  | x :: F, i => match x with
    | .isn j n => match Nat.beq j i with
      | true => some n
      | false => numIn F i
    | _ => numIn F i

def Fact.holds (σ : Sig) : Fact → Prop
  | .tru i b => σ.bval i = b
  | .isn i n => σ.ival i = n
  | .non i n => σ.ival i ≠ n

def Holds (σ : Sig) : List Fact → Prop
  | [] => True
  | p :: F => p.holds σ ∧ Holds σ F

theorem factIn_spec {σ : Sig} : ∀ {F : List Fact} {i : Nat} {b : Bool}, factIn F i = some b → Holds σ F → σ.bval i = b
  | [], _, _, h, _ => by simp [factIn] at h
  | x :: F, i, b, h, hF => by
    simp only [factIn] at h
    split at h
    · split at h
      · rename_i hs; cases h; have := Nat.eq_of_beq_eq_true hs; subst this; exact hF.1
      · exact factIn_spec h hF.2
    · exact factIn_spec h hF.2

theorem numIn_spec {σ : Sig} : ∀ {F : List Fact} {i : Nat} {n : Int}, numIn F i = some n → Holds σ F → σ.ival i = n
  | [], _, _, h, _ => by simp [numIn] at h
  | x :: F, i, b, h, hF => by
    simp only [numIn] at h
    split at h
    · split at h
      · rename_i hs; cases h; have := Nat.eq_of_beq_eq_true hs; subst this; exact hF.1
      · exact numIn_spec h hF.2
    · exact numIn_spec h hF.2

/-! ### The valuation -/

def setS (σ : Sig) (i : Nat) : AVal → Sig
  | .int _ n => ⟨fun j => if j = i then n else σ.ival j, σ.bval, σ.sval, σ.tab, σ.ext⟩
  | .bool b => ⟨σ.ival, fun j => if j = i then b else σ.bval j, σ.sval, σ.tab, σ.ext⟩
  | .str s => ⟨σ.ival, σ.bval, fun j => if j = i then s else σ.sval j, σ.tab, σ.ext⟩
  | _ => σ

def stepS (σ : Sig) (d : SDef) (i : Nat) : Sig :=
  match evalS σ d with
  | some v => setS σ i v
  | none => σ

def solve : List SDef → Nat → Sig → Sig
  | [], _, σ => σ
  | d :: G, i, σ => solve G (i + 1) (stepS σ d i)

structure Agree (n : Nat) (σ τ : Sig) : Prop where
  val : ∀ i, i < n → σ.ival i = τ.ival i ∧ σ.bval i = τ.bval i ∧ σ.sval i = τ.sval i
  tab : σ.tab = τ.tab
  ext : σ.ext = τ.ext

theorem agree_set (σ : Sig) (i : Nat) (v : AVal) : Agree i σ (setS σ i v) := by
  refine ⟨?_, by cases v <;> rfl, by cases v <;> rfl⟩
  intro j hj
  have : j ≠ i := by omega
  cases v <;> simp [setS, this]

theorem agree_step (σ : Sig) (d : SDef) (i : Nat) : Agree i σ (stepS σ d i) := by
  unfold stepS
  split
  · exact agree_set _ _ _
  · exact ⟨fun _ _ => ⟨rfl, rfl, rfl⟩, rfl, rfl⟩

theorem Agree.trans {n : Nat} {σ τ υ : Sig} (h : Agree n σ τ) (h' : Agree n τ υ) : Agree n σ υ := ⟨fun i hi =>
  ⟨(h.val i hi).1.trans (h'.val i hi).1, (h.val i hi).2.1.trans (h'.val i hi).2.1, (h.val i hi).2.2.trans (h'.val i hi).2.2⟩, h.tab.trans h'.tab, h.ext.trans h'.ext⟩

theorem Agree.less {n m : Nat} {σ τ : Sig} (h : Agree n σ τ) (hm : m ≤ n) : Agree m σ τ := ⟨fun i hi => h.val i (by omega), h.tab, h.ext⟩

theorem agree_solve : ∀ (G : List SDef) (i : Nat) (σ : Sig), Agree i σ (solve G i σ)
  | [], _, _ => ⟨fun _ _ => ⟨rfl, rfl, rfl⟩, rfl, rfl⟩
  | d :: G, i, σ => (agree_step σ d i).trans ((agree_solve G (i + 1) (stepS σ d i)).less (Nat.le_succ i))

def ltV (n : Nat) : AVal → Bool
  | .symi _ i => Nat.blt i n
  | .symb i => Nat.blt i n
  | .syms i => Nat.blt i n
  | _ => true

def ltVs (n : Nat) : List AVal → Bool
  | [] => true
  | a :: l => ltV n a && ltVs n l

def ltPs (n : Nat) : List (AVal × AVal) → Bool
  | [] => true
  | a :: l => ltV n a.1 && ltV n a.2 && ltPs n l

def ltD (n : Nat) : SDef → Bool
  | .bin _ a b => ltV n a && ltV n b
  | .un _ a => ltV n a
  | .conv _ a => ltV n a
  | .low l => ltVs n l
  | .high l => ltVs n l
  | .all l => ltPs n l
  | .text l => ltVs n l
  | .fn _ _ l => ltVs n l

theorem den_agree {n : Nat} {σ τ : Sig} (h : Agree n σ τ) {a : AVal} (ha : ltV n a = true) : den σ a = den τ a := by
  cases a <;> simp only [ltV, Nat.blt_eq] at ha <;> simp only [den]
  · rw [(h.val _ ha).1]
  · rw [(h.val _ ha).2.1]
  · rw [(h.val _ ha).2.2]

theorem denVs_agree {n : Nat} {σ τ : Sig} (h : Agree n σ τ) : ∀ {l : List AVal}, ltVs n l = true → l.map (den σ) = l.map (den τ)
  | [], _ => rfl
  | a :: l, ha => by
    simp only [ltVs, Bool.and_eq_true] at ha
    simp [den_agree h ha.1, denVs_agree h ha.2]

theorem denPs_agree {n : Nat} {σ τ : Sig} (h : Agree n σ τ) : ∀ {l : List (AVal × AVal)}, ltPs n l = true → (l.all fun x => eqS (den σ x.1) (den σ x.2)) = (l.all fun x => eqS (den τ x.1) (den τ x.2))
  | [], _ => rfl
  | a :: l, ha => by
    simp only [ltPs, Bool.and_eq_true] at ha
    simp only [List.all_cons, den_agree h ha.1.1, den_agree h ha.1.2, denPs_agree h ha.2]

theorem evalS_agree {n : Nat} {σ τ : Sig} (h : Agree n σ τ) {d : SDef} (hd : ltD n d = true) : evalS σ d = evalS τ d := by
  cases d <;> simp only [ltD, Bool.and_eq_true] at hd <;> simp only [evalS]
  · rw [den_agree h hd.1, den_agree h hd.2]
  · rw [den_agree h hd]
  · rw [den_agree h hd]
  · rw [denVs_agree h hd]
  · rw [denVs_agree h hd]
  · rw [denPs_agree h hd]
  · rename_i l
    have e : ∀ ρ : Sig, (l.map fun a => byteS (den ρ a)) = (l.map (den ρ)).map byteS := fun ρ => by simp
    rw [e, e, denVs_agree h hd]
  · rename_i l
    have e : ∀ ρ : Sig, (l.map fun a => numS (den ρ a)) = (l.map (den ρ)).map numS := fun ρ => by simp
    rw [e, e, denVs_agree h hd, h.tab]


/-! ### Operations that always give something -/

inductive SK where
  | i (k : IntKind)
  | b
  | s

def skOf : AVal → Option SK
  | .int k _ => some (.i k)
  | .symi k _ => some (.i k)
  | .bool _ => some .b
  | .symb _ => some .b
  | .str _ => some .s
  | .syms _ => some .s
  | _ => none

def litNe0 : AVal → Bool
  | .int _ n => !(n == 0)
  | _ => false

def litGe0 : AVal → Bool
  | .int _ n => decide (0 ≤ n)
  | _ => false

def totB (op : BinOp) (a b : AVal) : Bool :=
  match skOf a with
  | some (.i k) => match skOf b with
    | some (.i k') => match op with
      | .shl | .shr => litGe0 b
      | .quo | .rem => decide (k = k') && litNe0 b
      | .add | .sub | .mul | .and | .or | .xor | .andNot | .eql | .neq | .lss | .leq | .gtr | .geq => decide (k = k')
    | _ => false
  | some .s => match skOf b with
    | some .s => match op with
      | .eql | .neq | .lss | .leq | .gtr | .geq => true
      | _ => false
    | _ => false
  | some .b => match skOf b with
    | some .b => match op with
      | .eql | .neq => true
      | _ => false
    | _ => false
  | none => false

def isIv (a : AVal) : Bool :=
  match skOf a with
  | some (.i _) => true
  | _ => false

def isBv (a : AVal) : Bool :=
  match skOf a with
  | some .b => true
  | _ => false

def totL : List AVal → Bool
  | [a, b] => isIv a && isIv b
  | [a, b, c] => isIv a && isIv b && isIv c
  | _ => false

def totD : SDef → Bool
  | .bin op a b => totB op a b
  | .un op a => match op with
    | .not => isBv a
    | .neg => isIv a
    | .xor => isIv a
    | _ => false
  | .conv _ a => isIv a
  | .low l => totL l
  | .high l => totL l
  | .all _ => true
  | .text _ => true
  | .fn _ _ _ => true

theorem sk_i {a : AVal} {k : IntKind} (h : skOf a = some (.i k)) (σ : Sig) : (∃ n, den σ a = .int k n) ∧ ∀ i, likeS a i = .symi k i := by
  cases a <;> simp only [skOf, Option.some.injEq, SK.i.injEq, reduceCtorEq] at h <;> subst h <;> exact ⟨⟨_, rfl⟩, fun _ => rfl⟩

theorem sk_b {a : AVal} (h : skOf a = some .b) (σ : Sig) : (∃ n, den σ a = .bool n) ∧ ∀ i, likeS a i = .symb i := by
  cases a <;> simp only [skOf, Option.some.injEq, reduceCtorEq] at h <;> exact ⟨⟨_, rfl⟩, fun _ => rfl⟩

theorem sk_s {a : AVal} (h : skOf a = some .s) (σ : Sig) : (∃ n, den σ a = .str n) ∧ ∀ i, likeS a i = .syms i := by
  cases a <;> simp only [skOf, Option.some.injEq, reduceCtorEq] at h <;> exact ⟨⟨_, rfl⟩, fun _ => rfl⟩

theorem isIv_spec {a : AVal} (h : isIv a = true) : ∃ k, skOf a = some (.i k) := by
  unfold isIv at h
  split at h
  · exact ⟨_, by assumption⟩
  · cases h

theorem isBv_spec {a : AVal} (h : isBv a = true) : skOf a = some .b := by
  unfold isBv at h
  split at h
  · assumption
  · cases h

/-- what is given, and that it is what the unknown then is -/
def Gives (σ : Sig) (d : SDef) : Prop := ∃ v, evalS σ d = some v ∧ ∀ τ i, den (setS τ i v) (resS d i) = v

theorem set_i (τ : Sig) (i : Nat) (k : IntKind) (n : Int) : den (setS τ i (.int k n)) (.symi k i) = .int k n := by simp [setS, den]
theorem set_b (τ : Sig) (i : Nat) (n : Bool) : den (setS τ i (.bool n)) (.symb i) = .bool n := by simp [setS, den]
theorem set_s (τ : Sig) (i : Nat) (n : ByteArray) : den (setS τ i (.str n)) (.syms i) = .str n := by simp [setS, den]

theorem totB_gives {σ : Sig} {op : BinOp} {a b : AVal} (h : totB op a b = true) : Gives σ (.bin op a b) := by
  unfold totB at h
  split at h
  · rename_i k ha
    obtain ⟨⟨x, hx⟩, hl⟩ := sk_i ha σ
    split at h
    · rename_i k' hb
      obtain ⟨⟨y, hy⟩, _⟩ := sk_i hb σ
      have e : evalS σ (.bin op a b) = intA op k x k' y := by simp only [evalS, hx, hy, binS]
      have lit : litGe0 b = true → 0 ≤ y := by
        intro hq
        cases b <;> simp only [litGe0, decide_eq_true_eq, Bool.false_eq_true] at hq
        simp only [den, AVal.int.injEq] at hy
        omega
      have lit' : litNe0 b = true → y ≠ 0 := by
        intro hq
        cases b <;> simp only [litNe0, Bool.not_eq_true', beq_eq_false_iff_ne, Bool.false_eq_true] at hq
        simp only [den, AVal.int.injEq] at hy
        obtain ⟨_, rfl⟩ := hy
        exact hq
      cases op <;> simp only [Bool.and_eq_true, decide_eq_true_eq] at h
      case shl => have := lit h; exact ⟨_, by rw [e]; simp only [intA, if_neg (Int.not_lt.2 this)]; rfl, fun τ i => by simp only [resS, hl]; exact set_i _ _ _ _⟩
      case shr => have := lit h; exact ⟨_, by rw [e]; simp only [intA, if_neg (Int.not_lt.2 this)]; rfl, fun τ i => by simp only [resS, hl]; exact set_i _ _ _ _⟩
      case quo => obtain ⟨rfl, h⟩ := h; have := lit' h; exact ⟨_, by rw [e]; simp only [intA, if_true, if_neg this]; rfl, fun τ i => by simp only [resS, hl]; exact set_i _ _ _ _⟩
      case rem => obtain ⟨rfl, h⟩ := h; have := lit' h; exact ⟨_, by rw [e]; simp only [intA, if_true, if_neg this]; rfl, fun τ i => by simp only [resS, hl]; exact set_i _ _ _ _⟩
      all_goals first
        | (subst h; exact ⟨_, by rw [e]; simp only [intA, if_true]; rfl, fun τ i => by simp only [resS, hl]; exact set_i _ _ _ _⟩)
        | (subst h; exact ⟨_, by rw [e]; simp only [intA, if_true]; rfl, fun τ i => by simp only [resS]; exact set_b _ _ _⟩)
    · cases h
  · rename_i ha
    obtain ⟨⟨x, hx⟩, hl⟩ := sk_s ha σ
    split at h
    · rename_i hb
      obtain ⟨⟨y, hy⟩, _⟩ := sk_s hb σ
      have e : evalS σ (.bin op a b) = strA op x y := by simp only [evalS, hx, hy, binS]
      cases op <;> simp only [Bool.false_eq_true] at h
      all_goals exact ⟨_, by rw [e]; simp only [strA]; rfl, fun τ i => by simp only [resS]; exact set_b _ _ _⟩
    · cases h
  · rename_i ha
    obtain ⟨⟨x, hx⟩, hl⟩ := sk_b ha σ
    split at h
    · rename_i hb
      obtain ⟨⟨y, hy⟩, _⟩ := sk_b hb σ
      cases op <;> simp only [Bool.false_eq_true] at h
      all_goals exact ⟨_, by simp only [evalS, hx, hy, binS]; rfl, fun τ i => by simp only [resS]; exact set_b _ _ _⟩
    · cases h
  · cases h

theorem totL_gives {σ : Sig} {l : List AVal} (h : totL l = true) : Gives σ (.low l) ∧ Gives σ (.high l) := by
  unfold totL at h
  split at h
  · simp only [Bool.and_eq_true] at h
    obtain ⟨k, ha⟩ := isIv_spec h.1
    obtain ⟨k', hb⟩ := isIv_spec h.2
    obtain ⟨⟨x, hx⟩, hl⟩ := sk_i ha σ
    obtain ⟨⟨y, hy⟩, _⟩ := sk_i hb σ
    exact ⟨⟨_, by simp only [evalS, List.map, hx, hy, minA]; rfl, fun τ i => by simp only [resS, hl]; exact set_i _ _ _ _⟩,
      ⟨_, by simp only [evalS, List.map, hx, hy, maxA]; rfl, fun τ i => by simp only [resS, hl]; exact set_i _ _ _ _⟩⟩
  · simp only [Bool.and_eq_true] at h
    obtain ⟨k, ha⟩ := isIv_spec h.1.1
    obtain ⟨k', hb⟩ := isIv_spec h.1.2
    obtain ⟨k'', hc⟩ := isIv_spec h.2
    obtain ⟨⟨x, hx⟩, hl⟩ := sk_i ha σ
    obtain ⟨⟨y, hy⟩, _⟩ := sk_i hb σ
    obtain ⟨⟨z, hz⟩, _⟩ := sk_i hc σ
    exact ⟨⟨_, by simp only [evalS, List.map, hx, hy, hz, minA]; rfl, fun τ i => by simp only [resS, hl]; exact set_i _ _ _ _⟩,
      ⟨_, by simp only [evalS, List.map, hx, hy, hz, maxA]; rfl, fun τ i => by simp only [resS, hl]; exact set_i _ _ _ _⟩⟩
  · cases h

theorem totD_gives {σ : Sig} {d : SDef} (h : totD d = true) : Gives σ d := by
  cases d with
  | bin op a b => exact totB_gives h
  | un op a =>
    cases op <;> simp only [totD, Bool.false_eq_true] at h
    all_goals first
      | (obtain ⟨⟨x, hx⟩, hl⟩ := sk_b (isBv_spec h) σ; exact ⟨_, by simp only [evalS, hx, unA]; rfl, fun τ i => by simp only [resS, hl]; exact set_b _ _ _⟩)
      | (obtain ⟨k, hk⟩ := isIv_spec h; obtain ⟨⟨x, hx⟩, hl⟩ := sk_i hk σ; exact ⟨_, by simp only [evalS, hx, unA]; rfl, fun τ i => by simp only [resS, hl]; exact set_i _ _ _ _⟩)
  | conv k a =>
    obtain ⟨k', hk⟩ := isIv_spec h
    obtain ⟨⟨x, hx⟩, hl⟩ := sk_i hk σ
    exact ⟨_, by simp only [evalS, hx, convS]; rfl, fun τ i => by simp only [resS]; exact set_i _ _ _ _⟩
  | low l => exact (totL_gives h).1
  | high l => exact (totL_gives h).2
  | all l => exact ⟨_, rfl, fun τ i => set_b _ _ _⟩
  | text l => exact ⟨_, rfl, fun τ i => set_s _ _ _⟩
  | fn id k l => exact ⟨_, rfl, fun τ i => set_i _ _ _ _⟩

/-- what gives something unless the unknown divisor is 0 -/
def condD : SDef → Option Nat
  | .bin op a b => match op with
    | .quo | .rem => match skOf a with
      | some (.i k) => match b with
        | .symi k' j => if k = k' then some j else none
        | _ => none
      | _ => none
    | _ => none
  | _ => none

def totC (d : SDef) : Bool :=
  match condD d with
  | some _ => true
  | none => totD d

theorem condD_gives {σ : Sig} {d : SDef} {j : Nat} (h : condD d = some j) (hj : σ.ival j ≠ 0) : Gives σ d := by
  unfold condD at h
  split at h
  · rename_i op a b
    have go : ∀ k, skOf a = some (.i k) → ∀ k' i, b = .symi k' i → k = k' → i = j → (op = .quo ∨ op = .rem) → Gives σ (.bin op a b) := by
      intro k ha k' i hb hk hi ho
      subst hb; subst hk; subst hi
      obtain ⟨⟨x, hx⟩, hl⟩ := sk_i ha σ
      have hy : den σ (.symi k i) = .int k (σ.ival i) := rfl
      rcases ho with rfl | rfl
      · have e : evalS σ (.bin .quo a (.symi k i)) = intA .quo k x k (σ.ival i) := by simp only [evalS, hx, hy, binS]
        exact ⟨_, by rw [e]; simp only [intA, if_true, if_neg hj]; rfl, fun τ i => by simp only [resS, hl]; exact set_i _ _ _ _⟩
      · have e : evalS σ (.bin .rem a (.symi k i)) = intA .rem k x k (σ.ival i) := by simp only [evalS, hx, hy, binS]
        exact ⟨_, by rw [e]; simp only [intA, if_true, if_neg hj]; rfl, fun τ i => by simp only [resS, hl]; exact set_i _ _ _ _⟩
    cases op <;> simp only [reduceCtorEq] at h
    all_goals
      split at h
      · rename_i k hk
        split at h
        · rename_i k' i
          split at h
          · rename_i hkk
            cases h
            exact go k hk _ _ rfl hkk rfl (by simp)
          · cases h
        · cases h
      · cases h
  · cases h

def okG : List SDef → Nat → Bool
  | [], _ => true
  | d :: G, i => ltD i d && totC d && okG G (i + 1)

theorem ltV_resS (d : SDef) (i : Nat) : ltV (i + 1) (resS d i) = true := by
  have like : ∀ a : AVal, ltV (i + 1) (likeS a i) = true := by intro a; cases a <;> simp [likeS, ltV]
  cases d with
  | bin op a b => cases op <;> simp only [resS] <;> first | exact like a | simp [ltV]
  | un op a => exact like a
  | conv k a => simp [resS, ltV]
  | low l => cases l <;> simp only [resS] <;> first | exact like _ | simp [ltV]
  | high l => cases l <;> simp only [resS] <;> first | exact like _ | simp [ltV]
  | all l => simp [resS, ltV]
  | text l => simp [resS, ltV]
  | fn id k l => simp [resS, ltV]

theorem solve_good : ∀ {G : List SDef} {i : Nat} {σ : Sig}, okG G i = true → ∀ {k : Nat} {d : SDef}, G[k]? = some d → (∀ j, condD d = some j → (solve G i σ).ival j ≠ 0) → evalS (solve G i σ) d = some (den (solve G i σ) (resS d (i + k)))
  | [], _, _, _, _, _, h, _ => by simp at h
  | d :: G, i, σ, h, 0, d', hd, hc => by
    simp only [List.getElem?_cons_zero, Option.some.injEq] at hd
    subst hd
    simp only [okG, Bool.and_eq_true] at h
    obtain ⟨⟨h1, h2⟩, h3⟩ := h
    have k1 : Agree i σ (solve (d :: G) i σ) := agree_solve _ _ _
    have hgiv : Gives σ d := by
      unfold totC at h2
      split at h2
      · rename_i j hj
        refine condD_gives hj ?_
        have hlt : j < i := by
          unfold condD at hj
          split at hj
          · rename_i op a b
            have go : ∀ k' l, b = .symi k' l → l = j → j < i := by
              intro k' l hb hl
              subst hb; subst hl
              simp only [ltD, ltV, Bool.and_eq_true, Nat.blt_eq] at h1
              exact h1.2
            cases op <;> simp only [reduceCtorEq] at hj
            all_goals
              split at hj
              · split at hj
                · rename_i k' l
                  split at hj
                  · cases hj; exact go _ _ rfl rfl
                  · cases hj
                · cases hj
              · cases hj
          · cases hj
        rw [(k1.val j hlt).1]
        exact hc j hj
      · exact totD_gives h2
    obtain ⟨v, e1, e2⟩ := hgiv
    have hs : stepS σ d i = setS σ i v := by simp only [stepS, e1]
    have k2 : Agree (i + 1) (setS σ i v) (solve (d :: G) i σ) := by simp only [solve, hs]; exact agree_solve _ _ _
    rw [← evalS_agree k1 h1, e1, Nat.add_zero, ← den_agree k2 (ltV_resS d i), e2]
  | d :: G, i, σ, h, k + 1, d', hd, hc => by
    simp only [okG, Bool.and_eq_true] at h
    simp only [List.getElem?_cons_succ] at hd
    have := solve_good (σ := stepS σ d i) h.2 hd hc
    rw [show i + (k + 1) = i + 1 + k by omega]
    exact this

/-! ### Trees of splits -/

inductive Tr where
  | leaf
  | dead
  | node (i : Nat) (yes no : Tr)
  | pick (i : Nat) (n : Int) (yes no : Tr)

def okTree (check : List Fact → Bool) : Tr → List Fact → Bool
  | .leaf, F => check F
  | .dead, _ => true
  | .node i y n, F => okTree check y (.tru i true :: F) && okTree check n (.tru i false :: F)
  | .pick i k y n, F => okTree check y (.isn i k :: F) && okTree check n (.non i k :: F)

def deads (σ : Sig) : Tr → List Fact → Prop
  | .leaf, _ => True
  | .dead, F => ¬ Holds σ F
  | .node i y n, F => deads σ y (.tru i true :: F) ∧ deads σ n (.tru i false :: F)
  | .pick i k y n, F => deads σ y (.isn i k :: F) ∧ deads σ n (.non i k :: F)

theorem tree_leaf {σ : Sig} {check : List Fact → Bool} : ∀ {T : Tr} {F : List Fact}, okTree check T F = true → deads σ T F → Holds σ F → ∃ F', check F' = true ∧ Holds σ F'
  | .leaf, F, h, _, hF => ⟨F, h, hF⟩
  | .dead, _, _, hd, hF => absurd hF hd
  | .node i y n, F, h, hd, hF => by
    simp only [okTree, Bool.and_eq_true] at h
    cases hb : σ.bval i with
    | true => exact tree_leaf h.1 hd.1 ⟨hb, hF⟩
    | false => exact tree_leaf h.2 hd.2 ⟨hb, hF⟩
  | .pick i k y n, F, h, hd, hF => by
    simp only [okTree, Bool.and_eq_true] at h
    rcases Classical.em (σ.ival i = k) with hb | hb
    · exact tree_leaf h.1 hd.1 ⟨hb, hF⟩
    · exact tree_leaf h.2 hd.2 ⟨hb, hF⟩

abbrev HookF := (SDef → Option AVal) → FuncId → List AVal → Option AVal

def noHook : HookF := fun _ _ _ => none

abbrev TabF := Nat → List Int → Int

def noTab : TabF := fun _ _ => 0

def nonIn : List Fact → Nat → Bool
  | [], _ => false
  | x :: F, i => match x with
    | .non j n => match Nat.beq j i with
      | true => match n with
        | .ofNat 0 => true
        | _ => nonIn F i
      | false => nonIn F i
    | _ => nonIn F i

theorem nonIn_spec {σ : Sig} : ∀ {F : List Fact} {i : Nat}, nonIn F i = true → Holds σ F → σ.ival i ≠ 0
  | [], _, h, _ => by simp [nonIn] at h
  | x :: F, i, h, hF => by
    simp only [nonIn] at h
    split at h
    · split at h
      · rename_i hs
        have := Nat.eq_of_beq_eq_true hs
        subst this
        split at h
        · exact hF.1
        · exact nonIn_spec h hF.2
      · exact nonIn_spec h hF.2
    · exact nonIn_spec h hF.2

def lookF (m : Nat) (G : List SDef) (F : List Fact) (d : SDef) : Option Nat :=
  match condD d with
  | some j => match nonIn F j with
    | true => lookIn d G m
    | false => none
  | none => lookIn d G m

def baseOf (n m : Nat) (tab : TabF) (G : List SDef) (F : List Fact) : Cx := ⟨n, lookF m G F, factIn F, numIn F, fun _ _ => none, tab, fun _ => none, fun _ _ => none⟩

/-- A row that came in: its length, and some of its elements, by their index. -/
structure RowS where
  len : AVal
  els : List (AVal × List AVal)

def rowLenF (rows : List RowS) (i : Nat) : Option AVal :=
  match rows[i]? with
  | some r => some r.len
  | none => none

def findE (ix : AVal) : List (AVal × List AVal) → Option (List AVal)
  | [] => none
  | p :: l => match sameV p.1 ix with
    | true => some p.2
    | false => findE ix l

def isI64 (a : AVal) : Bool :=
  match skOf a with
  | some (.i k) => decide (k = .i64)
  | _ => false

def rowAtF (look : SDef → Option AVal) (rows : List RowS) (i : Nat) (ix : AVal) : Option (List AVal) :=
  match rows[i]? with
  | some r => match findE ix r.els with
    | some us => match isI64 ix && isI64 r.len with
      | true => match look (.bin .leq (.int .i64 0) ix), look (.bin .lss ix r.len) with
        | some (.bool true), some (.bool true) => some us
        | _, _ => none
      | false => none
    | none => none
  | none => none

/-- What is known of rows is so. -/
def RowsOk (σ : Sig) (rows : List RowS) : Prop :=
  ∀ i r X, rows[i]? = some r → σ.ext i = some X → den σ r.len = .int .i64 X.len ∧
    ∀ p, p ∈ r.els → ∀ m : Nat, den σ p.1 = .int .i64 m → m < X.len → p.2.length = X.z ∧ ∀ (j : Nat) (c : AVal), p.2[j]? = some c → den σ c = X.val m j

theorem rows_nil {σ : Sig} : RowsOk σ [] := fun i r X h => by simp at h

theorem findE_mem {ix : AVal} : ∀ {l : List (AVal × List AVal)} {us : List AVal}, findE ix l = some us → (ix, us) ∈ l
  | [], _, h => by simp [findE] at h
  | p :: l, us, h => by
    simp only [findE] at h
    split at h
    · rename_i hs
      cases h
      have := sameV_eq hs
      rw [← this]
      simp
    · exact List.mem_cons_of_mem _ (findE_mem h)

theorem isI64_den {a : AVal} (h : isI64 a = true) (σ : Sig) : ∃ x, den σ a = .int .i64 x := by
  unfold isI64 at h
  split at h
  · rename_i k hk
    have := of_decide_eq_true h
    subst this
    exact (sk_i hk σ).1
  · cases h

def cxOf (n m : Nat) (tab : TabF) (hook : HookF) (G : List SDef) (F : List Fact) (rows : List RowS := []) : Cx := ⟨n, lookF m G F, factIn F, numIn F, hook (symS (baseOf n m tab G F)), tab, rowLenF rows, rowAtF (symS (baseOf n m tab G F)) rows⟩

/-- each unknown is what its operation gives, unless that is a division by 0 -/
def Eqs (σ : Sig) (m : Nat) (G : List SDef) : Prop := ∀ k d, G[k]? = some d → (∀ j, condD d = some j → σ.ival j ≠ 0) → evalS σ d = some (den σ (resS d (m + k)))

theorem eqs_solve {m : Nat} {G : List SDef} {σ : Sig} (hG : okG G m = true) : Eqs (solve G m σ) m G := fun _ _ h hc => solve_good hG h hc

theorem base_good {n m : Nat} {tab : TabF} {G : List SDef} {F : List Fact} {σ : Sig} (hG : Eqs σ m G) (ht : σ.tab = tab) (hF : Holds σ F) : (baseOf n m tab G F).Good σ := by
  refine ⟨fun d i h => ?_, fun i b h => factIn_spec h hF, fun i b h => numIn_spec h hF, ht, fun _ _ _ h => by simp [baseOf] at h, fun _ _ _ _ h => by simp [baseOf] at h⟩
  have h : lookF m G F d = some i := h
  unfold lookF at h
  split at h
  · rename_i j hj
    split at h
    · rename_i hn
      obtain ⟨k, rfl, hk⟩ := lookIn_spec h
      exact hG k d hk (fun j' hj' => by rw [hj] at hj'; cases hj'; exact nonIn_spec hn hF)
    · cases h
  · rename_i hj
    obtain ⟨k, rfl, hk⟩ := lookIn_spec h
    exact hG k d hk (fun j' hj' => by rw [hj] at hj'; cases hj')

theorem sym_bool {ng : Cx} {σ : Sig} {d : SDef} {b : Bool} (hg : ng.Good σ) (h : symS ng d = some (.bool true)) (hd : evalS σ d = some (.bool b)) : b = true := by
  obtain ⟨q, h1, h2⟩ := symS_sound (g := ⟨fun _ => none, σ⟩) hg h
  rw [hd] at h1
  cases h1
  have := h2 _ (.bool b)
  cases this
  rfl

theorem rowAtF_spec {n m : Nat} {tab : TabF} {G : List SDef} {F : List Fact} {rows : List RowS} {σ : Sig} (hb : (baseOf n m tab G F).Good σ) (hr : RowsOk σ rows) {i : Nat} {a : AVal} {cs : List AVal} {X : Fz}
    (h : rowAtF (symS (baseOf n m tab G F)) rows i a = some cs) (hX : σ.ext i = some X) : ∃ m : Nat, den σ a = .int .i64 m ∧ m < X.len ∧ cs.length = X.z ∧ ∀ (j : Nat) (c : AVal), cs[j]? = some c → den σ c = X.val m j := by
  unfold rowAtF at h
  split at h
  · rename_i r hri
    split at h
    · rename_i us hus
      split at h
      · rename_i hk
        simp only [Bool.and_eq_true] at hk
        split at h
        · rename_i l0 l1
          cases h
          obtain ⟨x, hx⟩ := isI64_den hk.1 σ
          obtain ⟨r1, r2⟩ := hr i r X hri hX
          have d0 : evalS σ (.bin .leq (.int .i64 0) a) = some (.bool (decide (0 ≤ x))) := by
            have e : den σ (.int .i64 0) = .int .i64 0 := rfl
            simp only [evalS, hx, e, binS, intA, if_true]
          have d1 : evalS σ (.bin .lss a r.len) = some (.bool (decide (x < X.len))) := by
            simp only [evalS, hx, r1, binS, intA, if_true]
          have b0 := of_decide_eq_true (sym_bool hb l0 d0)
          have b1 := of_decide_eq_true (sym_bool hb l1 d1)
          have hxm : x = (x.toNat : Int) := by omega
          have hlt : x.toNat < X.len := by omega
          obtain ⟨q1, q2⟩ := r2 _ (findE_mem hus) x.toNat (by rw [← hxm]; exact hx) hlt
          exact ⟨x.toNat, by rw [← hxm]; exact hx, hlt, q1, q2⟩
        · cases h
      · cases h
    · cases h
  · cases h

theorem cx_good {n m : Nat} {tab : TabF} {hook : HookF} {G : List SDef} {F : List Fact} {rows : List RowS} {σ : Sig} (hG : Eqs σ m G) (ht : σ.tab = tab) (hF : Holds σ F) (hr : RowsOk σ rows := by exact rows_nil) : (cxOf n m tab hook G F rows).Good σ := by
  refine ⟨fun d i h => ?_, fun i b h => factIn_spec h hF, fun i b h => numIn_spec h hF, ht, fun i a X h hX => ?_, fun i a cs X h hX => rowAtF_spec (base_good hG ht hF) hr h hX⟩
  rotate_left 1
  · have h : rowLenF rows i = some a := h
    unfold rowLenF at h
    split at h
    · rename_i r hri
      cases h
      exact (hr i r X hri hX).1
    · cases h
  have h : lookF m G F d = some i := h
  unfold lookF at h
  split at h
  · rename_i j hj
    split at h
    · rename_i hn
      obtain ⟨k, rfl, hk⟩ := lookIn_spec h
      exact hG k d hk (fun j' hj' => by rw [hj] at hj'; cases hj'; exact nonIn_spec hn hF)
    · cases h
  · rename_i hj
    obtain ⟨k, rfl, hk⟩ := lookIn_spec h
    exact hG k d hk (fun j' hj' => by rw [hj] at hj'; cases hj')

/-- A call with unknowns that is reckoned true at each leaf of a tree of splits. -/
theorem split_true {P : Program} {fuel d m : Nat} {f : FuncId} {args : List AVal} {tab : TabF} {hook : HookF} {G : List SDef} {T : Tr} {σ : Sig} (hm : P.follows .mixedOrders = true) (hh : ∀ F, Hooks P (cxOf 0 m tab hook G F)) (hG : Eqs σ m G) (ht : σ.tab = tab) (hz : ∀ i, σ.ext i = none)
    (h : okTree (fun F => isTrue (callA P (cxOf 0 m tab hook G F) fuel d f args ⟨⟨[], []⟩, [], []⟩)) T [] = true) (hd : deads σ T []) {args' : Array Value}
    (ha : LRel ⟨fun _ => none, σ⟩ args args'.toList) (w : World) :
    Calls P f args' w fun e w' => e = .returned (.bool true) ∧ RowKit.Below w.heap.size w w' := by
  obtain ⟨F, h1, h2⟩ := tree_leaf h hd trivial
  exact sym_true hm h1 (hh F) rfl hz (cx_good hG ht h2) ha w

/-! ### Results -/

mutual
def sameW : AVal → AVal → Bool
  | .agg l, .agg m => sameWs l m
  | .tuple l, .tuple m => sameWs l m
  | a, b => sameV a b
def sameWs : List AVal → List AVal → Bool
  | [], [] => true
  | a :: l, b :: m => sameW a b && sameWs l m
  | _, _ => false
end

mutual
theorem sameW_eq : ∀ (a b : AVal), sameW a b = true → a = b
  | .agg l, .agg m, h => by simp only [sameW] at h; rw [sameWs_eq l m h]
  | .tuple l, .tuple m, h => by simp only [sameW] at h; rw [sameWs_eq l m h]
  | a, b, h => by
    unfold sameW at h
    split at h
    · rename_i l m; rw [sameWs_eq l m h]
    · rename_i l m; rw [sameWs_eq l m h]
    · exact sameV_eq h
theorem sameWs_eq : ∀ (l m : List AVal), sameWs l m = true → l = m
  | [], [], _ => rfl
  | a :: l, b :: m, h => by
    simp only [sameWs, Bool.and_eq_true] at h
    rw [sameW_eq a b h.1, sameWs_eq l m h.2]
  | [], _ :: _, h => by simp [sameWs] at h
  | _ :: _, [], h => by simp [sameWs] at h
end

/-- Trees whose leaves say what the result is. -/
inductive Vr where
  | leaf (v : AVal)
  | dead
  | node (i : Nat) (yes no : Vr)
  | pick (i : Nat) (n : Int) (yes no : Vr)

def okVr (run : List Fact → Option (Out × St)) : Vr → List Fact → Bool
  | .leaf v, F => match run F with
    | some (.val r, s) => match s.cnd with
      | [] => idFree r && sameW r v
      | _ => false
    | _ => false
  | .dead, _ => true
  | .node i y n, F => okVr run y (.tru i true :: F) && okVr run n (.tru i false :: F)
  | .pick i k y n, F => okVr run y (.isn i k :: F) && okVr run n (.non i k :: F)

/-- What is to be shown of the leaves. -/
def vals (σ : Sig) (Q : AVal → Prop) : Vr → List Fact → Prop
  | .leaf v, F => Holds σ F → Q v
  | .dead, F => ¬ Holds σ F
  | .node i y n, F => vals σ Q y (.tru i true :: F) ∧ vals σ Q n (.tru i false :: F)
  | .pick i k y n, F => vals σ Q y (.isn i k :: F) ∧ vals σ Q n (.non i k :: F)

theorem vr_leaf {σ : Sig} {Q : AVal → Prop} {run : List Fact → Option (Out × St)} : ∀ {T : Vr} {F : List Fact}, okVr run T F = true → vals σ Q T F → Holds σ F →
    ∃ F' r s, run F' = some (.val r, s) ∧ s.cnd = [] ∧ idFree r = true ∧ Q r ∧ Holds σ F'
  | .leaf v, F, h, hd, hF => by
    simp only [okVr] at h
    split at h
    · rename_i r s hr
      split at h
      · rename_i hc
        simp only [Bool.and_eq_true] at h
        refine ⟨F, r, s, hr, hc, h.1, ?_, hF⟩
        rw [sameW_eq _ _ h.2]; exact hd hF
      · cases h
    · cases h
  | .dead, _, _, hd, hF => absurd hF hd
  | .node i y n, F, h, hd, hF => by
    simp only [okVr, Bool.and_eq_true] at h
    cases hb : σ.bval i with
    | true => exact vr_leaf h.1 hd.1 ⟨hb, hF⟩
    | false => exact vr_leaf h.2 hd.2 ⟨hb, hF⟩
  | .pick i k y n, F, h, hd, hF => by
    simp only [okVr, Bool.and_eq_true] at h
    rcases Classical.em (σ.ival i = k) with hb | hb
    · exact vr_leaf h.1 hd.1 ⟨hb, hF⟩
    · exact vr_leaf h.2 hd.2 ⟨hb, hF⟩

/-- A call with unknowns: what it gives at each leaf. -/
theorem split_val {P : Program} {fuel d m : Nat} {f : FuncId} {args : List AVal} {tab : TabF} {hook : HookF} {G : List SDef} {T : Vr} {σ : Sig} {Q : AVal → Prop} (hm : P.follows .mixedOrders = true) (hh : ∀ F, Hooks P (cxOf 0 m tab hook G F)) (hG : Eqs σ m G) (ht : σ.tab = tab) (hz : ∀ i, σ.ext i = none)
    (h : okVr (fun F => callA P (cxOf 0 m tab hook G F) fuel d f args ⟨⟨[], []⟩, [], []⟩) T [] = true) (hd : vals σ Q T []) {args' : Array Value}
    (ha : LRel ⟨fun _ => none, σ⟩ args args'.toList) (w : World) :
    Calls P f args' w fun e w' => ∃ v u, e = .returned u ∧ Q v ∧ VRel ⟨fun _ => none, σ⟩ v u ∧ RowKit.Below w.heap.size w w' := by
  obtain ⟨F, r, s, h1, h2, h3, h4, h5⟩ := vr_leaf h hd trivial
  have := ((callA_sound (fuel := fuel) hm (hh F) d).2 _ _ _ _ _ h1 (by rw [h2]; trivial)).1
  refine (CallP.closed rfl hz (cx_good hG ht h5) this h3 ha w).mono ?_
  rintro e w' ⟨u, rfl, hu, hb⟩
  exact ⟨r, u, rfl, h4, hu, hb⟩

theorem no_hooks {P : Program} {n m : Nat} {tab : TabF} {G : List SDef} (F : List Fact) : Hooks P (cxOf n m tab noHook G F) := fun _ _ _ h => by simp [cxOf, noHook] at h

theorem HRel.below {ng : Cx} {g : Inj} {H : List Blk} {w w' : World} (h : HRel ng g H w) (hb : RowKit.Below w.heap.size w w') : HRel ng g H w' ∧ Ext g H w g H w' := by
  refine ⟨⟨fun i L hi => ⟨(h.dom i L hi).1, Nat.lt_of_lt_of_le (h.dom i L hi).2 hb.size⟩, h.inj, ?_, h.glob, h.sig, fun i X hi hl => ⟨(h.frz i X hi hl).1.of_same (hb.block _ (h.frz i X hi hl).1.lt), (h.frz i X hi hl).2⟩⟩,
    ⟨Sub.refl g, (fun i L hi hn => by rw [hn] at hi; cases hi), Nat.le_refl _, fun _ _ hl => hl, hb.size, fun b hlt _ => hb.block b hlt, hb.os, hb.tape, hb.output⟩⟩
  intro i k hi hk
  obtain ⟨L, hL, hB⟩ := h.blk i k hi hk
  exact ⟨L, hL, hB.of_same (hb.block _ (h.dom i L hL).2)⟩

/-- What is known of a call, of all arguments of a form, is known of it at each heap. -/
theorem callP_below {P : Program} {ng : Cx} {f : FuncId} {args : List AVal} {v : AVal}
    (h : ∀ (g : Inj) (w : World) (args' : Array Value), ng.Good g.sig → LRel g args args'.toList → Calls P f args' w fun e w' => ∃ u, e = .returned u ∧ VRel g v u ∧ RowKit.Below w.heap.size w w') (hp : Hp) : CallP P ng f args hp (.val v) hp := by
  refine ⟨Touch.refl _, fun g w args' hH ha => (h g w args' hH.sig ha).mono ?_⟩
  rintro e w' ⟨u, rfl, hu, hb⟩
  obtain ⟨h1, h2⟩ := hH.below hb
  exact ⟨g, ⟨u, rfl, hu⟩, h1, h2⟩

end Go.Ev
