/- Valuations of unknowns: each is what its operation gives; contexts out of them. -/
import Derived.Test.YtlhaklmnjdgjgacGreatEwT
namespace Go.Ev

def sameV (a b : AVal) : Bool := eqV a b

theorem sameV_eq {a b : AVal} (h : sameV a b = true) : a = b := eqV_eq a b h

def samePs : List (AVal × AVal) → List (AVal × AVal) → Bool
  | [], [] => true
  | a :: l, b :: m => eqV a.1 b.1 && eqV a.2 b.2 && samePs l m
  | _, _ => false

theorem samePs_eq : ∀ {l m : List (AVal × AVal)}, samePs l m = true → l = m
  | [], [], _ => rfl
  | (a, a') :: l, (b, b') :: m, h => by
    simp only [samePs, Bool.and_eq_true] at h
    rw [eqV_eq _ _ h.1.1, eqV_eq _ _ h.1.2, samePs_eq h.2]
  | [], _ :: _, h => by simp [samePs] at h
  | _ :: _, [], h => by simp [samePs] at h

def sameD : SDef → SDef → Bool
  | .bin o a b, .bin o' a' b' => decide (o = o') && (eqV a a' && eqV b b')
  | .un o a, .un o' a' => decide (o = o') && eqV a a'
  | .conv k a, .conv k' a' => decide (k = k') && eqV a a'
  | .low l, .low m => eqVs l m
  | .high l, .high m => eqVs l m
  | .all l, .all m => samePs l m
  | .text l, .text m => eqVs l m
  | .fn i k l, .fn j k' m => Nat.beq i j && (decide (k = k') && eqVs l m)
  | .fnb i l, .fnb j m => Nat.beq i j && eqVs l m
  | .ite c a b, .ite c' a' b' => eqV c c' && (eqV a a' && eqV b b')
  | .sel l a, .sel m b => eqV a b && eqVs l m
  | .sop o l, .sop o' m => decide (o = o') && eqVs l m
  | _, _ => false

theorem sameD_eq {d e : SDef} (h : sameD d e = true) : d = e := by
  unfold sameD at h
  split at h
  · simp only [Bool.and_eq_true, decide_eq_true_eq] at h; rw [h.1, eqV_eq _ _ h.2.1, eqV_eq _ _ h.2.2]
  · simp only [Bool.and_eq_true, decide_eq_true_eq] at h; rw [h.1, eqV_eq _ _ h.2]
  · simp only [Bool.and_eq_true, decide_eq_true_eq] at h; rw [h.1, eqV_eq _ _ h.2]
  · rw [eqVs_eq _ _ h]
  · rw [eqVs_eq _ _ h]
  · rw [samePs_eq h]
  · rw [eqVs_eq _ _ h]
  · simp only [Bool.and_eq_true, decide_eq_true_eq] at h; rw [Nat.eq_of_beq_eq_true h.1, h.2.1, eqVs_eq _ _ h.2.2]
  · simp only [Bool.and_eq_true] at h; rw [Nat.eq_of_beq_eq_true h.1, eqVs_eq _ _ h.2]
  · simp only [Bool.and_eq_true] at h; rw [eqV_eq _ _ h.1, eqV_eq _ _ h.2.1, eqV_eq _ _ h.2.2]
  · simp only [Bool.and_eq_true] at h; rw [eqV_eq _ _ h.1, eqVs_eq _ _ h.2]
  · simp only [Bool.and_eq_true, decide_eq_true_eq] at h; rw [h.1, eqVs_eq _ _ h.2]
  · cases h

/-! ### Looking an operation up: a tree by a number of its own -/

inductive LT where
  | e
  | n (l : LT) (h : Nat) (i : Nat) (d : SDef) (r : LT)

def hashV : AVal → Nat
  | .int _ n => match n with
    | .ofNat k => 5 * k + 1
    | .negSucc k => 5 * k + 2
  | .symi _ i => 1000003 * i + 3
  | .symb i => 1000033 * i + 7
  | .syms i => 1000037 * i + 11
  | .bool b => match b with
    | true => 13
    | false => 17
  | _ => 19

def hashL : List AVal → Nat
  | [] => 1
  | a :: l => (hashV a + 31 * hashL l) % 1073741827

def hashP : List (AVal × AVal) → Nat
  | [] => 1
  | a :: l => (hashV a.1 + 37 * hashV a.2 + 31 * hashP l) % 1073741827

def hashO : BinOp → Nat
  | .add => 1
  | .sub => 2
  | .mul => 3
  | .quo => 4
  | .rem => 5
  | .and => 6
  | .or => 7
  | .xor => 8
  | .shl => 9
  | .shr => 10
  | .andNot => 11
  | .eql => 12
  | .neq => 13
  | .lss => 14
  | .leq => 15
  | .gtr => 16
  | .geq => 17

def hashD : SDef → Nat
  | .bin o a b => (hashO o * 7 + 101 * hashV a + 10007 * hashV b) % 1073741827
  | .un _ a => (101 * hashV a + 19) % 1073741827
  | .conv _ a => (103 * hashV a + 23) % 1073741827
  | .low l => (107 * hashL l + 29) % 1073741827
  | .high l => (109 * hashL l + 31) % 1073741827
  | .all l => (113 * hashP l + 37) % 1073741827
  | .text l => (127 * hashL l + 41) % 1073741827
  | .fn i _ l => (131 * hashL l + 43 * i + 47) % 1073741827
  | .fnb i l => (137 * hashL l + 53 * i + 59) % 1073741827
  | .ite c a b => (139 * hashV c + 149 * hashV a + 151 * hashV b + 61) % 1073741827
  | .sel l a => (157 * hashL l + 163 * hashV a + 67) % 1073741827
  | .sop o l => (167 * hashL l + 71 + (match o with
    | .len => 1
    | .at => 2
    | .sub => 3
    | .cat => 4)) % 1073741827

def lookT (d : SDef) (h : Nat) : LT → Option Nat
  | .e => none
  | .n l k i x r => match Nat.beq h k with
    | true => match sameD x d with
      | true => some i
      | false => lookT d h r
    | false => match Nat.blt h k with
      | true => lookT d h l
      | false => lookT d h r

def okLT (m : Nat) (G : List SDef) : LT → Bool
  | .e => true
  | .n l _ i x r => (match G[i - m]? with
    | some y => sameD y x && Nat.ble m i
    | none => false) && (okLT m G l && okLT m G r)

theorem lookT_spec {m : Nat} {G : List SDef} {d : SDef} {h : Nat} : ∀ {T : LT} {j : Nat}, okLT m G T = true → lookT d h T = some j → ∃ k, j = m + k ∧ G[k]? = some d
  | .e, _, _, hl => by simp [lookT] at hl
  | .n l k i x r, j, hT, hl => by
    simp only [okLT, Bool.and_eq_true] at hT
    simp only [lookT] at hl
    split at hl
    · split at hl
      · rename_i hs
        cases hl
        have hx := sameD_eq hs
        subst hx
        have h1 := hT.1
        split at h1
        · rename_i y hy
          simp only [Bool.and_eq_true, Nat.ble_eq] at h1
          have := sameD_eq h1.1
          subst this
          exact ⟨i - m, by omega, hy⟩
        · cases h1
      · exact lookT_spec hT.2.2 hl
    · split at hl
      · exact lookT_spec hT.2.1 hl
      · exact lookT_spec hT.2.2 hl

def factIn : List Fact → Nat → Option Bool
  | [], _ => none
  | x :: F, i => match x with
    | .tru j b => match Nat.beq j i with
      | true => some b
      | false => factIn F i
    | _ => factIn F i

def numIn : List Fact → Nat → Option Int
  | [], _ => none
  | x :: F, i => match x with
    | .isn j n => match Nat.beq j i with
      | true => some n
      | false => numIn F i
    | _ => numIn F i

theorem factIn_spec {σ : Sig} : ∀ {F : List Fact} {i : Nat} {b : Bool}, factIn F i = some b → Holds σ F → σ.bval i = b
  | [], _, _, h, _ => by simp [factIn] at h
  | x :: F, i, b, h, hF => by
    simp only [factIn] at h
    split at h
    · split at h
      · rename_i hs; cases h; have := Nat.eq_of_beq_eq_true hs; subst this; exact hF.1
      · exact factIn_spec h hF.2
    · exact factIn_spec h hF.2

theorem numIn_spec {σ : Sig} : ∀ {F : List Fact} {i : Nat} {n : Int}, numIn F i = some n → Holds σ F → σ.ival i = n
  | [], _, _, h, _ => by simp [numIn] at h
  | x :: F, i, b, h, hF => by
    simp only [numIn] at h
    split at h
    · split at h
      · rename_i hs; cases h; have := Nat.eq_of_beq_eq_true hs; subst this; exact hF.1
      · exact numIn_spec h hF.2
    · exact numIn_spec h hF.2

/-! ### The valuation -/

def setS (σ : Sig) (i : Nat) : AVal → Sig
  | .int _ n => ⟨fun j => if j = i then n else σ.ival j, σ.bval, σ.sval, σ.tab, σ.ext⟩
  | .bool b => ⟨σ.ival, fun j => if j = i then b else σ.bval j, σ.sval, σ.tab, σ.ext⟩
  | .str s => ⟨σ.ival, σ.bval, fun j => if j = i then s else σ.sval j, σ.tab, σ.ext⟩
  | _ => σ

def stepS (σ : Sig) (d : SDef) (i : Nat) : Sig :=
  match evalS σ d with
  | some v => setS σ i v
  | none => σ

def solve : List SDef → Nat → Sig → Sig
  | [], _, σ => σ
  | d :: G, i, σ => solve G (i + 1) (stepS σ d i)

structure Agree (n : Nat) (σ τ : Sig) : Prop where
  val : ∀ i, i < n → σ.ival i = τ.ival i ∧ σ.bval i = τ.bval i ∧ σ.sval i = τ.sval i
  tab : σ.tab = τ.tab
  ext : σ.ext = τ.ext

theorem agree_set (σ : Sig) (i : Nat) (v : AVal) : Agree i σ (setS σ i v) := by
  refine ⟨?_, by cases v <;> rfl, by cases v <;> rfl⟩
  intro j hj
  have : j ≠ i := by omega
  cases v <;> simp [setS, this]

theorem agree_step (σ : Sig) (d : SDef) (i : Nat) : Agree i σ (stepS σ d i) := by
  unfold stepS
  split
  · exact agree_set _ _ _
  · exact ⟨fun _ _ => ⟨rfl, rfl, rfl⟩, rfl, rfl⟩

theorem Agree.trans {n : Nat} {σ τ υ : Sig} (h : Agree n σ τ) (h' : Agree n τ υ) : Agree n σ υ := ⟨fun i hi =>
  ⟨(h.val i hi).1.trans (h'.val i hi).1, (h.val i hi).2.1.trans (h'.val i hi).2.1, (h.val i hi).2.2.trans (h'.val i hi).2.2⟩, h.tab.trans h'.tab, h.ext.trans h'.ext⟩

theorem Agree.less {n m : Nat} {σ τ : Sig} (h : Agree n σ τ) (hm : m ≤ n) : Agree m σ τ := ⟨fun i hi => h.val i (by omega), h.tab, h.ext⟩

theorem agree_solve : ∀ (G : List SDef) (i : Nat) (σ : Sig), Agree i σ (solve G i σ)
  | [], _, _ => ⟨fun _ _ => ⟨rfl, rfl, rfl⟩, rfl, rfl⟩
  | d :: G, i, σ => (agree_step σ d i).trans ((agree_solve G (i + 1) (stepS σ d i)).less (Nat.le_succ i))

def ltV (n : Nat) : AVal → Bool
  | .symi _ i => Nat.blt i n
  | .symb i => Nat.blt i n
  | .syms i => Nat.blt i n
  | _ => true

def ltVs (n : Nat) : List AVal → Bool
  | [] => true
  | a :: l => ltV n a && ltVs n l

def ltPs (n : Nat) : List (AVal × AVal) → Bool
  | [] => true
  | a :: l => ltV n a.1 && ltV n a.2 && ltPs n l

def ltD (n : Nat) : SDef → Bool
  | .bin _ a b => ltV n a && ltV n b
  | .un _ a => ltV n a
  | .conv _ a => ltV n a
  | .low l => ltVs n l
  | .high l => ltVs n l
  | .all l => ltPs n l
  | .text l => ltVs n l
  | .fn _ _ l => ltVs n l
  | .fnb _ l => ltVs n l
  | .ite c a b => ltV n c && (ltV n a && ltV n b)
  | .sel l a => ltV n a && ltVs n l
  | .sop _ l => ltVs n l

theorem den_agree {n : Nat} {σ τ : Sig} (h : Agree n σ τ) {a : AVal} (ha : ltV n a = true) : den σ a = den τ a := by
  cases a <;> simp only [ltV, Nat.blt_eq] at ha <;> simp only [den]
  · rw [(h.val _ ha).1]
  · rw [(h.val _ ha).2.1]
  · rw [(h.val _ ha).2.2]

theorem denVs_agree {n : Nat} {σ τ : Sig} (h : Agree n σ τ) : ∀ {l : List AVal}, ltVs n l = true → l.map (den σ) = l.map (den τ)
  | [], _ => rfl
  | a :: l, ha => by
    simp only [ltVs, Bool.and_eq_true] at ha
    simp [den_agree h ha.1, denVs_agree h ha.2]

theorem denPs_agree {n : Nat} {σ τ : Sig} (h : Agree n σ τ) : ∀ {l : List (AVal × AVal)}, ltPs n l = true → (l.all fun x => eqS (den σ x.1) (den σ x.2)) = (l.all fun x => eqS (den τ x.1) (den τ x.2))
  | [], _ => rfl
  | a :: l, ha => by
    simp only [ltPs, Bool.and_eq_true] at ha
    simp only [List.all_cons, den_agree h ha.1.1, den_agree h ha.1.2, denPs_agree h ha.2]

theorem evalS_agree {n : Nat} {σ τ : Sig} (h : Agree n σ τ) {d : SDef} (hd : ltD n d = true) : evalS σ d = evalS τ d := by
  cases d <;> simp only [ltD, Bool.and_eq_true] at hd <;> simp only [evalS]
  · rw [den_agree h hd.1, den_agree h hd.2]
  · rw [den_agree h hd]
  · rw [den_agree h hd]
  · rw [denVs_agree h hd]
  · rw [denVs_agree h hd]
  · rw [denPs_agree h hd]
  · rename_i l
    have e : ∀ ρ : Sig, (l.map fun a => byteS (den ρ a)) = (l.map (den ρ)).map byteS := fun ρ => by simp
    rw [e, e, denVs_agree h hd]
  · rename_i l
    have e : ∀ ρ : Sig, (l.map fun a => numS (den ρ a)) = (l.map (den ρ)).map numS := fun ρ => by simp
    rw [e, e, denVs_agree h hd, h.tab]
  · rename_i l
    have e : ∀ ρ : Sig, (l.map fun a => numS (den ρ a)) = (l.map (den ρ)).map numS := fun ρ => by simp
    rw [e, e, denVs_agree h hd, h.tab]
  · rw [den_agree h hd.1, den_agree h hd.2.1, den_agree h hd.2.2]
  · rename_i l a
    rw [den_agree h hd.1]
    have hl := denVs_agree h hd.2
    cases l with
    | nil => rfl
    | cons b r =>
      have key : ∀ (n : Nat), den σ ((b :: r).getD n b) = den τ ((b :: r).getD n b) := by
        intro n
        have hh := congrArg (fun x => x[n]?) hl
        have h0 := congrArg (fun x => x[0]?) hl
        simp only [List.getElem?_map] at hh h0
        simp only [List.getD_eq_getElem?_getD]
        cases hg : (b :: r)[n]? with
        | some c => rw [hg] at hh; simpa using hh
        | none => simpa using h0
      simp only [key]
  · rw [denVs_agree h hd]

/-! ### Operations that always give something -/

def litNe0 : AVal → Bool
  | .int _ n => !(n == 0)
  | _ => false

def litGe0 : AVal → Bool
  | .int _ n => decide (0 ≤ n)
  | _ => false

def totB (op : BinOp) (a b : AVal) : Bool :=
  match skOf a with
  | some (.i k) => match skOf b with
    | some (.i k') => match op with
      | .shl | .shr => litGe0 b
      | .quo | .rem => decide (k = k') && litNe0 b
      | .add | .sub | .mul | .and | .or | .xor | .andNot | .eql | .neq | .lss | .leq | .gtr | .geq => decide (k = k')
    | _ => false
  | some .s => match skOf b with
    | some .s => match op with
      | .eql | .neq | .lss | .leq | .gtr | .geq => true
      | _ => false
    | _ => false
  | some .b => match skOf b with
    | some .b => match op with
      | .eql | .neq => true
      | _ => false
    | _ => false
  | none => false

def isIv (a : AVal) : Bool :=
  match skOf a with
  | some (.i _) => true
  | _ => false

def isBv (a : AVal) : Bool :=
  match skOf a with
  | some .b => true
  | _ => false

def totL : List AVal → Bool
  | [a, b] => isIv a && isIv b
  | [a, b, c] => isIv a && isIv b && isIv c
  | _ => false

def allK (a : AVal) : List AVal → Bool
  | [] => true
  | b :: l => sameK a b && allK a l

def isSv (a : AVal) : Bool :=
  match skOf a with
  | some .s => true
  | _ => false

def totS (o : SOp) (l : List AVal) : Bool :=
  match o with
  | .len => match l with
    | [a] => isSv a
    | _ => false
  | .at => match l with
    | [a, b] => isSv a && isIv b
    | _ => false
  | .sub => match l with
    | [a, b, c] => isSv a && (isIv b && isIv c)
    | _ => false
  | .cat => match l with
    | [a, b] => isSv a && isSv b
    | _ => false

def totD : SDef → Bool
  | .bin op a b => totB op a b
  | .un op a => match op with
    | .not => isBv a
    | .neg => isIv a
    | .xor => isIv a
    | _ => false
  | .conv _ a => isIv a
  | .low l => totL l
  | .high l => totL l
  | .all _ => true
  | .text _ => true
  | .fn _ _ _ => true
  | .fnb _ _ => true
  | .ite c a b => isBv c && sameK a b
  | .sel l ix => isIv ix && (match l with
    | [] => false
    | a :: r => sameK a a && allK a r)
  | .sop o l => totS o l

theorem isIv_spec {a : AVal} (h : isIv a = true) : ∃ k, skOf a = some (.i k) := by
  unfold isIv at h
  split at h
  · exact ⟨_, by assumption⟩
  · cases h

theorem isBv_spec {a : AVal} (h : isBv a = true) : skOf a = some .b := by
  unfold isBv at h
  split at h
  · assumption
  · cases h

theorem isSv_spec {a : AVal} (h : isSv a = true) : skOf a = some .s := by
  unfold isSv at h
  split at h
  · assumption
  · cases h

/-- what is given, and that it is what the unknown then is -/
def Gives (σ : Sig) (d : SDef) : Prop := ∃ v, evalS σ d = some v ∧ ∀ τ i, den (setS τ i v) (resS d i) = v

theorem set_i (τ : Sig) (i : Nat) (k : IntKind) (n : Int) : den (setS τ i (.int k n)) (.symi k i) = .int k n := by simp [setS, den]
theorem set_b (τ : Sig) (i : Nat) (n : Bool) : den (setS τ i (.bool n)) (.symb i) = .bool n := by simp [setS, den]
theorem set_s (τ : Sig) (i : Nat) (n : ByteArray) : den (setS τ i (.str n)) (.syms i) = .str n := by simp [setS, den]

theorem like_set {a : AVal} (h : sameK a a = true) (σ τ : Sig) (i : Nat) : den (setS τ i (den σ a)) (likeS a i) = den σ a := by
  cases a <;> simp only [sameK, skOf, Bool.false_eq_true] at h <;> simp only [likeS, den] <;> first | exact set_i _ _ _ _ | exact set_b _ _ _ | exact set_s _ _ _

theorem likeS_same {a b : AVal} (h : sameK a b = true) (i : Nat) : likeS a i = likeS b i := by
  cases a <;> simp only [sameK, skOf, Bool.false_eq_true] at h <;> cases b <;> simp only [Bool.false_eq_true] at h <;> simp only [likeS] <;> (simp only [decide_eq_true_eq] at h; rw [h])

theorem sameK_self {a b : AVal} (h : sameK a b = true) : sameK a a = true := by
  cases a <;> simp [sameK, skOf] at h ⊢

theorem sameK_self' {a b : AVal} (h : sameK a b = true) : sameK b b = true := by
  cases b <;> cases a <;> simp [sameK, skOf] at h ⊢

theorem allK_spec {a : AVal} : ∀ {l : List AVal}, allK a l = true → ∀ c, c ∈ l → sameK a c = true
  | b :: l, h, c, hc => by
    simp only [allK, Bool.and_eq_true] at h
    rcases List.mem_cons.1 hc with rfl | hc
    · exact h.1
    · exact allK_spec h.2 c hc

theorem totB_gives {σ : Sig} {op : BinOp} {a b : AVal} (h : totB op a b = true) : Gives σ (.bin op a b) := by
  unfold totB at h
  split at h
  · rename_i k ha
    obtain ⟨⟨x, hx⟩, hl⟩ := sk_i ha σ
    split at h
    · rename_i k' hb
      obtain ⟨⟨y, hy⟩, _⟩ := sk_i hb σ
      have e : evalS σ (.bin op a b) = intA op k x k' y := by simp only [evalS, hx, hy, binS]
      have lit : litGe0 b = true → 0 ≤ y := by
        intro hq
        cases b <;> simp only [litGe0, decide_eq_true_eq, Bool.false_eq_true] at hq
        simp only [den, AVal.int.injEq] at hy
        omega
      have lit' : litNe0 b = true → y ≠ 0 := by
        intro hq
        cases b <;> simp only [litNe0, Bool.not_eq_true', beq_eq_false_iff_ne, Bool.false_eq_true] at hq
        simp only [den, AVal.int.injEq] at hy
        obtain ⟨_, rfl⟩ := hy
        exact hq
      cases op <;> simp only [Bool.and_eq_true, decide_eq_true_eq] at h
      case shl => have := lit h; exact ⟨_, by rw [e]; simp only [intA, if_neg (Int.not_lt.2 this)]; rfl, fun τ i => by simp only [resS, hl]; exact set_i _ _ _ _⟩
      case shr => have := lit h; exact ⟨_, by rw [e]; simp only [intA, if_neg (Int.not_lt.2 this)]; rfl, fun τ i => by simp only [resS, hl]; exact set_i _ _ _ _⟩
      case quo => obtain ⟨rfl, h⟩ := h; have := lit' h; exact ⟨_, by rw [e]; simp only [intA, if_true, if_neg this]; rfl, fun τ i => by simp only [resS, hl]; exact set_i _ _ _ _⟩
      case rem => obtain ⟨rfl, h⟩ := h; have := lit' h; exact ⟨_, by rw [e]; simp only [intA, if_true, if_neg this]; rfl, fun τ i => by simp only [resS, hl]; exact set_i _ _ _ _⟩
      all_goals first
        | (subst h; exact ⟨_, by rw [e]; simp only [intA, if_true]; rfl, fun τ i => by simp only [resS, hl]; exact set_i _ _ _ _⟩)
        | (subst h; exact ⟨_, by rw [e]; simp only [intA, if_true]; rfl, fun τ i => by simp only [resS]; exact set_b _ _ _⟩)
    · cases h
  · rename_i ha
    obtain ⟨⟨x, hx⟩, hl⟩ := sk_s ha σ
    split at h
    · rename_i hb
      obtain ⟨⟨y, hy⟩, _⟩ := sk_s hb σ
      have e : evalS σ (.bin op a b) = strA op x y := by simp only [evalS, hx, hy, binS]
      cases op <;> simp only [Bool.false_eq_true] at h
      all_goals exact ⟨_, by rw [e]; simp only [strA]; rfl, fun τ i => by simp only [resS]; exact set_b _ _ _⟩
    · cases h
  · rename_i ha
    obtain ⟨⟨x, hx⟩, hl⟩ := sk_b ha σ
    split at h
    · rename_i hb
      obtain ⟨⟨y, hy⟩, _⟩ := sk_b hb σ
      cases op <;> simp only [Bool.false_eq_true] at h
      all_goals exact ⟨_, by simp only [evalS, hx, hy, binS]; rfl, fun τ i => by simp only [resS]; exact set_b _ _ _⟩
    · cases h
  · cases h

theorem totL_gives {σ : Sig} {l : List AVal} (h : totL l = true) : Gives σ (.low l) ∧ Gives σ (.high l) := by
  unfold totL at h
  split at h
  · simp only [Bool.and_eq_true] at h
    obtain ⟨k, ha⟩ := isIv_spec h.1
    obtain ⟨k', hb⟩ := isIv_spec h.2
    obtain ⟨⟨x, hx⟩, hl⟩ := sk_i ha σ
    obtain ⟨⟨y, hy⟩, _⟩ := sk_i hb σ
    exact ⟨⟨_, by simp only [evalS, List.map, hx, hy, minA]; rfl, fun τ i => by simp only [resS, hl]; exact set_i _ _ _ _⟩,
      ⟨_, by simp only [evalS, List.map, hx, hy, maxA]; rfl, fun τ i => by simp only [resS, hl]; exact set_i _ _ _ _⟩⟩
  · simp only [Bool.and_eq_true] at h
    obtain ⟨k, ha⟩ := isIv_spec h.1.1
    obtain ⟨k', hb⟩ := isIv_spec h.1.2
    obtain ⟨k'', hc⟩ := isIv_spec h.2
    obtain ⟨⟨x, hx⟩, hl⟩ := sk_i ha σ
    obtain ⟨⟨y, hy⟩, _⟩ := sk_i hb σ
    obtain ⟨⟨z, hz⟩, _⟩ := sk_i hc σ
    exact ⟨⟨_, by simp only [evalS, List.map, hx, hy, hz, minA]; rfl, fun τ i => by simp only [resS, hl]; exact set_i _ _ _ _⟩,
      ⟨_, by simp only [evalS, List.map, hx, hy, hz, maxA]; rfl, fun τ i => by simp only [resS, hl]; exact set_i _ _ _ _⟩⟩
  · cases h

theorem totS_gives {σ : Sig} {o : SOp} {l : List AVal} (h : totS o l = true) : Gives σ (.sop o l) := by
  unfold totS at h
  split at h
  · split at h
    · obtain ⟨⟨x, hx⟩, _⟩ := sk_s (isSv_spec h) σ
      exact ⟨_, by simp only [evalS, List.map, hx, sopA]; rfl, fun τ i => set_i _ _ _ _⟩
    · cases h
  · split at h
    · simp only [Bool.and_eq_true] at h
      obtain ⟨⟨x, hx⟩, _⟩ := sk_s (isSv_spec h.1) σ
      obtain ⟨k, hk⟩ := isIv_spec h.2
      obtain ⟨⟨y, hy⟩, _⟩ := sk_i hk σ
      exact ⟨_, by simp only [evalS, List.map, hx, hy, sopA]; rfl, fun τ i => set_i _ _ _ _⟩
    · cases h
  · split at h
    · simp only [Bool.and_eq_true] at h
      obtain ⟨⟨x, hx⟩, _⟩ := sk_s (isSv_spec h.1) σ
      obtain ⟨k, hk⟩ := isIv_spec h.2.1
      obtain ⟨⟨y, hy⟩, _⟩ := sk_i hk σ
      obtain ⟨k', hk'⟩ := isIv_spec h.2.2
      obtain ⟨⟨z, hz⟩, _⟩ := sk_i hk' σ
      exact ⟨_, by simp only [evalS, List.map, hx, hy, hz, sopA]; rfl, fun τ i => set_s _ _ _⟩
    · cases h
  · split at h
    · simp only [Bool.and_eq_true] at h
      obtain ⟨⟨x, hx⟩, _⟩ := sk_s (isSv_spec h.1) σ
      obtain ⟨⟨y, hy⟩, _⟩ := sk_s (isSv_spec h.2) σ
      exact ⟨_, by simp only [evalS, List.map, hx, hy, sopA]; rfl, fun τ i => set_s _ _ _⟩
    · cases h

theorem totD_gives {σ : Sig} {d : SDef} (h : totD d = true) : Gives σ d := by
  cases d with
  | bin op a b => exact totB_gives h
  | un op a =>
    cases op <;> simp only [totD, Bool.false_eq_true] at h
    all_goals first
      | (obtain ⟨⟨x, hx⟩, hl⟩ := sk_b (isBv_spec h) σ; exact ⟨_, by simp only [evalS, hx, unA]; rfl, fun τ i => by simp only [resS, hl]; exact set_b _ _ _⟩)
      | (obtain ⟨k, hk⟩ := isIv_spec h; obtain ⟨⟨x, hx⟩, hl⟩ := sk_i hk σ; exact ⟨_, by simp only [evalS, hx, unA]; rfl, fun τ i => by simp only [resS, hl]; exact set_i _ _ _ _⟩)
  | conv k a =>
    obtain ⟨k', hk⟩ := isIv_spec h
    obtain ⟨⟨x, hx⟩, hl⟩ := sk_i hk σ
    exact ⟨_, by simp only [evalS, hx, convS]; rfl, fun τ i => by simp only [resS]; exact set_i _ _ _ _⟩
  | low l => exact (totL_gives h).1
  | high l => exact (totL_gives h).2
  | all l => exact ⟨_, rfl, fun τ i => set_b _ _ _⟩
  | text l => exact ⟨_, rfl, fun τ i => set_s _ _ _⟩
  | fn id k l => exact ⟨_, rfl, fun τ i => set_i _ _ _ _⟩
  | fnb id l => exact ⟨_, rfl, fun τ i => set_b _ _ _⟩
  | ite c a b =>
    simp only [totD, Bool.and_eq_true] at h
    obtain ⟨⟨x, hx⟩, _⟩ := sk_b (isBv_spec h.1) σ
    refine ⟨bif x then den σ a else den σ b, by simp only [evalS, hx], fun τ i => ?_⟩
    simp only [resS]
    cases x with
    | true => exact like_set (sameK_self h.2) σ τ i
    | false => simp only [cond_false]; rw [likeS_same h.2 i]; exact like_set (sameK_self' h.2) σ τ i
  | sel l ix =>
    simp only [totD, Bool.and_eq_true] at h
    obtain ⟨k, hk⟩ := isIv_spec h.1
    obtain ⟨⟨x, hx⟩, _⟩ := sk_i hk σ
    have h2 := h.2
    cases l with
    | nil => cases h2
    | cons a r =>
      simp only [Bool.and_eq_true] at h2
      refine ⟨_, by simp only [evalS, hx]; rfl, fun τ i => ?_⟩
      simp only [resS]
      have hm : sameK a ((a :: r).getD x.toNat a) = true := by
        simp only [List.getD_eq_getElem?_getD]
        cases hg : (a :: r)[x.toNat]? with
        | none => simpa using h2.1
        | some c =>
          have hc := List.mem_of_getElem? hg
          rcases List.mem_cons.1 hc with rfl | hc
          · simpa using h2.1
          · exact allK_spec h2.2 c hc
      rw [likeS_same hm i]
      exact like_set (sameK_self' hm) σ τ i
  | sop o l => exact totS_gives h

/-- what gives something unless the unknown divisor is 0 -/
def condD : SDef → Option Nat
  | .bin op a b => match op with
    | .quo | .rem => match skOf a with
      | some (.i k) => match b with
        | .symi k' j => if k = k' then some j else none
        | _ => none
      | _ => none
    | _ => none
  | _ => none

def totC (d : SDef) : Bool :=
  match condD d with
  | some _ => true
  | none => totD d

theorem condD_gives {σ : Sig} {d : SDef} {j : Nat} (h : condD d = some j) (hj : σ.ival j ≠ 0) : Gives σ d := by
  unfold condD at h
  split at h
  · rename_i op a b
    have go : ∀ k, skOf a = some (.i k) → ∀ k' i, b = .symi k' i → k = k' → i = j → (op = .quo ∨ op = .rem) → Gives σ (.bin op a b) := by
      intro k ha k' i hb hk hi ho
      subst hb; subst hk; subst hi
      obtain ⟨⟨x, hx⟩, hl⟩ := sk_i ha σ
      have hy : den σ (.symi k i) = .int k (σ.ival i) := rfl
      rcases ho with rfl | rfl
      · have e : evalS σ (.bin .quo a (.symi k i)) = intA .quo k x k (σ.ival i) := by simp only [evalS, hx, hy, binS]
        exact ⟨_, by rw [e]; simp only [intA, if_true, if_neg hj]; rfl, fun τ i => by simp only [resS, hl]; exact set_i _ _ _ _⟩
      · have e : evalS σ (.bin .rem a (.symi k i)) = intA .rem k x k (σ.ival i) := by simp only [evalS, hx, hy, binS]
        exact ⟨_, by rw [e]; simp only [intA, if_true, if_neg hj]; rfl, fun τ i => by simp only [resS, hl]; exact set_i _ _ _ _⟩
    cases op <;> simp only [reduceCtorEq] at h
    all_goals
      split at h
      · rename_i k hk
        split at h
        · rename_i k' i
          split at h
          · rename_i hkk
            cases h
            exact go k hk _ _ rfl hkk rfl (by simp)
          · cases h
        · cases h
      · cases h
  · cases h

def okG : List SDef → Nat → Bool
  | [], _ => true
  | d :: G, i => ltD i d && totC d && okG G (i + 1)

theorem ltV_resS (d : SDef) (i : Nat) : ltV (i + 1) (resS d i) = true := by
  have like : ∀ a : AVal, ltV (i + 1) (likeS a i) = true := by intro a; cases a <;> simp [likeS, ltV]
  cases d with
  | bin op a b => cases op <;> simp only [resS] <;> first | exact like a | simp [ltV]
  | un op a => exact like a
  | conv k a => simp [resS, ltV]
  | low l => cases l <;> simp only [resS] <;> first | exact like _ | simp [ltV]
  | high l => cases l <;> simp only [resS] <;> first | exact like _ | simp [ltV]
  | all l => simp [resS, ltV]
  | text l => simp [resS, ltV]
  | fn id k l => simp [resS, ltV]
  | fnb id l => simp [resS, ltV]
  | ite c a b => exact like a
  | sel l a => cases l <;> simp only [resS] <;> first | exact like _ | simp [ltV]
  | sop o l => cases o <;> simp [resS, ltV]

theorem solve_good : ∀ {G : List SDef} {i : Nat} {σ : Sig}, okG G i = true → ∀ {k : Nat} {d : SDef}, G[k]? = some d → (∀ j, condD d = some j → (solve G i σ).ival j ≠ 0) → evalS (solve G i σ) d = some (den (solve G i σ) (resS d (i + k)))
  | [], _, _, _, _, _, h, _ => by simp at h
  | d :: G, i, σ, h, 0, d', hd, hc => by
    simp only [List.getElem?_cons_zero, Option.some.injEq] at hd
    subst hd
    simp only [okG, Bool.and_eq_true] at h
    obtain ⟨⟨h1, h2⟩, h3⟩ := h
    have k1 : Agree i σ (solve (d :: G) i σ) := agree_solve _ _ _
    have hgiv : Gives σ d := by
      unfold totC at h2
      split at h2
      · rename_i j hj
        refine condD_gives hj ?_
        have hlt : j < i := by
          unfold condD at hj
          split at hj
          · rename_i op a b
            have go : ∀ k' l, b = .symi k' l → l = j → j < i := by
              intro k' l hb hl
              subst hb; subst hl
              simp only [ltD, ltV, Bool.and_eq_true, Nat.blt_eq] at h1
              exact h1.2
            cases op <;> simp only [reduceCtorEq] at hj
            all_goals
              split at hj
              · split at hj
                · rename_i k' l
                  split at hj
                  · cases hj; exact go _ _ rfl rfl
                  · cases hj
                · cases hj
              · cases hj
          · cases hj
        rw [(k1.val j hlt).1]
        exact hc j hj
      · exact totD_gives h2
    obtain ⟨v, e1, e2⟩ := hgiv
    have hs : stepS σ d i = setS σ i v := by simp only [stepS, e1]
    have k2 : Agree (i + 1) (setS σ i v) (solve (d :: G) i σ) := by simp only [solve, hs]; exact agree_solve _ _ _
    rw [← evalS_agree k1 h1, e1, Nat.add_zero, ← den_agree k2 (ltV_resS d i), e2]
  | d :: G, i, σ, h, k + 1, d', hd, hc => by
    simp only [okG, Bool.and_eq_true] at h
    simp only [List.getElem?_cons_succ] at hd
    have := solve_good (σ := stepS σ d i) h.2 hd hc
    rw [show i + (k + 1) = i + 1 + k by omega]
    exact this


end Go.Ev
