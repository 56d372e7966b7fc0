/- The evaluator, part 8. -/
import Derived.Test.YtapfkgenachpgaaEv7
namespace Go.Ev
def sameV (a b : AVal) : Bool := eqV a b
theorem sameV_eq {a b : AVal} (h : sameV a b = true) : a = b := eqV_eq a b h
def samePs : List (AVal × AVal) → List (AVal × AVal) → Bool
  | [], [] => true
  | a :: l, b :: m => eqV a.1 b.1 && eqV a.2 b.2 && samePs l m
  | _, _ => false
theorem samePs_eq : ∀ {l m : List (AVal × AVal)}, samePs l m = true → l = m
  | [], [], _ => rfl
  | (a, a') :: l, (b, b') :: m, h => by
    simp only [samePs, Bool.and_eq_true] at h
    rw [eqV_eq _ _ h.1.1, eqV_eq _ _ h.1.2, samePs_eq h.2]
  | [], _ :: _, h => by simp [samePs] at h
  | _ :: _, [], h => by simp [samePs] at h
def sameD : SDef → SDef → Bool
  | .bin o a b, .bin o' a' b' => decide (o = o') && (eqV a a' && eqV b b')
  | .un o a, .un o' a' => decide (o = o') && eqV a a'
  | .conv k a, .conv k' a' => decide (k = k') && eqV a a'
  | .low l, .low m => eqVs l m
  | .high l, .high m => eqVs l m
  | .all l, .all m => samePs l m
  | .text l, .text m => eqVs l m
  | .fn i k l, .fn j k' m => Nat.beq i j && (decide (k = k') && eqVs l m)
  | .fnb i l, .fnb j m => Nat.beq i j && eqVs l m
  | .ite c a b, .ite c' a' b' => eqV c c' && (eqV a a' && eqV b b')
  | .sel l a, .sel m b => eqV a b && eqVs l m
  | .sop o l, .sop o' m => decide (o = o') && eqVs l m
  | _, _ => false
theorem sameD_eq {d e : SDef} (h : sameD d e = true) : d = e := by
  unfold sameD at h
  split at h
  · simp only [Bool.and_eq_true, decide_eq_true_eq] at h; rw [h.1, eqV_eq _ _ h.2.1, eqV_eq _ _ h.2.2]
  · simp only [Bool.and_eq_true, decide_eq_true_eq] at h; rw [h.1, eqV_eq _ _ h.2]
  · simp only [Bool.and_eq_true, decide_eq_true_eq] at h; rw [h.1, eqV_eq _ _ h.2]
  · rw [eqVs_eq _ _ h]
  · rw [eqVs_eq _ _ h]
  · rw [samePs_eq h]
  · rw [eqVs_eq _ _ h]
  · simp only [Bool.and_eq_true, decide_eq_true_eq] at h; rw [Nat.eq_of_beq_eq_true h.1, h.2.1, eqVs_eq _ _ h.2.2]
  · simp only [Bool.and_eq_true] at h; rw [Nat.eq_of_beq_eq_true h.1, eqVs_eq _ _ h.2]
  · simp only [Bool.and_eq_true] at h; rw [eqV_eq _ _ h.1, eqV_eq _ _ h.2.1, eqV_eq _ _ h.2.2]
  · simp only [Bool.and_eq_true] at h; rw [eqV_eq _ _ h.1, eqVs_eq _ _ h.2]
  · simp only [Bool.and_eq_true, decide_eq_true_eq] at h; rw [h.1, eqVs_eq _ _ h.2]
  · cases h
inductive LT where
  | e
  | n (l : LT) (h : Nat) (i : Nat) (d : SDef) (r : LT)
def hashV : AVal → Nat
  | .int _ n => match n with
    | .ofNat k => 5 * k + 1
    | .negSucc k => 5 * k + 2
  | .symi _ i => 1000003 * i + 3
  | .symb i => 1000033 * i + 7
  | .syms i => 1000037 * i + 11
  | .bool b => match b with
    | true => 13
    | false => 17
  | _ => 19
def hashL : List AVal → Nat
  | [] => 1
  | a :: l => (hashV a + 31 * hashL l) % 1073741827
def hashP : List (AVal × AVal) → Nat
  | [] => 1
  | a :: l => (hashV a.1 + 37 * hashV a.2 + 31 * hashP l) % 1073741827
def hashO : BinOp → Nat
  | .add => 1
  | .sub => 2
  | .mul => 3
  | .quo => 4
  | .rem => 5
  | .and => 6
  | .or => 7
  | .xor => 8
  | .shl => 9
  | .shr => 10
  | .andNot => 11
  | .eql => 12
  | .neq => 13
  | .lss => 14
  | .leq => 15
  | .gtr => 16
  | .geq => 17
def hashD : SDef → Nat
  | .bin o a b => (hashO o * 7 + 101 * hashV a + 10007 * hashV b) % 1073741827
  | .un _ a => (101 * hashV a + 19) % 1073741827
  | .conv _ a => (103 * hashV a + 23) % 1073741827
  | .low l => (107 * hashL l + 29) % 1073741827
  | .high l => (109 * hashL l + 31) % 1073741827
  | .all l => (113 * hashP l + 37) % 1073741827
  | .text l => (127 * hashL l + 41) % 1073741827
  | .fn i _ l => (131 * hashL l + 43 * i + 47) % 1073741827
  | .fnb i l => (137 * hashL l + 53 * i + 59) % 1073741827
  | .ite c a b => (139 * hashV c + 149 * hashV a + 151 * hashV b + 61) % 1073741827
  | .sel l a => (157 * hashL l + 163 * hashV a + 67) % 1073741827
  | .sop o l => (167 * hashL l + 71 + (match o with
    | .len => 1
    | .at => 2
    | .sub => 3
    | .cat => 4
    | .row _ => 5
    | .rsub _ => 6
    | .fs i => 1000 * i + 7
    | .upd _ j => 2 * j + 8
    | .cell _ j => 2 * j + 9)) % 1073741827
def lookT (d : SDef) (h : Nat) : LT → Option Nat
  | .e => none
  | .n l k i x r => match Nat.beq h k with
    | true => match sameD x d with
      | true => some i
      | false => lookT d h r
    | false => match Nat.blt h k with
      | true => lookT d h l
      | false => lookT d h r
def okLT (m : Nat) (G : List SDef) : LT → Bool
  | .e => true
  | .n l _ i x r => (match G[i - m]? with
    | some y => sameD y x && Nat.ble m i
    | none => false) && (okLT m G l && okLT m G r)
theorem lookT_spec {m : Nat} {G : List SDef} {d : SDef} {h : Nat} : ∀ {T : LT} {j : Nat}, okLT m G T = true → lookT d h T = some j → ∃ k, j = m + k ∧ G[k]? = some d
  | .e, _, _, hl => by simp [lookT] at hl
  | .n l k i x r, j, hT, hl => by
    simp only [okLT, Bool.and_eq_true] at hT
    simp only [lookT] at hl
    split at hl
    · split at hl
      · rename_i hs
        cases hl
        have hx := sameD_eq hs
        subst hx
        have h1 := hT.1
        split at h1
        · rename_i y hy
          simp only [Bool.and_eq_true, Nat.ble_eq] at h1
          have := sameD_eq h1.1
          subst this
          exact ⟨i - m, by omega, hy⟩
        · cases h1
      · exact lookT_spec hT.2.2 hl
    · split at hl
      · exact lookT_spec hT.2.1 hl
      · exact lookT_spec hT.2.2 hl
def factIn : List Fact → Nat → Option Bool
  | [], _ => none
  | x :: F, i => match x with
    | .tru j b => match Nat.beq j i with
      | true => some b
      | false => factIn F i
    | _ => factIn F i
def numIn : List Fact → Nat → Option Int
  | [], _ => none
  | x :: F, i => match x with
    | .isn j n => match Nat.beq j i with
      | true => some n
      | false => numIn F i
    | _ => numIn F i
theorem factIn_spec {σ : Sig} : ∀ {F : List Fact} {i : Nat} {b : Bool}, factIn F i = some b → Holds σ F → σ.bval i = b
  | [], _, _, h, _ => by simp [factIn] at h
  | x :: F, i, b, h, hF => by
    simp only [factIn] at h
    split at h
    · split at h
      · rename_i hs; cases h; have := Nat.eq_of_beq_eq_true hs; subst this; exact hF.1
      · exact factIn_spec h hF.2
    · exact factIn_spec h hF.2
theorem numIn_spec {σ : Sig} : ∀ {F : List Fact} {i : Nat} {n : Int}, numIn F i = some n → Holds σ F → σ.ival i = n
  | [], _, _, h, _ => by simp [numIn] at h
  | x :: F, i, b, h, hF => by
    simp only [numIn] at h
    split at h
    · split at h
      · rename_i hs; cases h; have := Nat.eq_of_beq_eq_true hs; subst this; exact hF.1
      · exact numIn_spec h hF.2
    · exact numIn_spec h hF.2
def setS (σ : Sig) (i : Nat) : AVal → Sig
  | .int _ n => ⟨fun j => if j = i then n else σ.ival j, σ.bval, σ.sval, σ.tab, σ.ext⟩
  | .bool b => ⟨σ.ival, fun j => if j = i then b else σ.bval j, σ.sval, σ.tab, σ.ext⟩
  | .str s => ⟨σ.ival, σ.bval, fun j => if j = i then s else σ.sval j, σ.tab, σ.ext⟩
  | _ => σ
def stepS (σ : Sig) (d : SDef) (i : Nat) : Sig :=
  match evalS σ d with
  | some v => setS σ i v
  | none => σ
def solve : List SDef → Nat → Sig → Sig
  | [], _, σ => σ
  | d :: G, i, σ => solve G (i + 1) (stepS σ d i)
structure Agree (n : Nat) (σ τ : Sig) : Prop where
  val : ∀ i, i < n → σ.ival i = τ.ival i ∧ σ.bval i = τ.bval i ∧ σ.sval i = τ.sval i
  tab : σ.tab = τ.tab
  ext : σ.ext = τ.ext
theorem agree_set (σ : Sig) (i : Nat) (v : AVal) : Agree i σ (setS σ i v) := by
  refine ⟨?_, by cases v <;> rfl, by cases v <;> rfl⟩
  intro j hj
  have : j ≠ i := by omega
  cases v <;> simp [setS, this]
theorem agree_step (σ : Sig) (d : SDef) (i : Nat) : Agree i σ (stepS σ d i) := by
  unfold stepS
  split
  · exact agree_set _ _ _
  · exact ⟨fun _ _ => ⟨rfl, rfl, rfl⟩, rfl, rfl⟩
theorem Agree.trans {n : Nat} {σ τ υ : Sig} (h : Agree n σ τ) (h' : Agree n τ υ) : Agree n σ υ := ⟨fun i hi =>
  ⟨(h.val i hi).1.trans (h'.val i hi).1, (h.val i hi).2.1.trans (h'.val i hi).2.1, (h.val i hi).2.2.trans (h'.val i hi).2.2⟩, h.tab.trans h'.tab, h.ext.trans h'.ext⟩
theorem Agree.less {n m : Nat} {σ τ : Sig} (h : Agree n σ τ) (hm : m ≤ n) : Agree m σ τ := ⟨fun i hi => h.val i (by omega), h.tab, h.ext⟩
theorem agree_solve : ∀ (G : List SDef) (i : Nat) (σ : Sig), Agree i σ (solve G i σ)
  | [], _, _ => ⟨fun _ _ => ⟨rfl, rfl, rfl⟩, rfl, rfl⟩
  | d :: G, i, σ => (agree_step σ d i).trans ((agree_solve G (i + 1) (stepS σ d i)).less (Nat.le_succ i))
def ltV (n : Nat) : AVal → Bool
  | .symi _ i => Nat.blt i n
  | .symb i => Nat.blt i n
  | .syms i => Nat.blt i n
  | _ => true
def ltVs (n : Nat) : List AVal → Bool
  | [] => true
  | a :: l => ltV n a && ltVs n l
def ltPs (n : Nat) : List (AVal × AVal) → Bool
  | [] => true
  | a :: l => ltV n a.1 && ltV n a.2 && ltPs n l
def ltD (n : Nat) : SDef → Bool
  | .bin _ a b => ltV n a && ltV n b
  | .un _ a => ltV n a
  | .conv _ a => ltV n a
  | .low l => ltVs n l
  | .high l => ltVs n l
  | .all l => ltPs n l
  | .text l => ltVs n l
  | .fn _ _ l => ltVs n l
  | .fnb _ l => ltVs n l
  | .ite c a b => ltV n c && (ltV n a && ltV n b)
  | .sel l a => ltV n a && ltVs n l
  | .sop _ l => ltVs n l
theorem den_agree {n : Nat} {σ τ : Sig} (h : Agree n σ τ) {a : AVal} (ha : ltV n a = true) : den σ a = den τ a := by
  cases a <;> simp only [ltV, Nat.blt_eq] at ha <;> simp only [den]
  · rw [(h.val _ ha).1]
  · rw [(h.val _ ha).2.1]
  · rw [(h.val _ ha).2.2]
theorem denVs_agree {n : Nat} {σ τ : Sig} (h : Agree n σ τ) : ∀ {l : List AVal}, ltVs n l = true → l.map (den σ) = l.map (den τ)
  | [], _ => rfl
  | a :: l, ha => by
    simp only [ltVs, Bool.and_eq_true] at ha
    simp [den_agree h ha.1, denVs_agree h ha.2]
theorem denPs_agree {n : Nat} {σ τ : Sig} (h : Agree n σ τ) : ∀ {l : List (AVal × AVal)}, ltPs n l = true → (l.all fun x => eqS (den σ x.1) (den σ x.2)) = (l.all fun x => eqS (den τ x.1) (den τ x.2))
  | [], _ => rfl
  | a :: l, ha => by
    simp only [ltPs, Bool.and_eq_true] at ha
    simp only [List.all_cons, den_agree h ha.1.1, den_agree h ha.1.2, denPs_agree h ha.2]
theorem evalS_agree {n : Nat} {σ τ : Sig} (h : Agree n σ τ) {d : SDef} (hd : ltD n d = true) : evalS σ d = evalS τ d := by
  cases d <;> simp only [ltD, Bool.and_eq_true] at hd <;> simp only [evalS]
  · rw [den_agree h hd.1, den_agree h hd.2]
  · rw [den_agree h hd]
  · rw [den_agree h hd]
  · rw [denVs_agree h hd]
  · rw [denVs_agree h hd]
  · rw [denPs_agree h hd]
  · rename_i l
    have e : ∀ ρ : Sig, (l.map fun a => byteS (den ρ a)) = (l.map (den ρ)).map byteS := fun ρ => by simp
    rw [e, e, denVs_agree h hd]
  · rename_i l
    have e : ∀ ρ : Sig, (l.map fun a => numS (den ρ a)) = (l.map (den ρ)).map numS := fun ρ => by simp
    rw [e, e, denVs_agree h hd, h.tab]
  · rename_i l
    have e : ∀ ρ : Sig, (l.map fun a => numS (den ρ a)) = (l.map (den ρ)).map numS := fun ρ => by simp
    rw [e, e, denVs_agree h hd, h.tab]
  · rw [den_agree h hd.1, den_agree h hd.2.1, den_agree h hd.2.2]
  · rename_i l a
    rw [den_agree h hd.1]
    have hl := denVs_agree h hd.2
    cases l with
    | nil => rfl
    | cons b r =>
      have key : ∀ (n : Nat), den σ ((b :: r).getD n b) = den τ ((b :: r).getD n b) := by
        intro n
        have hh := congrArg (fun x => x[n]?) hl
        have h0 := congrArg (fun x => x[0]?) hl
        simp only [List.getElem?_map] at hh h0
        simp only [List.getD_eq_getElem?_getD]
        cases hg : (b :: r)[n]? with
        | some c => rw [hg] at hh; simpa using hh
        | none => simpa using h0
      simp only [key]
  · rw [denVs_agree h hd, h.tab]
def litNe0 : AVal → Bool
  | .int _ n => !(n == 0)
  | _ => false
def litGe0 : AVal → Bool
  | .int _ n => decide (0 ≤ n)
  | _ => false
def totB (op : BinOp) (a b : AVal) : Bool :=
  match skOf a with
  | some (.i k) => match skOf b with
    | some (.i k') => match op with
      | .shl | .shr => litGe0 b
      | .quo | .rem => decide (k = k') && litNe0 b
      | .add | .sub | .mul | .and | .or | .xor | .andNot | .eql | .neq | .lss | .leq | .gtr | .geq => decide (k = k')
    | _ => false
  | some .s => match skOf b with
    | some .s => match op with
      | .eql | .neq | .lss | .leq | .gtr | .geq => true
      | _ => false
    | _ => false
  | some .b => match skOf b with
    | some .b => match op with
      | .eql | .neq => true
      | _ => false
    | _ => false
  | none => false
def isIv (a : AVal) : Bool :=
  match skOf a with
  | some (.i _) => true
  | _ => false
def isBv (a : AVal) : Bool :=
  match skOf a with
  | some .b => true
  | _ => false
def totL : List AVal → Bool
  | [a, b] => isIv a && isIv b
  | [a, b, c] => isIv a && isIv b && isIv c
  | _ => false
def allK (a : AVal) : List AVal → Bool
  | [] => true
  | b :: l => sameK a b && allK a l
def isSv (a : AVal) : Bool :=
  match skOf a with
  | some .s => true
  | _ => false
def totS (o : SOp) (l : List AVal) : Bool :=
  match o with
  | .len => match l with
    | [a] => isSv a
    | _ => false
  | .at => match l with
    | [a, b] => isSv a && isIv b
    | _ => false
  | .sub => match l with
    | [a, b, c] => isSv a && (isIv b && isIv c)
    | _ => false
  | .cat => match l with
    | [a, b] => isSv a && isSv b
    | _ => false
  | .row _ => true
  | .cell _ _ => match l with
    | [a, b] => isSv a && isIv b
    | _ => false
  | .rsub _ => match l with
    | [a, b, c] => isSv a && (isIv b && isIv c)
    | _ => false
  | .upd _ _ => match l with
    | [a, b, _] => isSv a && isIv b
    | _ => false
  | .fs _ => true
def totD : SDef → Bool
  | .bin op a b => totB op a b
  | .un op a => match op with
    | .not => isBv a
    | .neg => isIv a
    | .xor => isIv a
    | _ => false
  | .conv _ a => isIv a
  | .low l => totL l
  | .high l => totL l
  | .all _ => true
  | .text _ => true
  | .fn _ _ _ => true
  | .fnb _ _ => true
  | .ite c a b => isBv c && sameK a b
  | .sel l ix => isIv ix && (match l with
    | [] => false
    | a :: r => sameK a a && allK a r)
  | .sop o l => totS o l
theorem isIv_spec {a : AVal} (h : isIv a = true) : ∃ k, skOf a = some (.i k) := by
  unfold isIv at h
  split at h
  · exact ⟨_, by assumption⟩
  · cases h
theorem isBv_spec {a : AVal} (h : isBv a = true) : skOf a = some .b := by
  unfold isBv at h
  split at h
  · assumption
  · cases h
theorem isSv_spec {a : AVal} (h : isSv a = true) : skOf a = some .s := by
  unfold isSv at h
  split at h
  · assumption
  · cases h
def Gives (σ : Sig) (d : SDef) : Prop := ∃ v, evalS σ d = some v ∧ ∀ τ i, den (setS τ i v) (resS d i) = v
theorem set_i (τ : Sig) (i : Nat) (k : IntKind) (n : Int) : den (setS τ i (.int k n)) (.symi k i) = .int k n := by simp [setS, den]
theorem set_b (τ : Sig) (i : Nat) (n : Bool) : den (setS τ i (.bool n)) (.symb i) = .bool n := by simp [setS, den]
theorem set_s (τ : Sig) (i : Nat) (n : ByteArray) : den (setS τ i (.str n)) (.syms i) = .str n := by simp [setS, den]
theorem like_set {a : AVal} (h : sameK a a = true) (σ τ : Sig) (i : Nat) : den (setS τ i (den σ a)) (likeS a i) = den σ a := by
  cases a <;> simp only [sameK, skOf, Bool.false_eq_true] at h <;> simp only [likeS, den] <;> first | exact set_i _ _ _ _ | exact set_b _ _ _ | exact set_s _ _ _
theorem likeS_same {a b : AVal} (h : sameK a b = true) (i : Nat) : likeS a i = likeS b i := by
  cases a <;> simp only [sameK, skOf, Bool.false_eq_true] at h <;> cases b <;> simp only [Bool.false_eq_true] at h <;> simp only [likeS] <;> (simp only [decide_eq_true_eq] at h; rw [h])
theorem sameK_self {a b : AVal} (h : sameK a b = true) : sameK a a = true := by
  cases a <;> simp [sameK, skOf] at h ⊢
theorem sameK_self' {a b : AVal} (h : sameK a b = true) : sameK b b = true := by
  cases b <;> cases a <;> simp [sameK, skOf] at h ⊢
theorem allK_spec {a : AVal} : ∀ {l : List AVal}, allK a l = true → ∀ c, c ∈ l → sameK a c = true
  | b :: l, h, c, hc => by
    simp only [allK, Bool.and_eq_true] at h
    rcases List.mem_cons.1 hc with rfl | hc
    · exact h.1
    · exact allK_spec h.2 c hc
theorem totB_gives {σ : Sig} {op : BinOp} {a b : AVal} (h : totB op a b = true) : Gives σ (.bin op a b) := by
  unfold totB at h
  split at h
  · rename_i k ha
    obtain ⟨⟨x, hx⟩, hl⟩ := sk_i ha σ
    split at h
    · rename_i k' hb
      obtain ⟨⟨y, hy⟩, _⟩ := sk_i hb σ
      have e : evalS σ (.bin op a b) = intA op k x k' y := by simp only [evalS, hx, hy, binS]
      have lit : litGe0 b = true → 0 ≤ y := by
        intro hq
        cases b <;> simp only [litGe0, decide_eq_true_eq, Bool.false_eq_true] at hq
        simp only [den, AVal.int.injEq] at hy
        omega
      have lit' : litNe0 b = true → y ≠ 0 := by
        intro hq
        cases b <;> simp only [litNe0, Bool.not_eq_true', beq_eq_false_iff_ne, Bool.false_eq_true] at hq
        simp only [den, AVal.int.injEq] at hy
        obtain ⟨_, rfl⟩ := hy
        exact hq
      cases op <;> simp only [Bool.and_eq_true, decide_eq_true_eq] at h
      case shl => have := lit h; exact ⟨_, by rw [e]; simp only [intA, if_neg (Int.not_lt.2 this)]; rfl, fun τ i => by simp only [resS, hl]; exact set_i _ _ _ _⟩
      case shr => have := lit h; exact ⟨_, by rw [e]; simp only [intA, if_neg (Int.not_lt.2 this)]; rfl, fun τ i => by simp only [resS, hl]; exact set_i _ _ _ _⟩
      case quo => obtain ⟨rfl, h⟩ := h; have := lit' h; exact ⟨_, by rw [e]; simp only [intA, if_true, if_neg this]; rfl, fun τ i => by simp only [resS, hl]; exact set_i _ _ _ _⟩
      case rem => obtain ⟨rfl, h⟩ := h; have := lit' h; exact ⟨_, by rw [e]; simp only [intA, if_true, if_neg this]; rfl, fun τ i => by simp only [resS, hl]; exact set_i _ _ _ _⟩
      all_goals first
        | (subst h; exact ⟨_, by rw [e]; simp only [intA, if_true]; rfl, fun τ i => by simp only [resS, hl]; exact set_i _ _ _ _⟩)
        | (subst h; exact ⟨_, by rw [e]; simp only [intA, if_true]; rfl, fun τ i => by simp only [resS]; exact set_b _ _ _⟩)
    · cases h
  · rename_i ha
    obtain ⟨⟨x, hx⟩, hl⟩ := sk_s ha σ
    split at h
    · rename_i hb
      obtain ⟨⟨y, hy⟩, _⟩ := sk_s hb σ
      have e : evalS σ (.bin op a b) = strA op x y := by simp only [evalS, hx, hy, binS]
      cases op <;> simp only [Bool.false_eq_true] at h
      all_goals exact ⟨_, by rw [e]; simp only [strA]; rfl, fun τ i => by simp only [resS]; exact set_b _ _ _⟩
    · cases h
  · rename_i ha
    obtain ⟨⟨x, hx⟩, hl⟩ := sk_b ha σ
    split at h
    · rename_i hb
      obtain ⟨⟨y, hy⟩, _⟩ := sk_b hb σ
      cases op <;> simp only [Bool.false_eq_true] at h
      all_goals exact ⟨_, by simp only [evalS, hx, hy, binS]; rfl, fun τ i => by simp only [resS]; exact set_b _ _ _⟩
    · cases h
  · cases h
theorem totL_gives {σ : Sig} {l : List AVal} (h : totL l = true) : Gives σ (.low l) ∧ Gives σ (.high l) := by
  unfold totL at h
  split at h
  · simp only [Bool.and_eq_true] at h
    obtain ⟨k, ha⟩ := isIv_spec h.1
    obtain ⟨k', hb⟩ := isIv_spec h.2
    obtain ⟨⟨x, hx⟩, hl⟩ := sk_i ha σ
    obtain ⟨⟨y, hy⟩, _⟩ := sk_i hb σ
    exact ⟨⟨_, by simp only [evalS, List.map, hx, hy, minA]; rfl, fun τ i => by simp only [resS, hl]; exact set_i _ _ _ _⟩,
      ⟨_, by simp only [evalS, List.map, hx, hy, maxA]; rfl, fun τ i => by simp only [resS, hl]; exact set_i _ _ _ _⟩⟩
  · simp only [Bool.and_eq_true] at h
    obtain ⟨k, ha⟩ := isIv_spec h.1.1
    obtain ⟨k', hb⟩ := isIv_spec h.1.2
    obtain ⟨k'', hc⟩ := isIv_spec h.2
    obtain ⟨⟨x, hx⟩, hl⟩ := sk_i ha σ
    obtain ⟨⟨y, hy⟩, _⟩ := sk_i hb σ
    obtain ⟨⟨z, hz⟩, _⟩ := sk_i hc σ
    exact ⟨⟨_, by simp only [evalS, List.map, hx, hy, hz, minA]; rfl, fun τ i => by simp only [resS, hl]; exact set_i _ _ _ _⟩,
      ⟨_, by simp only [evalS, List.map, hx, hy, hz, maxA]; rfl, fun τ i => by simp only [resS, hl]; exact set_i _ _ _ _⟩⟩
  · cases h
theorem cellD_like : ∀ (cl : List (Option IntKind)) (j : Nat) (l : List UInt8), (∃ k n, cl[j]? = some (some k) ∧ cellD cl j l = .int k n) ∨ ((∀ k, cl[j]? ≠ some (some k)) ∧ ∃ b, cellD cl j l = .bool b)
  | [], j, l => .inr ⟨by simp, _, rfl⟩
  | c :: cl, 0, l => by
    cases c with
    | some k => exact .inl ⟨k, _, rfl, rfl⟩
    | none => exact .inr ⟨by simp, _, rfl⟩
  | c :: cl, j + 1, l => by
    rcases cellD_like cl j (l.drop (csz c)) with ⟨k, n, h1, h2⟩ | ⟨h1, b, h2⟩
    · exact .inl ⟨k, n, by simpa using h1, h2⟩
    · exact .inr ⟨by simpa using h1, b, h2⟩
theorem wrap_wrap (k : IntKind) (n : Int) : k.wrap (k.wrap n) = k.wrap n := by
  cases k <;> simp [IntKind.wrap, IntKind.bits, IntKind.signed] <;> (try split) <;> (try split) <;> omega
theorem cellD_wrap : ∀ (cl : List (Option IntKind)) (j : Nat) (l : List UInt8) {k : IntKind} {n : Int}, cellD cl j l = .int k n → k.wrap n = n
  | [], j, l, k, n, h => by cases h
  | c :: cl, 0, l, k, n, h => by
    cases c with
    | some k' =>
      simp only [cellD, decK, AVal.int.injEq] at h
      obtain ⟨rfl, rfl⟩ := h
      exact wrap_wrap _ _
    | none => simp [cellD, decK] at h
  | c :: cl, j + 1, l, k, n, h => cellD_wrap cl j (l.drop (csz c)) h
theorem totS_gives {σ : Sig} {o : SOp} {l : List AVal} (h : totS o l = true) : Gives σ (.sop o l) := by
  unfold totS at h
  split at h
  · split at h
    · obtain ⟨⟨x, hx⟩, _⟩ := sk_s (isSv_spec h) σ
      exact ⟨_, by simp only [evalS, List.map, hx, sopA]; rfl, fun τ i => set_i _ _ _ _⟩
    · cases h
  · split at h
    · simp only [Bool.and_eq_true] at h
      obtain ⟨⟨x, hx⟩, _⟩ := sk_s (isSv_spec h.1) σ
      obtain ⟨k, hk⟩ := isIv_spec h.2
      obtain ⟨⟨y, hy⟩, _⟩ := sk_i hk σ
      exact ⟨_, by simp only [evalS, List.map, hx, hy, sopA]; rfl, fun τ i => set_i _ _ _ _⟩
    · cases h
  · split at h
    · simp only [Bool.and_eq_true] at h
      obtain ⟨⟨x, hx⟩, _⟩ := sk_s (isSv_spec h.1) σ
      obtain ⟨k, hk⟩ := isIv_spec h.2.1
      obtain ⟨⟨y, hy⟩, _⟩ := sk_i hk σ
      obtain ⟨k', hk'⟩ := isIv_spec h.2.2
      obtain ⟨⟨z, hz⟩, _⟩ := sk_i hk' σ
      exact ⟨_, by simp only [evalS, List.map, hx, hy, hz, sopA]; rfl, fun τ i => set_s _ _ _⟩
    · cases h
  · split at h
    · simp only [Bool.and_eq_true] at h
      obtain ⟨⟨x, hx⟩, _⟩ := sk_s (isSv_spec h.1) σ
      obtain ⟨⟨y, hy⟩, _⟩ := sk_s (isSv_spec h.2) σ
      exact ⟨_, by simp only [evalS, List.map, hx, hy, sopA]; rfl, fun τ i => set_s _ _ _⟩
    · cases h
  · exact ⟨_, rfl, fun τ i => set_s _ _ _⟩
  · rename_i cl j
    split at h
    · simp only [Bool.and_eq_true] at h
      obtain ⟨⟨x, hx⟩, _⟩ := sk_s (isSv_spec h.1) σ
      obtain ⟨k, hk⟩ := isIv_spec h.2
      obtain ⟨⟨y, hy⟩, _⟩ := sk_i hk σ
      refine ⟨_, by simp only [evalS, List.map, hx, hy, sopA]; rfl, fun τ i => ?_⟩
      simp only [resS, rowAtD]
      rcases cellD_like cl j (x.data.toList.drop (y.toNat * rsz cl)) with ⟨k, n, h1, h2⟩ | ⟨h1, b, h2⟩
      · rw [h1, h2]; exact set_i _ _ _ _
      · rw [h2]
        split
        · rename_i k hk; exact absurd hk (h1 k)
        · exact set_b _ _ _
    · cases h
  · split at h
    · simp only [Bool.and_eq_true] at h
      obtain ⟨⟨x, hx⟩, _⟩ := sk_s (isSv_spec h.1) σ
      obtain ⟨k, hk⟩ := isIv_spec h.2.1
      obtain ⟨⟨y, hy⟩, _⟩ := sk_i hk σ
      obtain ⟨k', hk'⟩ := isIv_spec h.2.2
      obtain ⟨⟨z, hz⟩, _⟩ := sk_i hk' σ
      exact ⟨_, by simp only [evalS, List.map, hx, hy, hz, sopA]; rfl, fun τ i => set_s _ _ _⟩
    · cases h
  · split at h
    · simp only [Bool.and_eq_true] at h
      obtain ⟨⟨x, hx⟩, _⟩ := sk_s (isSv_spec h.1) σ
      obtain ⟨k, hk⟩ := isIv_spec h.2
      obtain ⟨⟨y, hy⟩, _⟩ := sk_i hk σ
      exact ⟨_, by simp only [evalS, List.map, hx, hy, sopA]; rfl, fun τ i => set_s _ _ _⟩
    · cases h
  · exact ⟨_, rfl, fun τ i => set_s _ _ _⟩
theorem totD_gives {σ : Sig} {d : SDef} (h : totD d = true) : Gives σ d := by
  cases d with
  | bin op a b => exact totB_gives h
  | un op a =>
    cases op <;> simp only [totD, Bool.false_eq_true] at h
    all_goals first
      | (obtain ⟨⟨x, hx⟩, hl⟩ := sk_b (isBv_spec h) σ; exact ⟨_, by simp only [evalS, hx, unA]; rfl, fun τ i => by simp only [resS, hl]; exact set_b _ _ _⟩)
      | (obtain ⟨k, hk⟩ := isIv_spec h; obtain ⟨⟨x, hx⟩, hl⟩ := sk_i hk σ; exact ⟨_, by simp only [evalS, hx, unA]; rfl, fun τ i => by simp only [resS, hl]; exact set_i _ _ _ _⟩)
  | conv k a =>
    obtain ⟨k', hk⟩ := isIv_spec h
    obtain ⟨⟨x, hx⟩, hl⟩ := sk_i hk σ
    exact ⟨_, by simp only [evalS, hx, convS]; rfl, fun τ i => by simp only [resS]; exact set_i _ _ _ _⟩
  | low l => exact (totL_gives h).1
  | high l => exact (totL_gives h).2
  | all l => exact ⟨_, rfl, fun τ i => set_b _ _ _⟩
  | text l => exact ⟨_, rfl, fun τ i => set_s _ _ _⟩
  | fn id k l => exact ⟨_, rfl, fun τ i => set_i _ _ _ _⟩
  | fnb id l => exact ⟨_, rfl, fun τ i => set_b _ _ _⟩
  | ite c a b =>
    simp only [totD, Bool.and_eq_true] at h
    obtain ⟨⟨x, hx⟩, _⟩ := sk_b (isBv_spec h.1) σ
    refine ⟨bif x then den σ a else den σ b, by simp only [evalS, hx], fun τ i => ?_⟩
    simp only [resS]
    cases x with
    | true => exact like_set (sameK_self h.2) σ τ i
    | false => simp only [cond_false]; rw [likeS_same h.2 i]; exact like_set (sameK_self' h.2) σ τ i
  | sel l ix =>
    simp only [totD, Bool.and_eq_true] at h
    obtain ⟨k, hk⟩ := isIv_spec h.1
    obtain ⟨⟨x, hx⟩, _⟩ := sk_i hk σ
    have h2 := h.2
    cases l with
    | nil => cases h2
    | cons a r =>
      simp only [Bool.and_eq_true] at h2
      refine ⟨_, by simp only [evalS, hx]; rfl, fun τ i => ?_⟩
      simp only [resS]
      have hm : sameK a ((a :: r).getD x.toNat a) = true := by
        simp only [List.getD_eq_getElem?_getD]
        cases hg : (a :: r)[x.toNat]? with
        | none => simpa using h2.1
        | some c =>
          have hc := List.mem_of_getElem? hg
          rcases List.mem_cons.1 hc with rfl | hc
          · simpa using h2.1
          · exact allK_spec h2.2 c hc
      rw [likeS_same hm i]
      exact like_set (sameK_self' hm) σ τ i
  | sop o l => exact totS_gives h
def condD : SDef → Option Nat
  | .bin op a b => match op with
    | .quo | .rem => match skOf a with
      | some (.i k) => match b with
        | .symi k' j => if k = k' then some j else none
        | _ => none
      | _ => none
    | _ => none
  | _ => none
def totC (d : SDef) : Bool :=
  match condD d with
  | some _ => true
  | none => totD d
theorem condD_gives {σ : Sig} {d : SDef} {j : Nat} (h : condD d = some j) (hj : σ.ival j ≠ 0) : Gives σ d := by
  unfold condD at h
  split at h
  · rename_i op a b
    have go : ∀ k, skOf a = some (.i k) → ∀ k' i, b = .symi k' i → k = k' → i = j → (op = .quo ∨ op = .rem) → Gives σ (.bin op a b) := by
      intro k ha k' i hb hk hi ho
      subst hb; subst hk; subst hi
      obtain ⟨⟨x, hx⟩, hl⟩ := sk_i ha σ
      have hy : den σ (.symi k i) = .int k (σ.ival i) := rfl
      rcases ho with rfl | rfl
      · have e : evalS σ (.bin .quo a (.symi k i)) = intA .quo k x k (σ.ival i) := by simp only [evalS, hx, hy, binS]
        exact ⟨_, by rw [e]; simp only [intA, if_true, if_neg hj]; rfl, fun τ i => by simp only [resS, hl]; exact set_i _ _ _ _⟩
      · have e : evalS σ (.bin .rem a (.symi k i)) = intA .rem k x k (σ.ival i) := by simp only [evalS, hx, hy, binS]
        exact ⟨_, by rw [e]; simp only [intA, if_true, if_neg hj]; rfl, fun τ i => by simp only [resS, hl]; exact set_i _ _ _ _⟩
    cases op <;> simp only [reduceCtorEq] at h
    all_goals
      split at h
      · rename_i k hk
        split at h
        · rename_i k' i
          split at h
          · rename_i hkk
            cases h
            exact go k hk _ _ rfl hkk rfl (by simp)
          · cases h
        · cases h
      · cases h
  · cases h
def okG : List SDef → Nat → Bool
  | [], _ => true
  | d :: G, i => ltD i d && totC d && okG G (i + 1)
theorem ltV_resS (d : SDef) (i : Nat) : ltV (i + 1) (resS d i) = true := by
  have like : ∀ a : AVal, ltV (i + 1) (likeS a i) = true := by intro a; cases a <;> simp [likeS, ltV]
  cases d with
  | bin op a b => cases op <;> simp only [resS] <;> first | exact like a | simp [ltV]
  | un op a => exact like a
  | conv k a => simp [resS, ltV]
  | low l => cases l <;> simp only [resS] <;> first | exact like _ | simp [ltV]
  | high l => cases l <;> simp only [resS] <;> first | exact like _ | simp [ltV]
  | all l => simp [resS, ltV]
  | text l => simp [resS, ltV]
  | fn id k l => simp [resS, ltV]
  | fnb id l => simp [resS, ltV]
  | ite c a b => exact like a
  | sel l a => cases l <;> simp only [resS] <;> first | exact like _ | simp [ltV]
  | sop o l =>
    cases o <;> simp only [resS] <;> try (simp [ltV]; done)
    split <;> simp [ltV]
theorem solve_good : ∀ {G : List SDef} {i : Nat} {σ : Sig}, okG G i = true → ∀ {k : Nat} {d : SDef}, G[k]? = some d → (∀ j, condD d = some j → (solve G i σ).ival j ≠ 0) → evalS (solve G i σ) d = some (den (solve G i σ) (resS d (i + k)))
  | [], _, _, _, _, _, h, _ => by simp at h
  | d :: G, i, σ, h, 0, d', hd, hc => by
    simp only [List.getElem?_cons_zero, Option.some.injEq] at hd
    subst hd
    simp only [okG, Bool.and_eq_true] at h
    obtain ⟨⟨h1, h2⟩, h3⟩ := h
    have k1 : Agree i σ (solve (d :: G) i σ) := agree_solve _ _ _
    have hgiv : Gives σ d := by
      unfold totC at h2
      split at h2
      · rename_i j hj
        refine condD_gives hj ?_
        have hlt : j < i := by
          unfold condD at hj
          split at hj
          · rename_i op a b
            have go : ∀ k' l, b = .symi k' l → l = j → j < i := by
              intro k' l hb hl
              subst hb; subst hl
              simp only [ltD, ltV, Bool.and_eq_true, Nat.blt_eq] at h1
              exact h1.2
            cases op <;> simp only [reduceCtorEq] at hj
            all_goals
              split at hj
              · split at hj
                · rename_i k' l
                  split at hj
                  · cases hj; exact go _ _ rfl rfl
                  · cases hj
                · cases hj
              · cases hj
          · cases hj
        rw [(k1.val j hlt).1]
        exact hc j hj
      · exact totD_gives h2
    obtain ⟨v, e1, e2⟩ := hgiv
    have hs : stepS σ d i = setS σ i v := by simp only [stepS, e1]
    have k2 : Agree (i + 1) (setS σ i v) (solve (d :: G) i σ) := by simp only [solve, hs]; exact agree_solve _ _ _
    rw [← evalS_agree k1 h1, e1, Nat.add_zero, ← den_agree k2 (ltV_resS d i), e2]
  | d :: G, i, σ, h, k + 1, d', hd, hc => by
    simp only [okG, Bool.and_eq_true] at h
    simp only [List.getElem?_cons_succ] at hd
    have := solve_good (σ := stepS σ d i) h.2 hd hc
    rw [show i + (k + 1) = i + 1 + k by omega]
    exact this
end Go.Ev
namespace Go.Ev
set_option linter.unusedSimpArgs false
abbrev TabF := Nat → List Int → Int
def noTab : TabF := fun _ _ => 0
abbrev HookF := (SDef → Option AVal) → (Nat → Option IntKind) → FuncId → List AVal → Option AVal
def noHook : HookF := fun _ _ _ _ => none
abbrev MHookF := (SDef → Option AVal) → FuncId → List AVal → Hp → Option (AVal × Hp)
def noMh : MHookF := fun _ _ _ _ => none
def nonIn : List Fact → Nat → Bool
  | [], _ => false
  | x :: F, i => match x with
    | .non j n => match Nat.beq j i with
      | true => match n with
        | .ofNat 0 => true
        | _ => nonIn F i
      | false => nonIn F i
    | _ => nonIn F i
theorem nonIn_spec {σ : Sig} : ∀ {F : List Fact} {i : Nat}, nonIn F i = true → Holds σ F → σ.ival i ≠ 0
  | [], _, h, _ => by simp [nonIn] at h
  | x :: F, i, h, hF => by
    simp only [nonIn] at h
    split at h
    · split at h
      · rename_i hs
        have := Nat.eq_of_beq_eq_true hs
        subst this
        split at h
        · exact hF.1
        · exact nonIn_spec h hF.2
      · exact nonIn_spec h hF.2
    · exact nonIn_spec h hF.2
structure RowS where
  len : AVal
  els : List (AVal × List AVal)
inductive KdT where
  | e
  | n (l : KdT) (k : Option IntKind) (r : KdT)
def KdT.get : KdT → Nat → Option IntKind
  | .e, _ => none
  | .n l v r, i => match i with
    | 0 => v
    | i + 1 => match Nat.beq (i % 2) 0 with
      | true => l.get (i / 2)
      | false => r.get (i / 2)
def StrsOk (σ : Sig) : List (Nat × AVal × List (Option IntKind)) → Prop
  | [] => True
  | p :: l => (∀ X, σ.ext p.1 = some X → StrX σ p.2.1 p.2.2 X) ∧ StrsOk σ l
def strIn : List (Nat × AVal × List (Option IntKind)) → Nat → Option (AVal × List (Option IntKind))
  | [], _ => none
  | p :: l, i => match Nat.beq p.1 i with
    | true => some p.2
    | false => strIn l i
theorem strIn_spec {σ : Sig} : ∀ {l : List (Nat × AVal × List (Option IntKind))} {i : Nat} {s : AVal} {cl : List (Option IntKind)} {X : Fz}, StrsOk σ l → strIn l i = some (s, cl) → σ.ext i = some X → StrX σ s cl X
  | [], _, _, _, _, _, h, _ => by cases h
  | p :: l, i, s, cl, X, ho, h, hX => by
    simp only [strIn] at h
    split at h
    · rename_i hb
      have := Nat.eq_of_beq_eq_true hb
      subst this
      have h : p.2 = (s, cl) := Option.some.inj h
      have := ho.1 X hX
      rw [h] at this
      exact this
    · exact strIn_spec ho.2 h hX
structure Ing where
  n : Nat := 0
  m : Nat
  ins : List (Option IntKind) := []
  G : List SDef
  T : LT
  tab : TabF := noTab
  hook : HookF := noHook
  rows : List RowS := []
  cuts : List (Nat × AVal × Nat) := []
  inv : Sig → Prop := fun _ => True
  dk : Nat := 4
  kb : Nat := 0
  kt : KdT := .e
  mh : MHookF := noMh
  atoms : List (Nat × Bool) := []
  insf : Option (Nat × Nat) := none
  lsts : List (Nat × List (Option IntKind)) := []
  strs : List (Nat × AVal × List (Option IntKind)) := []
  strok : ∀ σ, inv σ → StrsOk σ strs := by exact fun _ _ => trivial
  fu : Nat := 1000
def lookF (X : Ing) (F : List Fact) (d : SDef) : Option Nat :=
  match condD d with
  | some j => match nonIn F j with
    | true => lookT d (hashD d) X.T
    | false => none
  | none => lookT d (hashD d) X.T
def inK (kd : Nat → Option IntKind) (k : IntKind) : AVal → Bool
  | .int k' n => decide (k = k') && (k.wrap n == n)
  | .symi k' i => decide (k = k') && (match kd i with
    | some k'' => decide (k = k'')
    | none => false)
  | _ => false
def inKs (kd : Nat → Option IntKind) (k : IntKind) : List AVal → Bool
  | [] => true
  | a :: l => inK kd k a && inKs kd k l
def kdD (kd : Nat → Option IntKind) (d : SDef) : Option IntKind :=
  match condD d with
  | some _ => none
  | none => match d with
    | .bin op a _ => match skOf a with
      | some (.i k) => match op with
        | .add | .sub | .mul | .quo | .and | .or | .xor | .andNot | .shl => some k
        | .rem | .shr => match inK kd k a with
          | true => some k
          | false => none
        | _ => none
      | _ => none
    | .conv k _ => some k
    | .fn _ k _ => some k
    | .sop .at _ => some .u8
    | .sop (.cell cl j) _ => match cl[j]? with
      | some (some k) => some k
      | _ => none
    | .ite _ a b => match skOf a with
      | some (.i k) => match inK kd k a && inK kd k b with
        | true => some k
        | false => none
      | _ => none
    | .sel l _ => match l with
      | a :: r => match skOf a with
        | some (.i k) => match inKs kd k (a :: r) with
          | true => some k
          | false => none
        | _ => none
      | [] => none
    | _ => none
def kdF (m : Nat) (ins : List (Option IntKind)) (G : List SDef) : Nat → Nat → Option IntKind
  | 0, _ => none
  | n + 1, i => match Nat.blt i m with
    | true => (ins[i]?).getD none
    | false => match G[i - m]? with
      | some d => kdD (kdF m ins G n) d
      | none => none
def Eqs (σ : Sig) (m : Nat) (G : List SDef) : Prop := ∀ k d, G[k]? = some d → (∀ j, condD d = some j → σ.ival j ≠ 0) → evalS σ d = some (den σ (resS d (m + k)))
theorem eqs_solve {m : Nat} {G : List SDef} {σ : Sig} (hG : okG G m = true) : Eqs (solve G m σ) m G := fun _ _ hd hc => solve_good hG hd hc
theorem Eqs.at {σ : Sig} {m : Nat} {G : List SDef} (e : Eqs σ m G) (k : Nat) (d : SDef) (h : G[k]? = some d) (hc : condD d = none) : evalS σ d = some (den σ (resS d (m + k))) := e k d h (fun j hj => by rw [hc] at hj; cases hj)
def InsOk (σ : Sig) (m : Nat) (ins : List (Option IntKind)) : Prop := ∀ (i : Nat) (k : IntKind), i < m → (ins[i]?).getD none = some k → k.wrap (σ.ival i) = σ.ival i
def RowsOk (σ : Sig) (rows : List RowS) : Prop :=
  ∀ i r X, rows[i]? = some r → σ.ext i = some X → den σ r.len = .int .i64 X.len ∧
    ∀ p, p ∈ r.els → ∀ m : Nat, den σ p.1 = .int .i64 m → m < X.len → p.2.length = X.z ∧ ∀ (j : Nat) (c : AVal), p.2[j]? = some c → den σ c = X.val m j
def CutsOk (σ : Sig) (cuts : List (Nat × AVal × Nat)) : Prop :=
  ∀ p, p ∈ cuts → ∀ X, σ.ext p.1 = some X → ∃ Y, σ.ext p.2.2 = some Y ∧ Y.blk = X.blk ∧ Y.off = X.off ∧ Y.len ≤ X.len ∧ den σ p.2.1 = .int .i64 Y.len
theorem rows_nil {σ : Sig} : RowsOk σ [] := fun i r X h => by simp at h
theorem cuts_nil {σ : Sig} : CutsOk σ [] := fun p hp => by cases hp
theorem inK_spec {σ : Sig} {kd : Nat → Option IntKind} (hk : ∀ i k, kd i = some k → k.wrap (σ.ival i) = σ.ival i) {k : IntKind} {a : AVal} (h : inK kd k a = true) : ∃ n, den σ a = .int k n ∧ k.wrap n = n := by
  unfold inK at h
  split at h
  · simp only [Bool.and_eq_true, decide_eq_true_eq, beq_iff_eq] at h
    obtain ⟨rfl, h⟩ := h
    exact ⟨_, rfl, h⟩
  · rename_i k' i
    simp only [Bool.and_eq_true, decide_eq_true_eq] at h
    obtain ⟨rfl, h⟩ := h
    split at h
    · rename_i k'' hi
      simp only [decide_eq_true_eq] at h
      subst h
      exact ⟨_, rfl, hk i _ hi⟩
    · cases h
  · cases h
theorem inKs_spec {kd : Nat → Option IntKind} {k : IntKind} : ∀ {l : List AVal}, inKs kd k l = true → ∀ a, a ∈ l → inK kd k a = true
  | b :: l, h, a, ha => by
    simp only [inKs, Bool.and_eq_true] at h
    rcases List.mem_cons.1 ha with rfl | ha
    · exact h.1
    · exact inKs_spec h.2 a ha
theorem wrap_tmod (k : IntKind) {x : Int} (y : Int) (h : k.wrap x = x) : k.wrap (x.tmod y) = x.tmod y := by
  have hb : (0 ≤ x ∧ 0 ≤ x.tmod y ∧ x.tmod y ≤ x) ∨ (x < 0 ∧ x ≤ x.tmod y ∧ x.tmod y ≤ 0) := by
    have hm : (x.tmod y).natAbs ≤ x.natAbs := by rw [Int.natAbs_tmod]; exact Nat.mod_le _ _
    by_cases h0 : 0 ≤ x
    · have := Int.tmod_nonneg y h0
      exact .inl ⟨h0, this, by omega⟩
    · have h1 : 0 ≤ (-x).tmod y := Int.tmod_nonneg y (by omega)
      rw [Int.neg_tmod] at h1
      exact .inr ⟨by omega, by omega, by omega⟩
  generalize x.tmod y = z at hb
  cases k <;> simp [IntKind.wrap, IntKind.bits, IntKind.signed] at h ⊢ <;> omega
theorem wrap_shr (k : IntKind) {n : Int} (q : Nat) (h : k.wrap n = n) : k.wrap (n.fdiv (2 ^ q)) = n.fdiv (2 ^ q) := by
  rw [Int.fdiv_eq_ediv_of_nonneg _ (Int.le_of_lt (Int.pow_pos (by decide)))]
  have hp : (0 : Int) < 2 ^ q := Int.pow_pos (by decide)
  generalize hP : (2 : Int) ^ q = p at *
  have key : ∀ lo hi : Int, lo ≤ 0 → 0 ≤ hi → lo ≤ n → n ≤ hi → lo ≤ n / p ∧ n / p ≤ hi := by
    intro lo hi h0 h1 h2 h3
    rcases Int.le_total 0 n with h4 | h4
    · have := Int.ediv_nonneg h4 (Int.le_of_lt hp)
      have := Int.ediv_le_self p h4
      omega
    · constructor
      · rw [Int.le_ediv_iff_mul_le hp]
        have : lo * p ≤ lo * 1 := Int.mul_le_mul_of_nonpos_left h0 (by omega)
        omega
      · have : n / p ≤ 0 := by
          have := Int.ediv_le_ediv hp h4
          simpa using this
        omega
  cases k <;> simp only [IntKind.wrap, IntKind.bits, IntKind.signed] at h ⊢ <;> simp at h ⊢
  all_goals first
    | (have := key 0 18446744073709551615 (by omega) (by omega) (by omega) (by omega); omega)
    | (have := key (-9223372036854775808) 9223372036854775807 (by omega) (by omega) (by (repeat' split at h) <;> omega) (by (repeat' split at h) <;> omega); (repeat' split) <;> omega)
    | (have := key (-2147483648) 2147483647 (by omega) (by omega) (by (repeat' split at h) <;> omega) (by (repeat' split at h) <;> omega); (repeat' split) <;> omega)
    | (have := key (-32768) 32767 (by omega) (by omega) (by (repeat' split at h) <;> omega) (by (repeat' split at h) <;> omega); (repeat' split) <;> omega)
    | (have := key (-128) 127 (by omega) (by omega) (by (repeat' split at h) <;> omega) (by (repeat' split at h) <;> omega); (repeat' split) <;> omega)
    | (have := key 0 4294967295 (by omega) (by omega) (by omega) (by omega); omega)
    | (have := key 0 65535 (by omega) (by omega) (by omega) (by omega); omega)
    | (have := key 0 255 (by omega) (by omega) (by omega) (by omega); omega)
theorem kdD_spec {σ : Sig} {kd : Nat → Option IntKind} (ih : ∀ i k, kd i = some k → k.wrap (σ.ival i) = σ.ival i) {d : SDef} {i : Nat} (he : condD d = none → evalS σ d = some (den σ (resS d i))) {k : IntKind} (h : kdD kd d = some k) : k.wrap (σ.ival i) = σ.ival i := by
  unfold kdD at h
  split at h
  · cases h
  · rename_i hc
    have e := he hc
    split at h
    · rename_i op a b
      split at h
      · rename_i k' ha
        obtain ⟨⟨x, hx⟩, hl⟩ := sk_i ha σ
        have go : ∀ (y : AVal), resS (.bin op a b) i = .symi k' i → (∃ z, evalS σ (.bin op a b) = some (.int k' (k'.wrap z))) → k' = k → k.wrap (σ.ival i) = σ.ival i := by
          rintro y hr ⟨z, hz⟩ rfl
          rw [hr, hz] at e
          simp only [den, Option.some.injEq, AVal.int.injEq, true_and] at e
          rw [← e, wrap_wrap]
        have ev : ∀ v, evalS σ (.bin op a b) = some v → ∃ k2 y, den σ b = .int k2 y := by
          intro v hv
          simp only [evalS, hx] at hv
          generalize den σ b = q at hv
          cases q <;> simp only [binS, reduceCtorEq] at hv
          exact ⟨_, _, rfl⟩
        obtain ⟨k2, y, hy⟩ := ev _ e
        cases op <;> (try simp only [Option.some.injEq, reduceCtorEq] at h)
        case rem =>
          split at h
          · rename_i hin
            cases h
            obtain ⟨n, hn, wn⟩ := inK_spec ih hin
            rw [show resS (.bin .rem a b) i = .symi k i by simp only [resS, hl]] at e
            simp only [evalS, hn, hy, binS, intA] at e
            split at e
            · split at e
              · cases e
              · simp only [den, Option.some.injEq, AVal.int.injEq, true_and] at e
                rw [← e]; exact wrap_tmod k _ wn
            · cases e
          · cases h
        case shr =>
          split at h
          · rename_i hin
            cases h
            obtain ⟨n, hn, wn⟩ := inK_spec ih hin
            rw [show resS (.bin .shr a b) i = .symi k i by simp only [resS, hl]] at e
            simp only [evalS, hn, hy, binS, intA] at e
            split at e
            · cases e
            · simp only [den, Option.some.injEq, AVal.int.injEq, true_and] at e
              rw [← e]; exact wrap_shr k _ wn
          · cases h
        case quo =>
          refine go (.nilptr) (by simp only [resS, hl]) ?_ h
          rw [e]
          simp only [evalS, hx, hy, binS, intA] at e
          split at e
          · split at e
            · cases e
            · rename_i hk _; subst hk; exact ⟨_, by rw [← e]⟩
          · cases e
        case shl =>
          refine go (.nilptr) (by simp only [resS, hl]) ?_ h
          rw [e]
          simp only [evalS, hx, hy, binS, intA] at e
          split at e
          · cases e
          · exact ⟨_, by rw [← e]⟩
        all_goals
          refine go (.nilptr) (by simp only [resS, hl]) ?_ h
          rw [e]
          simp only [evalS, hx, hy, binS, intA] at e
          split at e
          · exact ⟨_, by rw [← e]⟩
          · cases e
      · cases h
    · rename_i k' a
      cases h
      simp only [evalS] at e
      generalize den σ a = q at e
      cases q <;> simp only [convS, resS, den, Option.some.injEq, AVal.int.injEq, true_and, reduceCtorEq] at e
      rw [← e, wrap_wrap]
    · rename_i id k' l
      cases h
      simp only [evalS, resS, den, Option.some.injEq, AVal.int.injEq, true_and] at e
      rw [← e, wrap_wrap]
    · rename_i l
      cases h
      simp only [evalS, resS, den, sopA] at e
      split at e
      · rename_i s k' n _
        simp only [Option.some.injEq, AVal.int.injEq, true_and] at e
        rw [← e]
        generalize s.data.toList.getD n.toNat 0 = c
        have := UInt8.toNat_lt c
        simp [IntKind.wrap, IntKind.bits, IntKind.signed]
        omega
      · cases e
    · rename_i cl j l
      split at h
      · rename_i k' hj
        cases h
        simp only [evalS, resS, den, sopA, hj] at e
        split at e
        · rename_i s k'' n _
          simp only [rowAtD, Option.some.injEq] at e
          rcases cellD_like cl j (s.data.toList.drop (n.toNat * rsz cl)) with ⟨k3, n3, h1, h2⟩ | ⟨h1, b, h2⟩
          · rw [hj] at h1; cases h1
            have h4 := cellD_wrap cl j (s.data.toList.drop (n.toNat * rsz cl)) h2
            rw [h2] at e
            simp only [den, AVal.int.injEq, true_and] at e
            rw [← e, h4]
          · exact absurd hj (h1 k)
        · cases e
      · cases h
    · rename_i c a b
      split at h
      · rename_i k' ha
        split at h
        · rename_i hh
          cases h
          simp only [Bool.and_eq_true] at hh
          obtain ⟨x, hx, wx⟩ := inK_spec ih hh.1
          obtain ⟨y, hy, wy⟩ := inK_spec ih hh.2
          obtain ⟨_, hl⟩ := sk_i ha σ
          simp only [evalS, resS, hl, hx, hy] at e
          generalize den σ c = q at e
          cases q <;> simp only [reduceCtorEq] at e
          rename_i bb
          cases bb <;> simp only [cond_true, cond_false, den, Option.some.injEq, AVal.int.injEq, true_and] at e
          · rw [← e]; exact wy
          · rw [← e]; exact wx
        · cases h
      · cases h
    · rename_i l ix
      split at h
      · rename_i a r
        split at h
        · rename_i k' ha
          split at h
          · rename_i hh
            cases h
            obtain ⟨_, hl⟩ := sk_i ha σ
            simp only [evalS, resS, hl] at e
            generalize den σ ix = q at e
            cases q <;> simp only [reduceCtorEq] at e
            rename_i k3 z
            have hmem : (a :: r).getD z.toNat a ∈ a :: r := by
              simp only [List.getD_eq_getElem?_getD]
              cases hg : (a :: r)[z.toNat]? with
              | none => simp
              | some c => simpa using List.mem_of_getElem? hg
            obtain ⟨x, hx, wx⟩ := inK_spec ih (inKs_spec hh _ hmem)
            rw [hx] at e
            simp only [den, Option.some.injEq, AVal.int.injEq, true_and] at e
            rw [← e]; exact wx
          · cases h
        · cases h
      · cases h
    · cases h
theorem kdF_spec {σ : Sig} {m : Nat} {ins : List (Option IntKind)} {G : List SDef} (hG : Eqs σ m G) (hi : InsOk σ m ins) : ∀ (n i : Nat) (k : IntKind), kdF m ins G n i = some k → k.wrap (σ.ival i) = σ.ival i
  | 0, _, _, h => by simp [kdF] at h
  | n + 1, i, k, h => by
    have ih := kdF_spec hG hi n
    simp only [kdF] at h
    split at h
    · rename_i hlt; exact hi i k (by rw [Nat.blt_eq] at hlt; exact hlt) h
    · rename_i hge
      have hge : m ≤ i := by
        have : ¬ (i < m) := fun h => by rw [← Nat.blt_eq] at h; rw [h] at hge; cases hge
        omega
      split at h
      · rename_i d hd
        have hmi : m + (i - m) = i := by omega
        exact kdD_spec ih (fun hc => by have e := hG.at (i - m) d hd hc; rwa [hmi] at e) h
      · cases h
def okKs (kt : KdT) : List SDef → Nat → Bool
  | [], _ => true
  | d :: G, i => (match kt.get i with
    | none => true
    | some k => match kdD (fun j => match Nat.blt j i with
        | true => kt.get j
        | false => none) d with
      | some k' => decide (k = k')
      | none => false) && okKs kt G (i + 1)
def okKi (kt : KdT) : List (Option IntKind) → Nat → Bool
  | [], _ => true
  | o :: r, i => (match kt.get i with
    | none => true
    | some k => match o with
      | some k' => decide (k = k')
      | none => false) && okKi kt r (i + 1)
def okKt (X : Ing) : Bool :=
  match X.kb with
  | 0 => true
  | b + 1 => Nat.beq (b + 1) (X.m + X.G.length) && (Nat.beq X.ins.length X.m && (okKi X.kt X.ins 0 && okKs X.kt X.G X.m))
def kdX (X : Ing) (i : Nat) : Option IntKind :=
  match X.kb with
  | 0 => kdF X.m X.ins X.G X.dk i
  | b + 1 => match Nat.blt i (b + 1) with
    | true => X.kt.get i
    | false => none
theorem okKi_spec {kt : KdT} : ∀ {l : List (Option IntKind)} {i : Nat}, okKi kt l i = true → ∀ (j : Nat) (k : IntKind), j < l.length → kt.get (i + j) = some k → (l[j]?).getD none = some k
  | [], _, _, j, k, hj, _ => by simp at hj
  | o :: r, i, h, 0, k, _, hg => by
    simp only [okKi, Bool.and_eq_true] at h
    have h1 := h.1
    rw [Nat.add_zero] at hg
    rw [hg] at h1
    simp only at h1
    split at h1
    · simp only [decide_eq_true_eq] at h1; subst h1; simp
    · cases h1
  | o :: r, i, h, j + 1, k, hj, hg => by
    simp only [okKi, Bool.and_eq_true] at h
    have := okKi_spec h.2 j k (by simpa using hj) (by rw [show i + 1 + j = i + (j + 1) by omega]; exact hg)
    simpa using this
theorem okKs_spec {kt : KdT} : ∀ {G : List SDef} {i : Nat}, okKs kt G i = true → ∀ (j : Nat) (k : IntKind) (d : SDef), G[j]? = some d → kt.get (i + j) = some k → kdD (fun x => match Nat.blt x (i + j) with | true => kt.get x | false => none) d = some k
  | [], _, _, j, k, d, hd, _ => by simp at hd
  | e :: G, i, h, 0, k, d, hd, hg => by
    simp only [List.getElem?_cons_zero, Option.some.injEq] at hd
    subst hd
    simp only [okKs, Bool.and_eq_true] at h
    have h1 := h.1
    rw [Nat.add_zero] at hg ⊢
    rw [hg] at h1
    simp only at h1
    split at h1
    · rename_i k' hk; simp only [decide_eq_true_eq] at h1; subst h1; exact hk
    · cases h1
  | e :: G, i, h, j + 1, k, d, hd, hg => by
    simp only [okKs, Bool.and_eq_true] at h
    have := okKs_spec h.2 j k d (by simpa using hd) (by rw [show i + 1 + j = i + (j + 1) by omega]; exact hg)
    rwa [show i + 1 + j = i + (j + 1) by omega] at this
theorem kdX_spec {σ : Sig} {X : Ing} (hG : Eqs σ X.m X.G) (hi : InsOk σ X.m X.ins) (hk : okKt X = true) : ∀ (i : Nat) (k : IntKind), kdX X i = some k → k.wrap (σ.ival i) = σ.ival i := by
  intro i k h
  unfold kdX at h
  unfold okKt at hk
  cases hb : X.kb with
  | zero => rw [hb] at h; exact kdF_spec hG hi _ i k h
  | succ b =>
    rw [hb] at h hk
    simp only [Bool.and_eq_true] at h hk
    obtain ⟨q1, q2, q3, q4⟩ := hk
    have q1 := Nat.eq_of_beq_eq_true q1
    have q2 := Nat.eq_of_beq_eq_true q2
    split at h
    · rename_i hlt
      have hlt : i < b + 1 := by rw [Nat.blt_eq] at hlt; exact hlt
      clear hb
      induction i using Nat.strongRecOn generalizing k with
      | ind i ih =>
        by_cases him : i < X.m
        · exact hi i k him (okKi_spec q3 i k (by omega) (by rw [Nat.zero_add]; exact h))
        · have hmi : X.m + (i - X.m) = i := by omega
          cases hd : X.G[i - X.m]? with
          | none =>
            have := List.getElem?_eq_none_iff.1 hd
            omega
          | some d =>
            have := okKs_spec q4 (i - X.m) k d hd (by rw [hmi]; exact h)
            rw [hmi] at this
            refine kdD_spec (kd := _) (fun j k' hj => ?_) (fun hc => by have e := hG.at (i - X.m) d hd hc; rwa [hmi] at e) this
            split at hj
            · rename_i hji
              have hji : j < i := by rw [Nat.blt_eq] at hji; exact hji
              exact ih j hji k' (by rw [Nat.blt_eq]; omega) hj (by omega)
            · cases hj
    · cases h
structure BaseOk (X : Ing) (σ : Sig) : Prop where
  eqs : Eqs σ X.m X.G
  tab : σ.tab = X.tab
  ins : InsOk σ X.m X.ins
  rows : RowsOk σ X.rows
  cuts : CutsOk σ X.cuts
  inv : X.inv σ
  kt : okKt X = true
def baseOf (X : Ing) (F : List Fact) : Cx where
  n := X.n
  look := lookF X F
  fact := factIn F
  num := numIn F
  hook := fun _ _ => none
  tab := X.tab
  kd := kdX X
  ok := fun σ => Holds σ F ∧ BaseOk X σ
def rowLenF (rows : List RowS) (i : Nat) : Option AVal :=
  match rows[i]? with
  | some r => some r.len
  | none => none
def findE (ix : AVal) : List (AVal × List AVal) → Option (List AVal)
  | [] => none
  | p :: l => match sameV p.1 ix with
    | true => some p.2
    | false => findE ix l
def isI64 (a : AVal) : Bool :=
  match skOf a with
  | some (.i k) => decide (k = .i64)
  | _ => false
def numA (num : Nat → Option Int) : AVal → Option Int
  | .int _ n => some n
  | .symi _ j => num j
  | _ => none
def rowAtF (look : SDef → Option AVal) (num : Nat → Option Int) (rows : List RowS) (i : Nat) (ix : AVal) : Option (List AVal) :=
  match rows[i]? with
  | some r => match findE ix r.els with
    | some us => match isI64 ix && isI64 r.len with
      | true => match numA num ix, numA num r.len with
        | some a, some b => match decide (0 ≤ a) && decide (a < b) with
          | true => some us
          | false => none
        | _, _ => match look (.bin .leq (.int .i64 0) ix), look (.bin .lss ix r.len) with
          | some (.bool true), some (.bool true) => some us
          | _, _ => none
      | false => none
    | none => none
  | none => none
theorem findE_mem {ix : AVal} : ∀ {l : List (AVal × List AVal)} {us : List AVal}, findE ix l = some us → (ix, us) ∈ l
  | [], _, h => by simp [findE] at h
  | p :: l, us, h => by
    simp only [findE] at h
    split at h
    · rename_i hs
      cases h
      have := sameV_eq hs
      rw [← this]
      simp
    · exact List.mem_cons_of_mem _ (findE_mem h)
theorem isI64_den {a : AVal} (h : isI64 a = true) (σ : Sig) : ∃ x, den σ a = .int .i64 x := by
  unfold isI64 at h
  split at h
  · rename_i k hk
    have := of_decide_eq_true h
    subst this
    exact (sk_i hk σ).1
  · cases h
def cutF (cuts : List (Nat × AVal × Nat)) (i : Nat) (a : AVal) : Option Nat :=
  match cuts with
  | [] => none
  | p :: l => match Nat.beq p.1 i && sameV p.2.1 a with
    | true => some p.2.2
    | false => cutF l i a
theorem cutF_mem {i k : Nat} {a : AVal} : ∀ {l : List (Nat × AVal × Nat)}, cutF l i a = some k → (i, a, k) ∈ l
  | [], h => by simp [cutF] at h
  | (x, y, z) :: l, h => by
    simp only [cutF] at h
    split at h
    · rename_i hs
      cases h
      simp only [Bool.and_eq_true] at hs
      have h1 := Nat.eq_of_beq_eq_true hs.1
      have h2 := sameV_eq hs.2
      subst h1; subst h2
      simp
    · exact List.mem_cons_of_mem _ (cutF_mem h)
def sdfG (m : Nat) (G : List SDef) (i : Nat) : Option SDef :=
  match Nat.ble m i with
  | true => match G[i - m]? with
    | some d => match condD d with
      | none => some d
      | some _ => none
    | none => none
  | false => none
theorem sdfG_spec {X : Ing} {σ : Sig} (he : Eqs σ X.m X.G) {i : Nat} {d : SDef} (h : sdfG X.m X.G i = some d) : evalS σ d = some (den σ (resS d i)) := by
  unfold sdfG at h
  split at h
  · rename_i hm
    have hm := Nat.le_of_ble_eq_true hm
    split at h
    · rename_i d' hl
      split at h
      · rename_i hc
        cases h
        have := he.at (i - X.m) _ hl hc
        rw [show X.m + (i - X.m) = i by omega] at this
        exact this
      · cases h
    · cases h
  · cases h
def cxOf (X : Ing) : CxF := fun F => { baseOf X F with hook := X.hook (symS (baseOf X F)) (kdX X), rlen := rowLenF X.rows, rat := rowAtF (symS (baseOf X F)) (numIn F) X.rows, rcut := cutF X.cuts, mhook := X.mh (symS (baseOf X F)), sdf := sdfG X.m X.G, insf := X.insf, atoms := X.atoms, lsts := X.lsts, rstr := strIn X.strs }
theorem lookF_spec {X : Ing} {F : List Fact} {σ : Sig} (hT : okLT X.m X.G X.T = true) (hb : BaseOk X σ) (hF : Holds σ F) {d : SDef} {i : Nat} (h : lookF X F d = some i) : evalS σ d = some (den σ (resS d i)) := by
  unfold lookF at h
  split at h
  · rename_i j hj
    split at h
    · rename_i hn
      obtain ⟨k, rfl, hk⟩ := lookT_spec hT h
      exact hb.eqs k d hk (fun j' hj' => by rw [hj] at hj'; cases hj'; exact nonIn_spec hn hF)
    · cases h
  · rename_i hj
    obtain ⟨k, rfl, hk⟩ := lookT_spec hT h
    exact hb.eqs k d hk (fun j' hj' => by rw [hj] at hj'; cases hj')
theorem base_good {X : Ing} {F : List Fact} {σ : Sig} (hT : okLT X.m X.G X.T = true) (hb : BaseOk X σ) (hF : Holds σ F) : (baseOf X F).Good σ :=
  ⟨fun _ _ h => lookF_spec hT hb hF h, fun _ _ h => factIn_spec h hF, fun _ _ h => numIn_spec h hF, hb.tab, fun _ _ _ h => by simp [baseOf] at h, fun _ _ _ _ h => by simp [baseOf] at h, fun _ _ _ _ h => by simp [baseOf] at h,
    fun i k h => kdX_spec hb.eqs hb.ins hb.kt i k h, fun _ _ h => by simp [baseOf] at h, fun _ _ _ _ h => by simp [baseOf] at h, ⟨hF, hb⟩⟩
theorem sym_bool {ng : Cx} {σ : Sig} {d : SDef} {b : Bool} (hg : ng.Good σ) (h : symS ng d = some (.bool true)) (hd : evalS σ d = some (.bool b)) : b = true := by
  obtain ⟨q, h1, h2⟩ := symS_sound (g := ⟨fun _ => none, σ, fun _ => none⟩) hg h
  rw [hd] at h1
  cases h1
  have := h2 (.bool b) (.bool b)
  cases this
  rfl
theorem numA_den {X0 : Ing} {F : List Fact} {σ : Sig} (hb : (baseOf X0 F).Good σ) {a : AVal} {n x : Int} {k : IntKind} (h : numA (numIn F) a = some n) (hx : den σ a = .int k x) : n = x := by
  unfold numA at h
  split at h
  · cases h; simp only [den] at hx; cases hx; rfl
  · rename_i j
    have := hb.num j n h
    simp only [den] at hx; cases hx; exact this.symm
  · cases h
theorem rowAtF_spec {X0 : Ing} {F : List Fact} {rows : List RowS} {σ : Sig} (hb : (baseOf X0 F).Good σ) (hr : RowsOk σ rows) {i : Nat} {a : AVal} {cs : List AVal} {X : Fz}
    (h : rowAtF (symS (baseOf X0 F)) (numIn F) rows i a = some cs) (hX : σ.ext i = some X) : ∃ m : Nat, den σ a = .int .i64 m ∧ m < X.len ∧ cs.length = X.z ∧ ∀ (j : Nat) (c : AVal), cs[j]? = some c → den σ c = X.val m j := by
  unfold rowAtF at h
  split at h
  · rename_i r hri
    split at h
    · rename_i us hus
      split at h
      · rename_i hk
        simp only [Bool.and_eq_true] at hk
        split at h
        · rename_i ia ib na nb
          split at h
          · rename_i hab
            cases h
            simp only [Bool.and_eq_true, decide_eq_true_eq] at hab
            obtain ⟨x, hx⟩ := isI64_den hk.1 σ
            obtain ⟨r1, r2⟩ := hr i r X hri hX
            have e1 := numA_den hb na hx
            have e2 := numA_den hb nb r1
            subst e1
            have hxm : ia = (ia.toNat : Int) := by omega
            have hlt : ia.toNat < X.len := by omega
            obtain ⟨q1, q2⟩ := r2 _ (findE_mem hus) ia.toNat (by rw [← hxm]; exact hx) hlt
            exact ⟨ia.toNat, by rw [← hxm]; exact hx, hlt, q1, q2⟩
          · cases h
        split at h
        · rename_i l0 l1
          cases h
          obtain ⟨x, hx⟩ := isI64_den hk.1 σ
          obtain ⟨r1, r2⟩ := hr i r X hri hX
          have d0 : evalS σ (.bin .leq (.int .i64 0) a) = some (.bool (decide (0 ≤ x))) := by
            have e : den σ (.int .i64 0) = .int .i64 0 := rfl
            simp only [evalS, hx, e, binS, intA, if_true]
          have d1 : evalS σ (.bin .lss a r.len) = some (.bool (decide (x < X.len))) := by
            simp only [evalS, hx, r1, binS, intA, if_true]
          have b0 := of_decide_eq_true (sym_bool hb l0 d0)
          have b1 := of_decide_eq_true (sym_bool hb l1 d1)
          have hxm : x = (x.toNat : Int) := by omega
          have hlt : x.toNat < X.len := by omega
          obtain ⟨q1, q2⟩ := r2 _ (findE_mem hus) x.toNat (by rw [← hxm]; exact hx) hlt
          exact ⟨x.toNat, by rw [← hxm]; exact hx, hlt, q1, q2⟩
        · cases h
      · cases h
    · cases h
  · cases h
theorem cx_good {X : Ing} {F : List Fact} {σ : Sig} (hT : okLT X.m X.G X.T = true) (hb : BaseOk X σ) (hF : Holds σ F) : (cxOf X F).Good σ := by
  refine ⟨fun _ _ h => lookF_spec hT hb hF h, fun _ _ h => factIn_spec h hF, fun _ _ h => numIn_spec h hF, hb.tab, fun i a Y h hX => ?_, fun i a cs Y h hX => rowAtF_spec (base_good hT hb hF) hb.rows h hX, fun i a k Y h hX => hb.cuts _ (cutF_mem h) Y hX,
    fun i k h => kdX_spec hb.eqs hb.ins hb.kt i k h, fun i n h => sdfG_spec hb.eqs h, fun i s cl Y h hX => strIn_spec (X.strok _ hb.inv) h hX, ⟨hF, hb⟩⟩
  have h : rowLenF X.rows i = some a := h
  unfold rowLenF at h
  split at h
  · rename_i r hri
    cases h
    exact (hb.rows i r Y hri hX).1
  · cases h
theorem cx_ok {X : Ing} (hT : okLT X.m X.G X.T = true) : CtxOk (cxOf X) :=
  ⟨fun _ _ => rfl, fun _ _ h => h.ok.1, fun _ _ _ h hF => cx_good hT h.ok.2 hF⟩
theorem run_call {P : Program} {X : Ing} {mb : Bool} {fuel d : Nat} {f : FuncId} {args : List AVal} {F : List Fact} {σ : Sig} {Q : Out × Hp → Prop} (hm : P.follows .mixedOrders = true) (hT : okLT X.m X.G X.T = true) (hh : ∀ F, Hooks P (cxOf X F)) (h0n : X.n = 0)
    (hz : ∀ i, σ.ext i = none) (hb : BaseOk X σ) (hF : Holds σ F) (h : Sat σ Q ((evD P (cxOf X) mb fuel d).1 F f args ⟨[], []⟩)) {args' : Array Value} (ha : LRel ⟨fun _ => none, σ, fun _ => none⟩ args args'.toList) (w : World) :
    Calls P f args' w fun e w' => ∃ x, Q x ∧ ∃ g', g'.sig = σ ∧ OutRel g' x.1 e ∧ RowKit.Below w.heap.size w w' := by
  have hg := cx_good (X := X) hT hb hF
  have h0 : HRel (cxOf X F) ⟨fun _ => none, σ, fun _ => none⟩ [] w := ⟨fun i L hi => by simp at hi, fun i j L M hi => by simp at hi, fun i k hi => by simp at hi, fun i hi => by have : (cxOf X F).n = 0 := h0n; omega, hg, ⟨fun i Y hi _ => by have hi : σ.ext i = some Y := hi; (rw [hz i] at hi; cases hi), fun i Y hi => by cases hi⟩⟩
  refine ((evD_env (mb := mb) (fuel := fuel) hm (cx_ok hT) hh d).call F f args ⟨[], []⟩ Q ⟨fun _ => none, σ, fun _ => none⟩ w args' h0 ha h).mono ?_
  rintro e w' ⟨x, hq, _, g', h1, h2, h3⟩
  exact ⟨x, hq, g', h3.sub.sig, h1, h3.os, h3.tape, h3.output, h3.size, fun k hk => h3.frame k hk (fun i L hi => by simp at hi)⟩
inductive Vr where
  | leaf (v : AVal)
  | req (o : Ob) (v : Vr)
  | dead
  | node (i : Nat) (yes no : Vr)
  | pick (i : Nat) (n : Int) (yes no : Vr)
  | or (y n : Vr)
def eqOb : Ob → Ob → Bool
  | .ok, .ok => true
  | .no, .no => true
  | .node i y n, .node j y' n' => Nat.beq i j && (eqOb y y' && eqOb n n')
  | .pick i k y n, .pick j k' y' n' => Nat.beq i j && (decide (k = k') && (eqOb y y' && eqOb n n'))
  | _, _ => false
theorem eqOb_eq : ∀ (a b : Ob), eqOb a b = true → a = b
  | .ok, .ok, _ => rfl
  | .no, .no, _ => rfl
  | .node i y n, .node j y' n', h => by
    simp only [eqOb, Bool.and_eq_true] at h
    rw [Nat.eq_of_beq_eq_true h.1, eqOb_eq _ _ h.2.1, eqOb_eq _ _ h.2.2]
  | .pick i k y n, .pick j k' y' n', h => by
    simp only [eqOb, Bool.and_eq_true, decide_eq_true_eq] at h
    rw [Nat.eq_of_beq_eq_true h.1, h.2.1, eqOb_eq _ _ h.2.2.1, eqOb_eq _ _ h.2.2.2]
  | .ok, .no, h => by simp [eqOb] at h
  | .ok, .node _ _ _, h => by simp [eqOb] at h
  | .ok, .pick _ _ _ _, h => by simp [eqOb] at h
  | .no, .ok, h => by simp [eqOb] at h
  | .no, .node _ _ _, h => by simp [eqOb] at h
  | .no, .pick _ _ _ _, h => by simp [eqOb] at h
  | .node _ _ _, .ok, h => by simp [eqOb] at h
  | .node _ _ _, .no, h => by simp [eqOb] at h
  | .node _ _ _, .pick _ _ _ _, h => by simp [eqOb] at h
  | .pick _ _ _ _, .ok, h => by simp [eqOb] at h
  | .pick _ _ _ _, .no, h => by simp [eqOb] at h
  | .pick _ _ _ _, .node _ _ _, h => by simp [eqOb] at h
def okV : Tree (Out × Hp) → Vr → Bool
  | .leaf x, .leaf v => match x.1 with
    | .val r => idFree r && eqV r v
    | .pan _ => false
  | _, .dead => true
  | .node i y n, .node j y' n' => Nat.beq i j && (okV y y' && okV n n')
  | .pick i k y n, .pick j k' y' n' => Nat.beq i j && (decide (k = k') && (okV y y' && okV n n'))
  | .req o t, .req o' v => eqOb o o' && okV t v
  | .or y n, .or a b => okV y a && okV n b
  | .or y n, v => okV y v && okV n v
  | _, _ => false
inductive Wr' where
  | run (v : Vr)
  | dead
  | node (i : Nat) (yes no : Wr')
  | pick (i : Nat) (n : Int) (yes no : Wr')
def isTrue : Tree (Out × Hp) → Bool
  | .leaf x => match x.1 with
    | .val (.bool true) => true
    | _ => false
  | .or y n => isTrue y && isTrue n
  | _ => false
theorem isTrue_sat {σ : Sig} : ∀ {T : Tree (Out × Hp)}, isTrue T = true → Sat σ (fun x => x.1 = .val (.bool true)) T
  | .leaf x, h => by
    simp only [isTrue] at h
    split at h
    · assumption
    · cases h
  | .or y n, h => by
    simp only [isTrue, Bool.and_eq_true] at h
    exact ⟨isTrue_sat h.1, isTrue_sat h.2⟩
  | .node _ _ _, h => by simp [isTrue] at h
  | .pick _ _ _ _, h => by simp [isTrue] at h
  | .dead, h => by simp [isTrue] at h
  | .req _ _, h => by simp [isTrue] at h
theorem closed_hook {P : Program} {X : Ing} {mb : Bool} {fuel d : Nat} {f : FuncId} (hX : X.m = 0 ∧ X.G = [] ∧ X.T = .e ∧ X.n = 0 ∧ X.rows = [] ∧ X.cuts = []) (hinv : ∀ σ, X.inv σ := by exact fun _ => True.intro) (hkt : okKt X = true := by exact rfl) (hm : P.follows .mixedOrders = true) (hh : ∀ F, Hooks P (cxOf X F)) (h : isTrue ((evD P (cxOf X) mb fuel d).1 [] f [] ⟨[], []⟩) = true) (w : World) :
    Calls P f #[] w fun e w' => e = .returned (.bool true) ∧ RowKit.Below w.heap.size w w' := by
  obtain ⟨x1, x2, x3, x4, x5, x6⟩ := hX
  let σ : Sig := ⟨fun _ => 0, fun _ => false, fun _ => .empty, X.tab, fun _ => none⟩
  have hb : BaseOk X σ := ⟨by rw [x2]; intro k d h; simp at h, rfl, fun i k hi _ => by omega, by rw [x5]; exact rows_nil, by rw [x6]; exact cuts_nil, hinv _, hkt⟩
  refine (run_call (σ := σ) (F := []) hm (by rw [x3]; rfl) hh x4 (fun _ => rfl) hb trivial (isTrue_sat h) (args' := #[]) .nil w).mono ?_
  rintro e w' ⟨x, hq, g', hg, ho, hB⟩
  rw [hq] at ho
  obtain ⟨u, rfl, hu⟩ := ho
  cases hu
  exact ⟨rfl, hB⟩
theorem hooks_of {P : Program} {X : Ing} {F : List Fact} (hmh : X.mh = noMh) (hin : X.insf = none) (hat : X.atoms = []) (h : ∀ f args v, (cxOf X F).hook f args = some v → ∀ hp, CallP P (cxOf X F) f args hp (.val v) hp) : Hooks P (cxOf X F) :=
  ⟨h, fun f args hp v hp' e => by simp only [cxOf, hmh, noMh, reduceCtorEq] at e, fun f k e => by simp only [cxOf, hin, reduceCtorEq] at e, fun k b e => by simp only [cxOf, hat, List.not_mem_nil] at e⟩
theorem no_hooks {P : Program} {X : Ing} (hX : X.hook = noHook) (F : List Fact) (hmh : X.mh = noMh := by rfl) (hin : X.insf = none := by rfl) (hat : X.atoms = [] := by rfl) : Hooks P (cxOf X F) := by
  refine hooks_of hmh hin hat ?_
  intro f args v h
  simp only [cxOf, hX, noHook, reduceCtorEq] at h
end Go.Ev
set_option linter.unusedVariables false
set_option linter.unnecessarySimpa false
namespace Go.Ev
inductive Cl where
  | i (k : IntKind)
  | b
inductive Sh where
  | one (c : Cl)
  | agg (l : List Cl)
def cellsOf : List Sh → List Cl
  | [] => []
  | .one c :: r => c :: cellsOf r
  | .agg l :: r => l ++ cellsOf r
def encC : Cl → Int → Value
  | .i k, n => .int k (k.wrap n)
  | .b, n => .bool (!(n == 0))
def encCs : List Cl → List Int → List Value
  | [], _ => []
  | c :: r, l => encC c (l.headD 0) :: encCs r l.tail
def encS : List Sh → List Int → List Value
  | [], _ => []
  | .one c :: r, l => encC c (l.headD 0) :: encS r l.tail
  | .agg cs :: r, l => .agg (encCs cs l).toArray :: encS r (l.drop cs.length)
def encR (outs : List Sh) (l : List Int) : Value :=
  match outs with
  | [s] => (encS [s] l).headD (.tuple #[])
  | ss => .tuple (encS ss l).toArray
def inC : Cl → Int → Prop
  | .i k, n => k.wrap n = n
  | .b, n => n = 0 ∨ n = 1
def InR : List Cl → List Int → Prop
  | [], l => l = []
  | c :: r, l => match l with
    | [] => False
    | n :: l => inC c n ∧ InR r l
def FnOk (P : Program) (f : FuncId) (ins outs : List Sh) (F : List Int → List Int) : Prop :=
  ∀ l, InR (cellsOf ins) l → ∀ w, Calls P f (encS ins l).toArray w fun e w' => e = .returned (encR outs (F l)) ∧ RowKit.Below w.heap.size w w'
theorem FnOk.congr {P : Program} {f : FuncId} {ins outs : List Sh} {F F' : List Int → List Int} (h : FnOk P f ins outs F) (he : ∀ l, InR (cellsOf ins) l → F l = F' l) : FnOk P f ins outs F' :=
  fun l hl w => by rw [← he l hl]; exact h l hl w
def kindC : Cl → Option IntKind
  | .i k => some k
  | .b => none
def denC : Cl → Int → AVal
  | .i k, n => .int k (k.wrap n)
  | .b, n => .bool (!(n == 0))
def OutCs (σ : Sig) : List Cl → List AVal → List Int → Prop
  | [], [], _ => True
  | c :: cs, a :: as, l => den σ a = denC c (l.headD 0) ∧ OutCs σ cs as l.tail
  | _, _, _ => False
def OutSh (σ : Sig) : List Sh → List AVal → List Int → Prop
  | [], [], _ => True
  | .one c :: r, a :: as, l => den σ a = denC c (l.headD 0) ∧ OutSh σ r as l.tail
  | .agg cs :: r, a :: as, l => match a with
    | .agg es => OutCs σ cs es l ∧ OutSh σ r as (l.drop cs.length)
    | _ => False
  | _, _, _ => False
def OutOk (σ : Sig) (outs : List Sh) (v : AVal) (l : List Int) : Prop :=
  match outs with
  | [s] => OutSh σ [s] [v] l
  | ss => match v with
    | .tuple vs => OutSh σ ss vs l
    | _ => False
theorem denC_rel {g : Inj} {c : Cl} {a : AVal} {n : Int} {u : Value} (h : den g.sig a = denC c n) (hu : VRel g a u) : u = encC c n := by
  have := den_rel.2 hu
  rw [h] at this
  cases c with
  | i k => simp only [denC] at this; cases this; rfl
  | b => simp only [denC] at this; cases this; rfl
theorem outCs_rel {g : Inj} : ∀ {cs : List Cl} {as : List AVal} {l : List Int} {us : List Value}, OutCs g.sig cs as l → LRel g as us → us = encCs cs l
  | [], [], _, _, _, h => by cases h; rfl
  | c :: cs, a :: as, l, us, ho, h => by
    cases h with
    | cons _ u _ m h1 h2 =>
      simp only [encCs]
      rw [denC_rel ho.1 h1, outCs_rel ho.2 h2]
  | [], _ :: _, _, _, ho, _ => ho.elim
  | _ :: _, [], _, _, ho, _ => ho.elim
theorem outSh_rel {g : Inj} : ∀ {ss : List Sh} {as : List AVal} {l : List Int} {us : List Value}, OutSh g.sig ss as l → LRel g as us → us = encS ss l
  | [], [], _, _, _, h => by cases h; rfl
  | .one c :: r, a :: as, l, us, ho, h => by
    cases h with
    | cons _ u _ m h1 h2 =>
      simp only [encS]
      rw [denC_rel ho.1 h1, outSh_rel ho.2 h2]
  | .agg cs :: r, a :: as, l, us, ho, h => by
    simp only [OutSh] at ho
    split at ho
    · rename_i es
      cases h with
      | cons _ u _ m h1 h2 =>
        cases h1 with
        | agg _ l' h1 =>
          obtain ⟨l'⟩ := l'
          simp only [encS]
          rw [outSh_rel ho.2 h2]
          have : l' = encCs cs l := outCs_rel ho.1 h1
          rw [this]
    · exact ho.elim
  | [], _ :: _, _, _, ho, _ => ho.elim
  | .one _ :: _, [], _, _, ho, _ => ho.elim
  | .agg _ :: _, [], _, _, ho, _ => ho.elim
theorem outOk_rel {g : Inj} {outs : List Sh} {v : AVal} {l : List Int} {u : Value} (h : OutOk g.sig outs v l) (hu : VRel g v u) : u = encR outs l := by
  unfold OutOk at h
  unfold encR
  split at h
  · rename_i s
    have := outSh_rel h (.cons _ u _ _ hu .nil)
    rw [← this]; rfl
  · rename_i hne
    split at h
    · rename_i vs
      cases hu with
      | tuple _ l' h1 =>
        obtain ⟨l'⟩ := l'
        have : l' = encS outs l := outSh_rel h h1
        rw [this]
    · exact h.elim
def sigL (tab : TabF) (l : List Int) : Sig := ⟨fun i => l.getD i 0, fun i => !(l.getD i 0 == 0), fun _ => .empty, tab, fun _ => none⟩
structure Ent where
  f : FuncId
  ins : List Sh
  outs : List Sh
  id : Nat
def flatS : List Sh → List AVal → Option (List AVal)
  | [], [] => some []
  | .one _ :: r, a :: as => match flatS r as with
    | some l => some (a :: l)
    | none => none
  | .agg cs :: r, a :: as => match a with
    | .agg es => match Nat.beq es.length cs.length with
      | true => match flatS r as with
        | some l => some (es ++ l)
        | none => none
      | false => none
    | _ => none
  | _, _ => none
def okCell (kd : Nat → Option IntKind) : Cl → AVal → Bool
  | .i k, a => inK kd k a
  | .b, a => match a with
    | .bool _ => true
    | .symb _ => true
    | _ => false
def okCells (kd : Nat → Option IntKind) : List Cl → List AVal → Bool
  | [], [] => true
  | c :: cs, a :: as => okCell kd c a && okCells kd cs as
  | _, _ => false
def isLit : AVal → Bool
  | .int _ _ => true
  | .bool _ => true
  | _ => false
def findEnt (f : FuncId) : List Ent → Option Ent
  | [] => none
  | e :: r => match Nat.beq e.f f with
    | true => some e
    | false => findEnt f r
theorem callP_below {P : Program} {ng : Cx} {f : FuncId} {args : List AVal} {v : AVal}
    (h : ∀ (g : Inj) (w : World) (args' : Array Value), ng.Good g.sig → LRel g args args'.toList → Calls P f args' w fun e w' => ∃ u, e = .returned u ∧ VRel g v u ∧ RowKit.Below w.heap.size w w') (hp : Hp) : CallP P ng f args hp (.val v) hp := by
  refine ⟨Touch.refl _, fun g w args' hH ha => (h g w args' hH.sig ha).mono ?_⟩
  rintro e w' ⟨u, rfl, hu, hb⟩
  obtain ⟨h1, h2⟩ := hH.below hb
  exact ⟨g, ⟨u, rfl, hu⟩, h1, h2⟩
section
variable {X : Ing} {F : List Fact} {g : Inj} {tab : TabF} {lit : Bool} {cs : List AVal}
theorem cell_num {kd : Nat → Option IntKind} (hk : ∀ i k, kd i = some k → k.wrap (g.sig.ival i) = g.sig.ival i) {c : Cl} {a : AVal} (h : okCell kd c a = true) {u : Value} (hu : VRel g a u) :
    u = encC c (numS (den g.sig a)) ∧ inC c (numS (den g.sig a)) := by
  cases c with
  | i k =>
    obtain ⟨n, h1, h2⟩ := inK_spec hk (show inK kd k a = true from h)
    have hd := den_rel.2 hu
    rw [h1] at hd
    cases hd
    simp only [h1, numS, encC, h2, inC]
    exact ⟨trivial, trivial⟩
  | b =>
    have : ∃ x, den g.sig a = .bool x := by
      unfold okCell at h
      cases a <;> simp only [Bool.false_eq_true] at h <;> exact ⟨_, rfl⟩
    obtain ⟨x, hx⟩ := this
    have hd := den_rel.2 hu
    rw [hx] at hd
    cases hd
    simp only [hx, numS, encC, inC]
    cases x <;> simp
theorem cells_num {kd : Nat → Option IntKind} (hk : ∀ i k, kd i = some k → k.wrap (g.sig.ival i) = g.sig.ival i) : ∀ (cl r : List Cl) (as rest : List AVal) (us : List Value), okCells kd (cl ++ r) (as ++ rest) = true → as.length = cl.length → LRel g as us →
    us = encCs cl ((as ++ rest).map fun a => numS (den g.sig a)) ∧ okCells kd r rest = true
  | [], r, [], rest, us, h, _, ha => by cases ha; exact ⟨rfl, h⟩
  | c :: cl, r, a :: as, rest, us, h, hl, ha => by
    cases ha with
    | cons _ u _ m h1 h2 =>
      simp only [List.cons_append, okCells, Bool.and_eq_true] at h
      obtain ⟨e1, e2⟩ := cells_num hk cl r as rest m h.2 (by simpa using hl) h2
      refine ⟨?_, e2⟩
      simp only [List.cons_append, List.map_cons, encCs, List.headD_cons, List.tail_cons]
      rw [← (cell_num hk h.1 h1).1, ← e1]
  | [], _, _ :: _, _, _, _, hl, _ => by simp at hl
  | _ :: _, _, [], _, _, _, hl, _ => by simp at hl
theorem flat_num {kd : Nat → Option IntKind} (hk : ∀ i k, kd i = some k → k.wrap (g.sig.ival i) = g.sig.ival i) : ∀ (ss : List Sh) (args cs : List AVal) (us : List Value), flatS ss args = some cs → okCells kd (cellsOf ss) cs = true → LRel g args us → us = encS ss (cs.map fun a => numS (den g.sig a))
  | [], [], cs, us, h, _, ha => by cases ha; rfl
  | .one c :: r, a :: as, cs, us, h, ho, ha => by
    cases ha with
    | cons _ u _ m h1 h2 =>
      simp only [flatS] at h
      split at h
      · rename_i l hl
        cases h
        simp only [cellsOf, okCells, Bool.and_eq_true] at ho
        simp only [List.map_cons, encS, List.headD_cons, List.tail_cons]
        rw [← (cell_num hk ho.1 h1).1, ← flat_num hk r as l m hl ho.2 h2]
      · cases h
  | .agg cl :: r, a :: as, cs, us, h, ho, ha => by
    cases ha with
    | cons _ u _ m h1 h2 =>
      simp only [flatS] at h
      split at h
      · rename_i es
        split at h
        · rename_i hlen
          have hlen := Nat.eq_of_beq_eq_true hlen
          split at h
          · rename_i l hl
            cases h
            cases h1 with
            | agg _ l' h1 =>
            obtain ⟨l'⟩ := l'
            simp only [cellsOf] at ho
            obtain ⟨e1, e2⟩ := cells_num hk cl (cellsOf r) es l l' ho hlen h1
            simp only [encS]
            rw [← e1, flat_num hk r as l m hl e2 h2]
            congr 1
            rw [List.map_append, List.drop_append_of_le_length (by simp [hlen]), List.drop_eq_nil_of_le (by simp [hlen])]
            simp
          · cases h
        · cases h
      · cases h
  | [], _ :: _, _, _, h, _, _ => by simp [flatS] at h
  | .one _ :: _, [], _, _, h, _, _ => by simp [flatS] at h
  | .agg _ :: _, [], _, _, h, _, _ => by simp [flatS] at h
theorem okCells_inR {kd : Nat → Option IntKind} (hk : ∀ i k, kd i = some k → k.wrap (g.sig.ival i) = g.sig.ival i) : ∀ (cl : List Cl) (cs : List AVal), okCells kd cl cs = true → (∀ a, a ∈ cs → ∃ u, VRel g a u) → InR cl (cs.map fun a => numS (den g.sig a))
  | [], [], _, _ => rfl
  | c :: cl, a :: as, h, hu => by
    simp only [okCells, Bool.and_eq_true] at h
    obtain ⟨u, h1⟩ := hu a (by simp)
    exact ⟨(cell_num hk h.1 h1).2, okCells_inR hk cl as h.2 (fun b hb => hu b (by simp [hb]))⟩
  | [], _ :: _, h, _ => by simp [okCells] at h
  | _ :: _, [], h, _ => by simp [okCells] at h
theorem okCells_rel {kd : Nat → Option IntKind} : ∀ (cl : List Cl) (cs : List AVal), okCells kd cl cs = true → ∀ a, a ∈ cs → ∃ u, VRel g a u
  | c :: cl, b :: as, h, a, ha => by
    simp only [okCells, Bool.and_eq_true] at h
    rcases List.mem_cons.1 ha with rfl | ha
    · have h1 := h.1
      cases c with
      | i k =>
        cases a <;> simp only [okCell, inK, Bool.false_eq_true] at h1
        · exact ⟨_, .int _ _⟩
        · exact ⟨_, .symi _ _⟩
      | b =>
        cases a <;> simp only [okCell, Bool.false_eq_true] at h1
        · exact ⟨_, .bool _⟩
        · exact ⟨_, .symb _⟩
    · exact okCells_rel cl as h.2 a ha
  | [], _ :: _, h, _, _ => by simp [okCells] at h
  | _, [], _, _, ha => by cases ha
end
theorem findEnt_mem {f : FuncId} : ∀ {tbl : List Ent} {e : Ent}, findEnt f tbl = some e → e ∈ tbl ∧ e.f = f
  | [], _, h => by simp [findEnt] at h
  | x :: r, e, h => by
    simp only [findEnt] at h
    split at h
    · rename_i hb; cases h; exact ⟨by simp, Nat.eq_of_beq_eq_true hb⟩
    · obtain ⟨h1, h2⟩ := findEnt_mem h; exact ⟨by simp [h1], h2⟩
end Go.Ev
namespace Go.Ev
set_option linter.unusedVariables false
theorem rel_symi {g : Inj} {k : IntKind} {i : Nat} {n : Int} (h : g.sig.ival i = n) : VRel g (.symi k i) (.int k n) := h ▸ .symi k i
theorem rel_symb {g : Inj} {i : Nat} {n : Bool} (h : g.sig.bval i = n) : VRel g (.symb i) (.bool n) := h ▸ .symb i
theorem rel_num {g : Inj} {a : AVal} {u : Value} {k : IntKind} {n : Int} (h : VRel g a u) (hd : den g.sig a = .int k n) : u = .int k n := by
  have := den_rel.2 h
  rw [hd] at this
  cases this
  rfl
structure Shape where
  t : List (Nat × AVal)
  heap : List Blk
abbrev Asg := List (Nat × AVal)
abbrev Bm := List (Nat × Nat)
def sameC : AVal → AVal → Bool
  | .int k a, .int k' b => decide (k = k') && a == b
  | .bool a, .bool b => a == b
  | .str a, .str b => a.toList == b.toList
  | .nilptr, .nilptr => true
  | .nilslice, .nilslice => true
  | .nilmap, .nilmap => true
  | .nilfunc, .nilfunc => true
  | .niliface, .niliface => true
  | _, _ => false
def numP : AVal → Bool
  | .int _ _ => true
  | .symi _ _ => true
  | _ => false
def strP : AVal → Bool
  | .str _ => true
  | .syms _ => true
  | _ => false
theorem rel_of_int {g : Inj} {a : AVal} {k : IntKind} {n : Int} (h : den g.sig a = .int k n) : VRel g a (.int k n) := den_rel.1 (by rw [h]; exact .int _ _)
theorem rel_of_str {g : Inj} {a : AVal} {s : ByteArray} (h : den g.sig a = .str s) : VRel g a (.string s) := den_rel.1 (by rw [h]; exact .str _)
def sameFn : Fn → Fn → Bool
  | .func k, .func k' => Nat.beq k k'
  | _, _ => false
theorem sameFn_eq {a b : Fn} (h : sameFn a b = true) : a = b := by
  unfold sameFn at h
  split at h
  · rw [Nat.eq_of_beq_eq_true h]
  · cases h
mutual
def matchV (f : Bm) : AVal → AVal → Option Asg
  | .symi k i, b => match skOf b with
    | some (.i k') => if k = k' then some [(i, b)] else none
    | _ => none
  | .symb i, b => match skOf b with
    | some .b => some [(i, b)]
    | _ => none
  | .syms i, b => match skOf b with
    | some .s => some [(i, b)]
    | _ => none
  | .ptr b o, c => match c with
    | .ptr b' o' => match f[b]? with
      | some (x, sh) => if x = b' ∧ o' = o + sh then some [] else none
      | none => none
    | _ => none
  | .agg l, c => match c with
    | .agg m => matchL f l m
    | _ => none
  | .tuple l, c => match c with
    | .tuple m => matchL f l m
    | _ => none
  | .iface t v, c => match c with
    | .iface t' v' => if t = t' then matchV f v v' else none
    | _ => none
  | .row i, c => match c with
    | .row i' => if i = i' then some [] else none
    | _ => none
  | .crow i, c => match c with
    | .crow i' => if i = i' then some [] else none
    | _ => none
  | .slice b o len cap ex, c => match c with
    | .slice b' o' len' cap' ex' => match f[b]? with
      | some (x, sh) => if x = b' ∧ len = len' ∧ ex = ex' ∧ cap ≤ cap' ∧ (ex = none → cap = cap') ∧ (((0 < len ∨ ex = none) ∧ o' = o + sh) ∨ (len = 0 ∧ cap = 0 ∧ ex ≠ none ∧ sh = 0)) then some [] else none
      | none => none
    | _ => none
  | .lsl b z ap off n, c => match c with
    | .lsl b' z' ap' off' n' => match f[b]? with
      | some (x, sh) => match numP off && (numP n && (Nat.beq z z' && ((!ap || ap') && (isZ n' || (Nat.beq x b' && Nat.beq sh 0))))) with
        | true => match matchV f off off', matchV f n n' with
          | some p, some q => some (p ++ q)
          | _, _ => none
        | false => none
      | none => none
    | .nilslice => match numP off && numP n with
      | true => match matchV f off (.int .i64 0), matchV f n (.int .i64 0) with
        | some p, some q => some (p ++ q)
        | _, _ => none
      | false => none
    | _ => none
  | .lptr b z ix j, c => match c with
    | .lptr b' z' ix' j' => match f[b]? with
      | some (x, sh) => match numP ix && (Nat.beq z z' && (Nat.beq j j' && (Nat.beq x b' && Nat.beq sh 0))) with
        | true => matchV f ix ix'
        | false => none
      | none => none
    | _ => none
  | .func fv fi ca, c => match c with
    | .func fv' fi' ca' => match sameFn fv fv' with
      | true => match matchL f fi fi', matchL f ca ca' with
        | some p, some q => some (p ++ q)
        | _, _ => none
      | false => none
    | _ => none
  | a, b => match sameC a b with
    | true => some []
    | false => none
def matchL (f : Bm) : List AVal → List AVal → Option Asg
  | [], m => match m with
    | [] => some []
    | _ => none
  | a :: l, m => match m with
    | b :: m => match matchV f a b, matchL f l m with
      | some x, some y => some (x ++ y)
      | _, _ => none
    | [] => none
end
def Fits (σ τ : Sig) (l : Asg) : Prop :=
  ∀ p, p ∈ l → (∀ k n, den σ p.2 = .int k n → τ.ival p.1 = n) ∧ (∀ b, den σ p.2 = .bool b → τ.bval p.1 = b) ∧ (∀ s, den σ p.2 = .str s → τ.sval p.1 = s)
theorem Fits.left {σ τ : Sig} {l m : Asg} (h : Fits σ τ (l ++ m)) : Fits σ τ l := fun p hp => h p (by simp [hp])
theorem Fits.right {σ τ : Sig} {l m : Asg} (h : Fits σ τ (l ++ m)) : Fits σ τ m := fun p hp => h p (by simp [hp])
theorem sameC_rel {g g2 : Inj} {a b : AVal} {v : Value} (h : sameC a b = true) (hv : VRel g b v) : VRel g2 a v := by
  unfold sameC at h
  split at h
  · simp only [Bool.and_eq_true, decide_eq_true_eq, beq_iff_eq] at h
    obtain ⟨rfl, rfl⟩ := h
    cases hv; exact .int _ _
  · simp only [beq_iff_eq] at h
    subst h
    cases hv; exact .bool _
  · rw [toList_inj (eq_of_beq h)]
    cases hv; exact .str _
  · cases hv; exact .nilptr
  · cases hv; exact .nilslice
  · cases hv; exact .nilmap
  · cases hv; exact .nilfunc
  · cases hv; exact .niliface
  · cases h
theorem rel_bool {g : Inj} {a : AVal} {u : Value} {n : Bool} (h : VRel g a u) (hd : den g.sig a = .bool n) : u = .bool n := by
  have := den_rel.2 h
  rw [hd] at this
  cases this
  rfl
theorem rel_str {g : Inj} {a : AVal} {u : Value} {n : ByteArray} (h : VRel g a u) (hd : den g.sig a = .str n) : u = .string n := by
  have := den_rel.2 h
  rw [hd] at this
  cases this
  rfl
def shift (L : Loc) (sh : Nat) : Loc := ⟨L.blk, L.dl + sh, L.n - sh⟩
def Moves (f : Bm) (g g2 : Inj) : Prop := (∀ b x sh L, f[b]? = some (x, sh) → g x = some L → g2 b = some (shift L sh)) ∧ g2.sig.ext = g.sig.ext
theorem numP_den {g : Inj} {a : AVal} {k : IntKind} {n : Int} (h : numP a = true) (hv : VRel g a (.int k n)) : den g.sig a = .int k n := by
  unfold numP at h
  split at h
  · cases hv; rfl
  · cases hv; rfl
  · cases h
theorem strP_den {g : Inj} {a : AVal} {s : ByteArray} (h : strP a = true) (hv : VRel g a (.string s)) : den g.sig a = .str s := by
  unfold strP at h
  split at h
  · cases hv; rfl
  · cases hv; rfl
  · cases h
mutual
theorem matchV_sound {f : Bm} {g g2 : Inj} (hf : Moves f g g2) : ∀ (a b : AVal) (l : Asg) (v : Value), matchV f a b = some l → Fits g.sig g2.sig l → VRel g b v → VRel g2 a v
  | .symi k i, b, l, v, h, hl, hv => by
    simp only [matchV] at h
    split at h
    · rename_i k' hk
      split at h
      · rename_i hkk
        subst hkk
        cases h
        obtain ⟨⟨n, hn⟩, _⟩ := sk_i hk g.sig
        rw [rel_num hv hn]
        exact rel_symi ((hl (i, b) (by simp)).1 _ _ hn)
      · cases h
    · cases h
  | .symb i, b, l, v, h, hl, hv => by
    simp only [matchV] at h
    split at h
    · rename_i hk
      cases h
      obtain ⟨⟨n, hn⟩, _⟩ := sk_b hk g.sig
      rw [rel_bool hv hn]
      exact rel_symb ((hl (i, b) (by simp)).2.1 _ hn)
    · cases h
  | .syms i, b, l, v, h, hl, hv => by
    simp only [matchV] at h
    split at h
    · rename_i hk
      cases h
      obtain ⟨⟨n, hn⟩, _⟩ := sk_s hk g.sig
      rw [rel_str hv hn]
      have := (hl (i, b) (by simp)).2.2 _ hn
      rw [← this]
      exact .syms i
    · cases h
  | .ptr b o, c, l, v, h, hl, hv => by
    simp only [matchV] at h
    split at h
    · rename_i b' o'
      split at h
      · rename_i x sh hx
        split at h
        · rename_i hc
          obtain ⟨rfl, rfl⟩ := hc
          cases hv with
          | ptr _ _ L hL =>
            have := VRel.ptr (g := g2) b o _ (hf.1 b x sh L hx hL)
            simpa [shift, Nat.add_assoc, Nat.add_comm sh o] using this
        · cases h
      · cases h
    · cases h
  | .agg l0, c, l, v, h, hl, hv => by
    simp only [matchV] at h
    split at h
    · cases hv with
      | agg _ m hm => exact .agg _ _ (matchL_sound hf _ _ _ _ h hl hm)
    · cases h
  | .tuple l0, c, l, v, h, hl, hv => by
    simp only [matchV] at h
    split at h
    · cases hv with
      | tuple _ m hm => exact .tuple _ _ (matchL_sound hf _ _ _ _ h hl hm)
    · cases h
  | .iface t x, c, l, v, h, hl, hv => by
    simp only [matchV] at h
    split at h
    · split at h
      · rename_i ht
        subst ht
        cases hv with
        | iface _ _ x' hx => exact .iface _ _ _ (matchV_sound hf _ _ _ _ h hl hx)
      · cases h
    · cases h
  | .row i, c, l, v, h, hl, hv => by
    simp only [matchV] at h
    split at h
    · split at h
      · rename_i hi
        subst hi
        cases hv with
        | row _ X ao cap h1 h2 h3 => exact .row i X ao cap (by rw [hf.2]; exact h1) h2 h3
      · cases h
    · cases h
  | .crow i, c, l, v, h, hl, hv => by
    simp only [matchV] at h
    split at h
    · split at h
      · rename_i hi
        subst hi
        cases hv with
        | crow _ X ao h1 h2 => exact .crow i X ao (by rw [hf.2]; exact h1) h2
      · cases h
    · cases h
  | .slice b o len cap ex, c, l, v, h, hl, hv => by
    simp only [matchV] at h
    split at h
    · rename_i b' o' len' cap' ex'
      split at h
      · rename_i x sh hx
        split at h
        · rename_i hc
          obtain ⟨rfl, rfl, rfl, hcap, hnone, hoff⟩ := hc
          cases hv with
          | slice _ _ _ _ _ o2 cv L hL h0 h1 h2 =>
            have hm := hf.1 b x sh L hx hL
            rcases hoff with ⟨hlen, rfl⟩ | ⟨rfl, rfl, hne, rfl⟩
            · have ho : o2 = o + sh := by
                rcases h0 with h0 | h0
                · exact h0
                · rcases hlen with hlen | hlen
                  · omega
                  · exact absurd hlen h0.2.2
              subst ho
              have := VRel.slice (g := g2) b o len cap ex o cv (shift L sh) hm (.inl rfl) (fun e => by rw [h1 e, hnone e]) (fun z hz => by
                obtain ⟨q1, q2⟩ := h2 z hz
                simp only [shift]
                exact ⟨by omega, by omega⟩)
              simpa [shift, Nat.add_assoc, Nat.add_comm sh o] using this
            · have := VRel.slice (g := g2) b o 0 0 ex o2 cv (shift L 0) hm (.inr ⟨rfl, rfl, hne⟩) (fun e => absurd e hne) (fun z hz => by
                obtain ⟨q1, q2⟩ := h2 z hz
                simp only [shift]
                exact ⟨Nat.zero_le _, by omega⟩)
              simpa [shift] using this
        · cases h
      · cases h
    · cases h
  | .lsl b z ap off n, c, l, v, h, hl, hv => by
    simp only [matchV] at h
    split at h
    · rename_i b' z' ap' off' n'
      split at h
      · rename_i x sh hx
        split at h
        · rename_i hc
          simp only [Bool.and_eq_true] at hc
          obtain ⟨c1, c2, c3, c4, c5⟩ := hc
          have c3 := Nat.eq_of_beq_eq_true c3
          subst c3
          split at h
          · rename_i p q hp hq
            cases h
            cases hv with
            | lsl _ _ _ _ _ o m cap ao h1 h2 h3 h4 h5 =>
              have d1 := numP_den c1 (matchV_sound hf off off' p _ hp hl.left (rel_of_int h1))
              have d2 := numP_den c2 (matchV_sound hf n n' q _ hq hl.right (rel_of_int h2))
              refine .lsl b z ap off n o m cap ao d1 d2 h3 (fun ha => h4 ?_) (fun hm => ?_)
              · subst ha; simpa using c4
              · obtain ⟨L, k1, k2, k3⟩ := h5 hm
                rw [Bool.or_eq_true] at c5
                rcases c5 with c5 | c5
                · rw [isZ_spec c5] at h2
                  simp only [den, AVal.int.injEq, true_and] at h2
                  omega
                · simp only [Bool.and_eq_true] at c5
                  have e1 := Nat.eq_of_beq_eq_true c5.1
                  have e2 := Nat.eq_of_beq_eq_true c5.2
                  subst e1; subst e2
                  have := hf.1 b x 0 L hx k1
                  exact ⟨shift L 0, this, by simpa [shift] using k2, by simpa [shift] using k3⟩
          · cases h
        · cases h
      · cases h
    · split at h
      · rename_i hc
        simp only [Bool.and_eq_true] at hc
        split at h
        · rename_i p q hp hq
          cases h
          cases hv
          have d1 := numP_den hc.1 (matchV_sound hf off _ p _ hp hl.left (.int _ _))
          have d2 := numP_den hc.2 (matchV_sound hf n _ q _ hq hl.right (.int _ _))
          exact .lsl b z ap off n 0 0 0 none d1 d2 (Nat.le_refl _) (fun _ => ⟨rfl, fun _ => rfl⟩) (fun hm => absurd hm (Nat.lt_irrefl 0))
        · cases h
      · cases h
    · cases h
  | .lptr b z ix j, c, l, v, h, hl, hv => by
    simp only [matchV] at h
    split at h
    · rename_i b' z' ix' j'
      split at h
      · rename_i x sh hx
        split at h
        · rename_i hc
          simp only [Bool.and_eq_true] at hc
          obtain ⟨c1, c2, c3, c4, c5⟩ := hc
          have c2 := Nat.eq_of_beq_eq_true c2
          have c3 := Nat.eq_of_beq_eq_true c3
          have c4 := Nat.eq_of_beq_eq_true c4
          have c5 := Nat.eq_of_beq_eq_true c5
          subst c2; subst c3; subst c4; subst c5
          cases hv with
          | lptr _ _ _ _ m L h1 h2 h3 h4 =>
            have d1 := numP_den c1 (matchV_sound hf ix ix' l _ h hl (rel_of_int h2))
            have := VRel.lptr (g := g2) b z ix j m (shift L 0) (hf.1 b x 0 L hx h1) d1 (by simpa [shift] using h3) h4
            simpa [shift] using this
        · cases h
      · cases h
    · cases h
  | .func fv fi ca, c, l, v, h, hl, hv => by
    simp only [matchV] at h
    split at h
    · rename_i fv' fi' ca'
      split at h
      · rename_i hs
        have := sameFn_eq hs
        subst this
        split at h
        · rename_i p q hp hq
          cases h
          cases hv with
          | func _ _ _ fs cs h1 h2 => exact .func _ _ _ fs cs (matchL_sound hf _ _ _ _ hp hl.left h1) (matchL_sound hf _ _ _ _ hq hl.right h2)
        · cases h
      · cases h
    · cases h
  | .yield _, b, l, v, h, hl, hv | .rptr _ _ _, b, l, v, h, hl, hv | .int _ _, b, l, v, h, hl, hv | .bool _, b, l, v, h, hl, hv | .float _ _, b, l, v, h, hl, hv | .str _, b, l, v, h, hl, hv | .nilptr, b, l, v, h, hl, hv | .nilslice, b, l, v, h, hl, hv
  | .nilmap, b, l, v, h, hl, hv | .map _, b, l, v, h, hl, hv | .nilfunc, b, l, v, h, hl, hv | .niliface, b, l, v, h, hl, hv => by
    simp only [matchV] at h
    split at h
    · rename_i hs; exact sameC_rel hs hv
    · cases h
theorem matchL_sound {f : Bm} {g g2 : Inj} (hf : Moves f g g2) : ∀ (a b : List AVal) (l : Asg) (v : List Value), matchL f a b = some l → Fits g.sig g2.sig l → LRel g b v → LRel g2 a v
  | [], b, l, v, h, hl, hv => by
    simp only [matchL] at h
    split at h
    · cases hv; exact .nil
    · cases h
  | a :: r, b, l, v, h, hl, hv => by
    simp only [matchL] at h
    split at h
    · split at h
      · rename_i x y hx hy
        cases h
        cases hv with
        | cons _ u _ m h1 h2 => exact .cons _ _ _ _ (matchV_sound hf _ _ _ _ hx hl.left h1) (matchL_sound hf _ _ _ _ hy hl.right h2)
      · cases h
    · cases h
end
def matchPre (f : Bm) : List AVal → List AVal → Option Asg
  | [], _ => some []
  | a :: l, m => match m with
    | b :: m => match matchV f a b, matchPre f l m with
      | some x, some y => some (x ++ y)
      | _, _ => none
    | [] => none
theorem matchPre_get {f : Bm} : ∀ (c d : List AVal) (l : Asg), matchPre f c d = some l → ∀ (i : Nat) (a : AVal), c[i]? = some a → ∃ b m, d[i]? = some b ∧ matchV f a b = some m ∧ ∀ p, p ∈ m → p ∈ l
  | [], _, _, _, i, a, h => by simp at h
  | x :: c, d, l, h, i, a, hi => by
    simp only [matchPre] at h
    split at h
    · rename_i b d
      split at h
      · rename_i y z hy hz
        cases h
        cases i with
        | zero => simp at hi; subst hi; exact ⟨b, y, by simp, hy, fun p hp => by simp [hp]⟩
        | succ i =>
          obtain ⟨b', m, h1, h2, h3⟩ := matchPre_get c d z hz i a (by simpa using hi)
          exact ⟨b', m, by simpa using h1, h2, fun p hp => by simp [h3 p hp]⟩
      · cases h
    · cases h
def matchB (f : Bm) (src : List Blk) (k : Blk) (i : Nat) : Option Asg :=
  match k with
  | .gone => some []
  | .map _ => none
  | .loop _ => none
  | .dfr => none
  | .iter _ _ _ => none
  | .lst s n cl e => match f[i]? with
    | some (x, sh) => match strP s && numP n with
      | true => match src[x]? with
        | some (.lst s' n' cl' e') => if sh = 0 ∧ cl = cl' ∧ e = e' then
            match matchV f s s', matchV f n n' with
            | some p, some q => some (p ++ q)
            | _, _ => none
          else none
        | none => match matchV f s (.str .empty), matchV f n (.int .i64 0) with
          | some p, some q => some (p ++ q)
          | _, _ => none
        | _ => none
      | false => none
    | none => none
  | .cells c e => match f[i]? with
    | some (x, sh) => match src[x]? with
      | some (.cells c' e') => if e = e' ∧ sh ≤ c'.length then matchPre f c (c'.drop sh) else none
      | _ => none
    | none => none
def matchH (f : Bm) (src : List Blk) : List Blk → Nat → Option Asg
  | [], _ => some []
  | k :: ks, i => match matchB f src k i, matchH f src ks (i + 1) with
    | some x, some y => some (x ++ y)
    | _, _ => none
theorem matchH_get {f : Bm} {src : List Blk} : ∀ (ks : List Blk) (n : Nat) (l : Asg), matchH f src ks n = some l → ∀ (i : Nat) (k : Blk), ks[i]? = some k → ∃ m, matchB f src k (n + i) = some m ∧ ∀ p, p ∈ m → p ∈ l
  | [], _, _, _, i, k, h => by simp at h
  | x :: ks, n, l, h, i, k, hi => by
    simp only [matchH] at h
    split at h
    · rename_i y z hy hz
      cases h
      cases i with
      | zero => simp at hi; subst hi; exact ⟨y, hy, fun p hp => by simp [hp]⟩
      | succ i =>
        obtain ⟨m, h1, h2⟩ := matchH_get ks (n + 1) z hz i k (by simpa using hi)
        exact ⟨m, by rw [show n + (i + 1) = n + 1 + i by omega]; exact h1, fun p hp => by simp [h2 p hp]⟩
    · cases h
def matchT (f : Bm) (t : Tm) : List (Nat × AVal) → Option Asg
  | [] => some []
  | p :: r => match t.get p.1 with
    | some b => match matchV f p.2 b, matchT f t r with
      | some x, some y => some (x ++ y)
      | _, _ => none
    | none => none
theorem matchT_get {f : Bm} {t : Tm} : ∀ (r : List (Nat × AVal)) (l : Asg), matchT f t r = some l → ∀ p, p ∈ r → ∃ b m, t.get p.1 = some b ∧ matchV f p.2 b = some m ∧ ∀ q, q ∈ m → q ∈ l
  | [], _, _, p, hp => by cases hp
  | q :: r, l, h, p, hp => by
    simp only [matchT] at h
    split at h
    · rename_i b hb
      split at h
      · rename_i x y hx hy
        cases h
        rcases List.mem_cons.1 hp with rfl | hp
        · exact ⟨b, x, hb, hx, fun z hz => by simp [hz]⟩
        · obtain ⟨b', m, h1, h2, h3⟩ := matchT_get r y hy p hp
          exact ⟨b', m, h1, h2, fun z hz => by simp [h3 z hz]⟩
      · cases h
    · cases h
def notIn (x : Nat) : Bm → Bool
  | [] => true
  | p :: l => !(Nat.beq p.1 x) && notIn x l
def noTwice : Bm → Bool
  | [] => true
  | p :: l => notIn p.1 l && noTwice l
theorem notIn_spec {x : Nat} : ∀ {l : Bm}, notIn x l = true → ∀ (i y sh : Nat), l[i]? = some (y, sh) → y ≠ x
  | [], _, i, y, sh, h => by simp at h
  | p :: l, hl, i, y, sh, h => by
    simp only [notIn, Bool.and_eq_true, Bool.not_eq_true'] at hl
    cases i with
    | zero => simp at h; subst h; exact Nat.ne_of_beq_eq_false hl.1
    | succ i => exact notIn_spec hl.2 i y sh (by simpa using h)
theorem noTwice_spec : ∀ {l : Bm}, noTwice l = true → ∀ (i j x sh sh' : Nat), l[i]? = some (x, sh) → l[j]? = some (x, sh') → i = j
  | [], _, i, _, _, _, _, h, _ => by simp at h
  | p :: l, hl, i, j, x, sh, sh', hi, hj => by
    simp only [noTwice, Bool.and_eq_true] at hl
    cases i with
    | zero =>
      cases j with
      | zero => rfl
      | succ j =>
        simp at hi; subst hi
        exact absurd rfl (notIn_spec hl.1 j x sh' (by simpa using hj))
    | succ i =>
      cases j with
      | zero =>
        simp at hj; subst hj
        exact absurd rfl (notIn_spec hl.1 i x sh (by simpa using hi))
      | succ j => rw [noTwice_spec hl.2 i j x sh sh' (by simpa using hi) (by simpa using hj)]
def moved (f : Bm) (g : Inj) (τ : Sig) : Inj := ⟨fun b => match f[b]? with
  | some (x, sh) => (g x).map fun L => shift L sh
  | none => none, τ, fun _ => none⟩
theorem moved_moves (f : Bm) (g : Inj) (τ : Sig) (he : τ.ext = g.sig.ext) : Moves f g (moved f g τ) := by
  refine ⟨?_, he⟩
  intro b x sh L h1 h2
  simp [moved, h1, h2]
theorem moved_from {f : Bm} {g : Inj} {τ : Sig} {b : Nat} {M : Loc} (h : moved f g τ b = some M) : ∃ x sh L, f[b]? = some (x, sh) ∧ g x = some L ∧ M = shift L sh := by
  simp only [moved] at h
  split at h
  · rename_i x sh hx
    simp only [Option.map_eq_some_iff] at h
    obtain ⟨L, hL, rfl⟩ := h
    exact ⟨x, sh, L, hx, hL, rfl⟩
  · cases h
theorem rematch {ng ng2 : Cx} {f : Bm} {g : Inj} {τ : Sig} {H pats : List Blk} {w : World} {l : Asg} (hH : HRel ng g H w) (h0 : ng2.n = 0) (hG : ng2.Good τ) (hlen : f.length = pats.length) (htw : noTwice f = true) (hm : matchH f H pats 0 = some l) (hl : Fits g.sig τ l) (he : τ.ext = g.sig.ext) :
    HRel ng2 (moved f g τ) pats w := by
  have cell : ∀ (i : Nat) (k : Blk), pats[i]? = some k → k ≠ .gone → (∃ c e x sh c' m, k = .cells c e ∧ f[i]? = some (x, sh) ∧ H[x]? = some (.cells c' e) ∧ sh ≤ c'.length ∧ matchPre f c (c'.drop sh) = some m ∧ ∀ p, p ∈ m → p ∈ l) ∨
      ∃ s n cl e x sh, k = .lst s n cl e ∧ f[i]? = some (x, sh) ∧ strP s = true ∧ numP n = true ∧ ∃ p q, (∀ r, r ∈ p → r ∈ l) ∧ (∀ r, r ∈ q → r ∈ l) ∧
        ((H[x]? = none ∧ matchV f s (.str .empty) = some p ∧ matchV f n (.int .i64 0) = some q) ∨ ∃ s' n', sh = 0 ∧ H[x]? = some (.lst s' n' cl e) ∧ matchV f s s' = some p ∧ matchV f n n' = some q) := by
    intro i k hi hk
    obtain ⟨m, h1, h2⟩ := matchH_get pats 0 l hm i k hi
    rw [Nat.zero_add] at h1
    unfold matchB at h1
    split at h1
    · exact absurd rfl hk
    · cases h1
    · cases h1
    · cases h1
    · cases h1
    · rename_i s n cl e
      split at h1
      · rename_i x sh hx
        split at h1
        · rename_i hsn
          simp only [Bool.and_eq_true] at hsn
          split at h1
          · rename_i s' n' cl' e' hc
            split at h1
            · rename_i hcond
              obtain ⟨rfl, rfl, rfl⟩ := hcond
              split at h1
              · rename_i p q hp hq
                cases h1
                exact .inr ⟨s, n, cl, e, x, 0, rfl, hx, hsn.1, hsn.2, p, q, fun r hr => h2 r (by simp [hr]), fun r hr => h2 r (by simp [hr]), .inr ⟨s', n', rfl, hc, hp, hq⟩⟩
              · cases h1
            · cases h1
          · rename_i hc
            split at h1
            · rename_i p q hp hq
              cases h1
              exact .inr ⟨s, n, cl, e, x, sh, rfl, hx, hsn.1, hsn.2, p, q, fun r hr => h2 r (by simp [hr]), fun r hr => h2 r (by simp [hr]), .inl ⟨hc, hp, hq⟩⟩
            · cases h1
          · cases h1
        · cases h1
      · cases h1
    · rename_i c e
      split at h1
      · rename_i x sh hx
        split at h1
        · rename_i c' e' hc
          split at h1
          · rename_i hcond
            obtain ⟨rfl, hs⟩ := hcond
            exact .inl ⟨c, e, x, sh, c', m, rfl, hx, hc, hs, h1, h2⟩
          · cases h1
        · cases h1
      · cases h1
  have live : ∀ (i x sh : Nat) (L : Loc), Live pats i → f[i]? = some (x, sh) → g x = some L → Live H x := by
    rintro i x sh L ⟨k, hk, hne⟩ hx hL
    rcases cell i k hk hne with ⟨c, e, x', sh', c', m, rfl, hx', hc, _⟩ | ⟨s, n, cl, e, x', sh', rfl, hx', _, _, p, q, _, _, hh⟩
    · rw [hx] at hx'; cases hx'
      exact ⟨_, hc, by simp⟩
    · rw [hx] at hx'; cases hx'
      rcases hh with ⟨h1, _⟩ | ⟨s', n', _, h1, _⟩
      · have := (hH.dom x L hL).1
        rw [List.getElem?_eq_none_iff] at h1
        omega
      · exact ⟨_, h1, by simp⟩
  refine ⟨?_, ?_, ?_, fun i hi => by omega, hG, ⟨?_, fun i X hi => by cases hi⟩⟩
  rotate_left 3
  · intro i X hi hlen'
    have hi : g.sig.ext i = some X := by rw [← he]; exact hi
    refine ⟨(hH.frz.row i X hi hlen').1, ?_⟩
    intro j M hj lj
    obtain ⟨x, sh, L, h1, h2, rfl⟩ := moved_from hj
    exact (hH.frz.row i X hi hlen').2 x L h2 (live j x sh L lj h1 h2)
  · intro i M hi
    obtain ⟨x, sh, L, h1, h2, rfl⟩ := moved_from hi
    exact ⟨by rw [← hlen]; exact (List.getElem?_eq_some_iff.1 h1).1, (hH.dom x L h2).2⟩
  · intro i j M N hi hj hb li lj
    obtain ⟨x, sh, L, h1, h2, rfl⟩ := moved_from hi
    obtain ⟨x', sh', L', h1', h2', rfl⟩ := moved_from hj
    have := hH.inj x x' L L' h2 h2' hb (live i x sh L li h1 h2) (live j x' sh' L' lj h1' h2')
    subst this
    exact noTwice_spec htw i j x sh sh' h1 h1'
  · intro i k hi hk
    rcases cell i k hi hk with ⟨c, e, x, sh, c', m, rfl, hx, hc, hs, hpre, hsub⟩ | ⟨s, n, cl, e, x, sh, rfl, hx, hsp, hnp, p, q, hp, hq, hh⟩
    · obtain ⟨L, hL, C, fr, b1, b2, b3, b4, b5⟩ := hH.blk x _ hc (by simp)
      refine .inr ⟨shift L sh, (moved_moves f g τ he).1 i x sh L hx hL, C, fr, b1, by simp only [shift]; omega, b3, ?_, ?_⟩
      · have hle : c.length ≤ (c'.drop sh).length := by
          rcases Nat.lt_or_ge (c'.drop sh).length c.length with h9 | h9
          · have hget : c[(c'.drop sh).length]? = some c[(c'.drop sh).length] := by simp
            obtain ⟨b, _, hb, _⟩ := matchPre_get c _ m hpre _ _ hget
            have := (List.getElem?_eq_some_iff.1 hb).1
            omega
          · exact h9
        simp only [List.length_drop] at hle
        simp only [shift]; omega
      · intro j a hj
        obtain ⟨b, m', q1, q2, q3⟩ := matchPre_get c _ m hpre j a hj
        rw [List.getElem?_drop] at q1
        obtain ⟨v, r1, r2, r3⟩ := b5 (sh + j) b q1
        refine ⟨v, ?_, matchV_sound (moved_moves f g τ he) a b m' v q2 (fun p hp => hl p (hsub p (q3 p hp))) r2, r3⟩
        simpa [shift, Nat.add_assoc] using r1
    · have hfp : Fits g.sig τ p := fun r hr => hl r (hp r hr)
      have hfq : Fits g.sig τ q := fun r hr => hl r (hq r hr)
      rcases hh with ⟨h1, m1, m2⟩ | ⟨s', n', rfl, h1, m1, m2⟩
      · refine .inl ⟨s, n, cl, e, rfl, ?_, ?_⟩
        · exact strP_den hsp (matchV_sound (moved_moves f g τ he) s _ p _ m1 hfp (.str _))
        · exact numP_den hnp (matchV_sound (moved_moves f g τ he) n _ q _ m2 hfq (.int _ _))
      · rcases hH.blk0 x _ h1 (by simp) with ⟨s2, n2, cl2, e2, hk2, d1, d2⟩ | ⟨L, hL, S, N, C, fr, b1, b2, b3, b4, b5, b6, b7, b8⟩
        · cases hk2
          refine .inl ⟨s, n, cl, e, rfl, ?_, ?_⟩
          · exact strP_den hsp (matchV_sound (moved_moves f g τ he) s s' p _ m1 hfp (rel_of_str d1))
          · exact numP_den hnp (matchV_sound (moved_moves f g τ he) n n' q _ m2 hfq (rel_of_int d2))
        · refine .inr ⟨shift L 0, (moved_moves f g τ he).1 i x 0 L hx hL, S, N, C, fr, ?_, ?_, b3, b4, by simp only [shift]; omega, b6, by simp only [shift]; omega, fun m j hm hj => ?_⟩
          · exact strP_den hsp (matchV_sound (moved_moves f g τ he) s s' p _ m1 hfp (rel_of_str b1))
          · exact numP_den hnp (matchV_sound (moved_moves f g τ he) n n' q _ m2 hfq (rel_of_int b2))
          · obtain ⟨v, v1, v2, v3⟩ := b8 m j hm hj
            refine ⟨v, by simpa [shift] using v1, ?_, v3⟩
            rcases cellD_like cl j (S.data.toList.drop (m * rsz cl)) with ⟨k', n3, _, e3⟩ | ⟨_, b', e3⟩
            · have : rowAtD cl S m j = .int k' n3 := e3
              rw [this] at v2 ⊢
              cases v2; exact .int _ _
            · have : rowAtD cl S m j = .bool b' := e3
              rw [this] at v2 ⊢
              cases v2; exact .bool _
def cx0 (tab : TabF) : Cx := { n := 0, look := fun _ => none, fact := fun _ => none, tab := tab }
theorem cx0_good {tab : TabF} {σ : Sig} (h : σ.tab = tab) : (cx0 tab).Good σ :=
  ⟨fun _ _ h => by simp [cx0] at h, fun _ _ h => by simp [cx0] at h, fun _ _ h => by simp [cx0] at h, h, fun _ _ _ h => by simp [cx0] at h, fun _ _ _ _ h => by simp [cx0] at h, fun _ _ _ _ h => by simp [cx0] at h, fun _ _ h => by simp [cx0] at h, fun _ _ h => by simp [cx0] at h, fun _ _ _ _ h => by simp [cx0] at h, trivial⟩
structure Fra where
  w : World
  own : Nat → Prop
  new : ∀ b, w.heap.size ≤ b → own b
  pin : Nat → Option (Option Loc) := fun _ => none
def Fra.of (w : World) : Fra := { w := w, own := fun b => w.heap.size ≤ b, new := fun _ h => h }
instance : Coe World Fra := ⟨Fra.of⟩
structure BelowF (f : Fra) (w : World) : Prop where
  os : w.os = f.w.os
  tape : w.tape = f.w.tape
  output : w.output = f.w.output
  size : f.w.heap.size ≤ w.heap.size
  frame : ∀ b, b < f.w.heap.size → ¬ f.own b → w.heap[b]? = f.w.heap[b]?
theorem BelowF.below {w0 w : World} (h : BelowF (Fra.of w0) w) : RowKit.Below w0.heap.size w0 w :=
  ⟨h.os, h.tape, h.output, h.size, fun k hk => h.frame k hk (by show ¬ w0.heap.size ≤ k; omega)⟩
theorem BelowF.refl (f : Fra) : BelowF f f.w := ⟨rfl, rfl, rfl, Nat.le_refl _, fun _ _ _ => rfl⟩
structure At (tab : TabF) (s : Shape) (n : Nat) (σ : Sig) (w0 : Fra) (a : Act) (w : World) : Prop where
  ex : ∃ g : Inj, g.sig = σ ∧ HRel (cx0 tab) g s.heap w ∧ (∀ p, p ∈ s.t → ∃ u, a.tmps[p.1]? = some u ∧ VRel g p.2 u) ∧ (∀ i L, g i = some L → w0.own L.blk) ∧ ∀ i x, w0.pin i = some x → i < s.heap.length ∧ g i = x
  below : BelowF w0 w
  size : a.tmps.size = n
  defers : a.defers = []
inductive SEx where
  | normal
  | exit (i : Nat)
  | ret
def sameX : SEx → Ex → Bool
  | .normal, .normal => true
  | .exit i, .exit j => Nat.beq i j
  | .ret, .ret => true
  | _, _ => false
def SExRel : SEx → Exit → Prop
  | .normal, .normal => True
  | .exit i, .exit j => i = j
  | .ret, .ret => True
  | _, _ => False
theorem sameX_rel {g : Inj} {x : SEx} {y : Ex} {e : Exit} (h : sameX x y = true) (hr : ExRel g y e) : SExRel x e := by
  cases x <;> cases y <;> simp only [sameX, Bool.false_eq_true] at h <;> cases e <;> simp only [ExRel] at hr <;> simp only [SExRel]
  have := Nat.eq_of_beq_eq_true h
  omega
def findAs : Asg → Nat → Option AVal
  | [], _ => none
  | p :: l, i => match Nat.beq p.1 i with
    | true => some p.2
    | false => findAs l i
def consB (l : Asg) : List (Nat × AVal) → Bool
  | [] => true
  | p :: r => (match findAs l p.1 with
    | some y => sameV p.2 y
    | none => false) && consB l r
def iOf : AVal → Int
  | .int _ n => n
  | _ => 0
def bOf : AVal → Bool
  | .bool b => b
  | _ => false
def sOf : AVal → ByteArray
  | .str s => s
  | _ => .empty
def valS (σ : Sig) : AVal → AVal
  | .rptr i ix j => match σ.ext i with
    | some X => X.val (iOf (den σ ix)).toNat j
    | none => .nilptr
  | a => den σ a
def asgS (σ : Sig) (l : Asg) : Sig where
  ival := fun i => match findAs l i with
    | some x => iOf (valS σ x)
    | none => 0
  bval := fun i => match findAs l i with
    | some x => bOf (valS σ x)
    | none => false
  sval := fun i => match findAs l i with
    | some x => sOf (valS σ x)
    | none => .empty
  tab := σ.tab
  ext := σ.ext
theorem consB_spec {l : Asg} : ∀ {r : List (Nat × AVal)}, consB l r = true → ∀ p, p ∈ r → findAs l p.1 = some p.2
  | [], _, p, hp => by cases hp
  | q :: r, h, p, hp => by
    simp only [consB, Bool.and_eq_true] at h
    rcases List.mem_cons.1 hp with rfl | hp
    · have h1 := h.1
      split at h1
      · rename_i y hy; rw [hy, sameV_eq h1]
      · cases h1
    · exact consB_spec h.2 p hp
theorem findAs_append {x : Asg} (y : Asg) {i : Nat} {v : AVal} (h : findAs x i = some v) : findAs (x ++ y) i = some v := by
  induction x with
  | nil => simp [findAs] at h
  | cons p l ih =>
    simp only [List.cons_append, findAs] at h ⊢
    split at h
    · exact h
    · exact ih h
theorem fits_asg {σ : Sig} {l : Asg} (ex : Asg) (h : consB l l = true) : Fits σ (asgS σ (l ++ ex)) l := by
  intro p hp
  have := findAs_append ex (consB_spec h p hp)
  have hv : ∀ a, den σ p.2 = a → (∀ i ix j, p.2 = .rptr i ix j → False) → valS σ p.2 = a := by
    intro a ha hne
    unfold valS
    split
    · rename_i i ix j he; exact (hne i ix j he).elim
    · exact ha
  refine ⟨fun k n hn => ?_, fun b hn => ?_, fun s hn => ?_⟩
  · rw [show (asgS σ (l ++ ex)).ival p.1 = iOf (valS σ p.2) by simp only [asgS, this], hv _ hn (fun i ix j he => by rw [he] at hn; cases hn)]; rfl
  · rw [show (asgS σ (l ++ ex)).bval p.1 = bOf (valS σ p.2) by simp only [asgS, this], hv _ hn (fun i ix j he => by rw [he] at hn; cases hn)]; rfl
  · rw [show (asgS σ (l ++ ex)).sval p.1 = sOf (valS σ p.2) by simp only [asgS, this], hv _ hn (fun i ix j he => by rw [he] at hn; cases hn)]; rfl
def sameAs : Asg → Asg → Bool
  | [], [] => true
  | p :: l, q :: m => Nat.beq p.1 q.1 && sameV p.2 q.2 && sameAs l m
  | _, _ => false
theorem sameAs_eq : ∀ {l m : Asg}, sameAs l m = true → l = m
  | [], [], _ => rfl
  | (a, b) :: l, (c, d) :: m, h => by
    simp only [sameAs, Bool.and_eq_true] at h
    obtain ⟨⟨h1, h2⟩, h3⟩ := h
    have := Nat.eq_of_beq_eq_true h1
    rw [sameAs_eq h3, sameV_eq h2, this]
  | [], _ :: _, h => by simp [sameAs] at h
  | _ :: _, [], h => by simp [sameAs] at h
def matchS (f : Bm) (s : Shape) (t : Tm) (H : List Blk) (l : Asg) : Bool :=
  match matchT f t s.t, matchH f H s.heap 0 with
  | some x, some y => sameAs (x ++ y) l && Nat.beq f.length s.heap.length && noTwice f
  | _, _ => false
theorem matchS_spec {f : Bm} {s : Shape} {t : Tm} {H : List Blk} {l : Asg} (h : matchS f s t H l = true) : ∃ x y, matchT f t s.t = some x ∧ matchH f H s.heap 0 = some y ∧ l = x ++ y ∧ f.length = s.heap.length ∧ noTwice f = true := by
  unfold matchS at h
  split at h
  · rename_i x y hx hy
    simp only [Bool.and_eq_true] at h
    obtain ⟨⟨h1, h2⟩, h3⟩ := h
    exact ⟨x, y, hx, hy, (sameAs_eq h1).symm, Nat.eq_of_beq_eq_true h2, h3⟩
  · cases h
def notPtr : AVal → Bool
  | .rptr _ _ _ => false
  | _ => true
def consE (l : Asg) : List (Nat × AVal) → Bool
  | [] => true
  | p :: r => (match findAs l p.1 with
    | some y => sameV p.2 y || (notPtr p.2 && notPtr y)
    | none => false) && consE l r
def EqsL (σ : Sig) (l : Asg) : List (Nat × AVal) → Prop
  | [] => True
  | p :: r => match findAs l p.1 with
    | some y => match sameV p.2 y with
      | true => EqsL σ l r
      | false => den σ p.2 = den σ y ∧ EqsL σ l r
    | none => EqsL σ l r
theorem valS_plain {σ : Sig} {a : AVal} (h : notPtr a = true) : valS σ a = den σ a := by
  cases a <;> first | rfl | simp [notPtr] at h
theorem eqsL_val {σ : Sig} {l : Asg} : ∀ {r : List (Nat × AVal)}, consE l r = true → EqsL σ l r → ∀ p, p ∈ r → ∃ y, findAs l p.1 = some y ∧ valS σ p.2 = valS σ y
  | [], _, _, p, hp => by cases hp
  | q :: r, h, he, p, hp => by
    simp only [consE, Bool.and_eq_true] at h
    obtain ⟨h1, h2⟩ := h
    split at h1
    · rename_i y hy
      simp only [EqsL, hy] at he
      have hr : EqsL σ l r := by
        split at he
        · exact he
        · exact he.2
      rcases List.mem_cons.1 hp with rfl | hp
      · refine ⟨y, hy, ?_⟩
        split at he
        · rename_i hs; rw [sameV_eq hs]
        · rename_i hs
          rw [hs, Bool.false_or, Bool.and_eq_true] at h1
          rw [valS_plain h1.1, valS_plain h1.2]; exact he.1
      · exact eqsL_val h2 hr p hp
    · cases h1
theorem fits_eqs {σ : Sig} {l : Asg} (ex : Asg) (h : consE l l = true) (he : EqsL σ l l) : Fits σ (asgS σ (l ++ ex)) l := by
  intro p hp
  obtain ⟨y, h1, h2⟩ := eqsL_val h he p hp
  have := findAs_append ex h1
  have hv : ∀ a, den σ p.2 = a → (∀ i ix j, p.2 = .rptr i ix j → False) → valS σ p.2 = a := by
    intro a ha hne
    unfold valS
    split
    · rename_i i ix j he; exact (hne i ix j he).elim
    · exact ha
  refine ⟨fun k n hn => ?_, fun b hn => ?_, fun s hn => ?_⟩
  · rw [show (asgS σ (l ++ ex)).ival p.1 = iOf (valS σ p.2) by simp only [asgS, this, h2], hv _ hn (fun i ix j he => by rw [he] at hn; cases hn)]; rfl
  · rw [show (asgS σ (l ++ ex)).bval p.1 = bOf (valS σ p.2) by simp only [asgS, this, h2], hv _ hn (fun i ix j he => by rw [he] at hn; cases hn)]; rfl
  · rw [show (asgS σ (l ++ ex)).sval p.1 = sOf (valS σ p.2) by simp only [asgS, this, h2], hv _ hn (fun i ix j he => by rw [he] at hn; cases hn)]; rfl
def idF : Nat → Nat → Bm
  | 0, _ => []
  | n + 1, i => (i, 0) :: idF n (i + 1)
def TT.skel (n : Nat) : Nat → Nat → Nat → TT
  | 0, _, _ => .e
  | k + 1, o, s => match Nat.blt o n with
    | true => .n (TT.skel n k (o + s) (2 * s)) none (TT.skel n k (o + 2 * s) (2 * s))
    | false => .e
theorem TT.get_skel (n : Nat) : ∀ (k o s i : Nat), (TT.skel n k o s).get i = none
  | 0, _, _, _ => rfl
  | k + 1, o, s, i => by
    simp only [TT.skel]
    split
    · cases i with
      | zero => rfl
      | succ i =>
        simp only [TT.get]
        split <;> exact TT.get_skel n k _ _ _
    · rfl
def putsT (t : TT) : List (Nat × AVal) → TT
  | [] => t
  | p :: l => putsT (t.put p.1 p.2) l
theorem putsT_get {i : Nat} {v : AVal} : ∀ (l : List (Nat × AVal)) (t : TT), (putsT t l).get i = some v → (i, v) ∈ l ∨ t.get i = some v
  | [], _, h => .inr h
  | p :: l, t, h => by
    rcases putsT_get l _ h with h | h
    · exact .inl (List.mem_cons_of_mem _ h)
    · rcases TT.get_put t p.1 i p.2 v h with ⟨rfl, rfl⟩ | ⟨_, h⟩
      · exact .inl (by simp)
      · exact .inr h
def tmOf (s : Shape) (n : Nat) : Tm := ⟨n, putsT (TT.skel n 12 0 1) s.t, []⟩
theorem tmOf_get {s : Shape} {n i : Nat} {v : AVal} (h : (tmOf s n).get i = some v) : (i, v) ∈ s.t := by
  rcases putsT_get _ _ (Tm.get_tr h) with h | h
  · exact h
  · rw [TT.get_skel] at h; cases h
def idAsg (m : Nat) : Asg → Bool
  | [] => true
  | p :: l => (match p.2 with
    | .symi _ j => Nat.beq p.1 j && Nat.blt j m
    | .symb j => Nat.beq p.1 j && Nat.blt j m
    | .syms j => Nat.beq p.1 j && Nat.blt j m
    | _ => false) && idAsg m l
def idOk (s : Shape) (m : Nat) : Bool :=
  match matchL (idF s.heap.length 0) (s.t.map (·.2)) (s.t.map (·.2)), matchH (idF s.heap.length 0) s.heap s.heap 0 with
  | some x, some y => idAsg m x && idAsg m y && noTwice (idF s.heap.length 0)
  | _, _ => false
theorem idF_length : ∀ (n i : Nat), (idF n i).length = n
  | 0, _ => rfl
  | n + 1, i => by simp [idF, idF_length n]
theorem idF_at : ∀ {n i b : Nat}, b < n → (idF n i)[b]? = some (i + b, 0)
  | 0, _, _, h => by omega
  | n + 1, i, 0, h => by simp [idF]
  | n + 1, i, b + 1, h => by
    have := idF_at (n := n) (i := i + 1) (b := b) (by omega)
    rw [show i + (b + 1) = i + 1 + b by omega]; simpa [idF] using this
theorem idAsg_fits {m : Nat} {σ τ : Sig} (h : Agree m σ τ) : ∀ {l : Asg}, idAsg m l = true → Fits σ τ l
  | [], _ => fun p hp => by cases hp
  | q :: l, hl => by
    simp only [idAsg, Bool.and_eq_true] at hl
    intro p hp
    rcases List.mem_cons.1 hp with rfl | hp
    · have h1 := hl.1
      split at h1
      all_goals first
        | cases h1
        | skip
      all_goals
        rename_i hx
        simp only [Bool.and_eq_true] at h1
        have e := Nat.eq_of_beq_eq_true h1.1
        have lt : p.1 < m := by rw [e]; simpa using h1.2
        have hv := h.val _ lt
        rw [hx, ← e]
        refine ⟨fun k n hn => ?_, fun b hn => ?_, fun s hn => ?_⟩ <;> simp only [den, AVal.int.injEq, AVal.bool.injEq, AVal.str.injEq, reduceCtorEq] at hn
        first
          | exact hv.1.symm.trans hn.2
          | exact hv.2.1.symm.trans hn
          | exact hv.2.2.symm.trans hn
    · exact idAsg_fits h hl.2 p hp
theorem matchL_mem {f : Bm} : ∀ (c d : List AVal) (l : Asg), matchL f c d = some l → c = d → ∀ a, a ∈ c → ∃ m, matchV f a a = some m ∧ ∀ p, p ∈ m → p ∈ l
  | [], _, _, _, _, a, ha => by cases ha
  | x :: c, d, l, h, he, a, ha => by
    subst he
    simp only [matchL] at h
    split at h
    · rename_i y z hy hz
      cases h
      rcases List.mem_cons.1 ha with rfl | ha
      · exact ⟨y, hy, fun p hp => by simp [hp]⟩
      · obtain ⟨m, h1, h2⟩ := matchL_mem c c z hz rfl a ha
        exact ⟨m, h1, fun p hp => by simp [h2 p hp]⟩
    · cases h
inductive Sv where
  | leaf (x : SEx) (s : Shape) (f : Bm) (l ex : Asg)
  | leafE (x : SEx) (s : Shape) (f : Bm) (l ex : Asg)
  | req (o : Ob) (v : Sv)
  | dead
  | node (i : Nat) (yes no : Sv)
  | pick (i : Nat) (n : Int) (yes no : Sv)
def noDf : List ADef → Bool
  | [] => true
  | _ => false
def okS : Tree (Ex × Tm × Hp) → Sv → Bool
  | .leaf y, .leaf x s f l _ => sameX x y.1 && (noDf y.2.1.df && (matchS f s y.2.1 y.2.2.heap l && consB l l))
  | .leaf y, .leafE x s f l _ => sameX x y.1 && (noDf y.2.1.df && (matchS f s y.2.1 y.2.2.heap l && consE l l))
  | _, .dead => true
  | .node i y n, .node j y' n' => Nat.beq i j && (okS y y' && okS n n')
  | .pick i k y n, .pick j k' y' n' => Nat.beq i j && (decide (k = k') && (okS y y' && okS n n'))
  | .req o t, .req o' v => eqOb o o' && okS t v
  | .or y n, v => okS y v && okS n v
  | _, _ => false
def segs (σ : Sig) (Q : SEx → Shape → Sig → Prop) : Sv → List Fact → Prop
  | .leaf x s _ l ex, F => Holds σ F → Q x s (asgS σ (l ++ ex))
  | .leafE x s _ l ex, F => Holds σ F → EqsL σ l l ∧ Q x s (asgS σ (l ++ ex))
  | .req o v, F => (Holds σ F → o.Sat σ) ∧ segs σ Q v F
  | .dead, F => ¬ Holds σ F
  | .node i y n, F => segs σ Q y (.tru i true :: F) ∧ segs σ Q n (.tru i false :: F)
  | .pick i k y n, F => segs σ Q y (.isn i k :: F) ∧ segs σ Q n (.non i k :: F)
theorem and_both {a b : Bool} (h : (a && b) = true) : a = true ∧ b = true := by rwa [Bool.and_eq_true] at h
def isPin (o : Option (Nat × Nat)) (i : Nat) : Bool :=
  match o with
  | some (x, sh) => Nat.beq x i && Nat.beq sh 0
  | none => false
theorem isPin_eq {o : Option (Nat × Nat)} {i : Nat} (h : isPin o i = true) : o = some (i, 0) := by
  unfold isPin at h
  split at h
  · rename_i x sh
    rw [Bool.and_eq_true] at h
    rw [Nat.eq_of_beq_eq_true h.1, Nat.eq_of_beq_eq_true h.2]
  · cases h
def leavesS (R : Bm → Prop) : Sv → Prop
  | .leaf _ _ f _ _ => R f
  | .leafE _ _ f _ _ => R f
  | .req _ v => leavesS R v
  | .dead => True
  | .node _ y n => leavesS R y ∧ leavesS R n
  | .pick _ _ y n => leavesS R y ∧ leavesS R n
def pinS (i : Nat) : Sv → Bool
  | .leaf _ _ f _ _ => isPin f[i]? i
  | .leafE _ _ f _ _ => isPin f[i]? i
  | .req _ v => pinS i v
  | .dead => true
  | .node _ y n => pinS i y && pinS i n
  | .pick _ _ y n => pinS i y && pinS i n
theorem leavesS_pin {pin : Nat → Prop} : ∀ {V : Sv}, (∀ i, pin i → pinS i V = true) → leavesS (fun f => ∀ i, pin i → f[i]? = some (i, 0)) V
  | .leaf _ _ f _ _, h => fun i hi => isPin_eq (h i hi)
  | .leafE _ _ f _ _, h => fun i hi => isPin_eq (h i hi)
  | .req _ v, h => leavesS_pin (V := v) fun i hi => h i hi
  | .dead, _ => trivial
  | .node _ y n, h => ⟨leavesS_pin fun i hi => (and_both (h i hi)).1, leavesS_pin fun i hi => (and_both (h i hi)).2⟩
  | .pick _ _ y n, h => ⟨leavesS_pin fun i hi => (and_both (h i hi)).1, leavesS_pin fun i hi => (and_both (h i hi)).2⟩
def EndS (σ : Sig) (R : Bm → Prop) (Q : SEx → Shape → Sig → Prop) (y : Ex × Tm × Hp) : Prop :=
  ∃ x s f l ex, sameX x y.1 = true ∧ y.2.1.df = [] ∧ matchS f s y.2.1 y.2.2.heap l = true ∧ Fits σ (asgS σ (l ++ ex)) l ∧ Q x s (asgS σ (l ++ ex)) ∧ R f
theorem okS_sat {σ : Sig} {R : Bm → Prop} {Q : SEx → Shape → Sig → Prop} : ∀ {T : Tree (Ex × Tm × Hp)} {V : Sv} {F : List Fact}, okS T V = true → leavesS R V ∧ segs σ Q V F → Holds σ F → Sat σ (EndS σ R Q) T
  | T, .dead, F, _, hv, hF => absurd hF hv.2
  | .leaf y, .leaf x s f l ex, F, h, hv, hF => by
    simp only [okS, Bool.and_eq_true] at h
    refine ⟨x, s, f, l, ex, h.1, ?_, h.2.2.1, fits_asg ex h.2.2.2, hv.2 hF, hv.1⟩
    have := h.2.1
    unfold noDf at this
    split at this
    · assumption
    · cases this
  | .leaf y, .leafE x s f l ex, F, h, hv, hF => by
    simp only [okS, Bool.and_eq_true] at h
    obtain ⟨hv1, hv2⟩ := hv.2 hF
    refine ⟨x, s, f, l, ex, h.1, ?_, h.2.2.1, fits_eqs ex h.2.2.2 hv1, hv2, hv.1⟩
    have := h.2.1
    unfold noDf at this
    split at this
    · assumption
    · cases this
  | .node i y n, .node j y' n', F, h, hv, hF => by
    simp only [okS, Bool.and_eq_true] at h
    have := Nat.eq_of_beq_eq_true h.1
    subst this
    exact ⟨fun e => okS_sat h.2.1 ⟨hv.1.1, hv.2.1⟩ (holds_cons (.tru _ _) e hF), fun e => okS_sat h.2.2 ⟨hv.1.2, hv.2.2⟩ (holds_cons (.tru _ _) e hF)⟩
  | .pick i k y n, .pick j k' y' n', F, h, hv, hF => by
    simp only [okS, Bool.and_eq_true, decide_eq_true_eq] at h
    have := Nat.eq_of_beq_eq_true h.1
    subst this
    obtain ⟨rfl, h1, h2⟩ := h.2
    exact ⟨fun e => okS_sat h1 ⟨hv.1.1, hv.2.1⟩ (holds_cons (.isn _ _) e hF), fun e => okS_sat h2 ⟨hv.1.2, hv.2.2⟩ (holds_cons (.non _ _) e hF)⟩
  | .req o t, .req o' v, F, h, hv, hF => by
    simp only [okS, Bool.and_eq_true] at h
    have := eqOb_eq _ _ h.1
    subst this
    exact ⟨hv.2.1 hF, okS_sat h.2 ⟨hv.1, hv.2.2⟩ hF⟩
  | .or y n, .leaf _ _ _ _ _, F, h, hv, hF => by
    simp only [okS, Bool.and_eq_true] at h
    exact ⟨okS_sat h.1 hv hF, okS_sat h.2 hv hF⟩
  | .or y n, .leafE _ _ _ _ _, F, h, hv, hF => by
    simp only [okS, Bool.and_eq_true] at h
    exact ⟨okS_sat h.1 hv hF, okS_sat h.2 hv hF⟩
  | .or y n, .node i a b, F, h, hv, hF => by
    simp only [okS, Bool.and_eq_true] at h
    exact ⟨okS_sat h.1 hv hF, okS_sat h.2 hv hF⟩
  | .or y n, .pick i k a b, F, h, hv, hF => by
    simp only [okS, Bool.and_eq_true] at h
    exact ⟨okS_sat h.1 hv hF, okS_sat h.2 hv hF⟩
  | .or y n, .req o v, F, h, hv, hF => by
    simp only [okS, Bool.and_eq_true] at h
    exact ⟨okS_sat h.1 hv hF, okS_sat h.2 hv hF⟩
  | .leaf _, .node _ _ _, _, h, _, _ => by simp [okS] at h
  | .leaf _, .pick _ _ _ _, _, h, _, _ => by simp [okS] at h
  | .leaf _, .req _ _, _, h, _, _ => by simp [okS] at h
  | .node _ _ _, .leaf _ _ _ _ _, _, h, _, _ => by simp [okS] at h
  | .node _ _ _, .leafE _ _ _ _ _, _, h, _, _ => by simp [okS] at h
  | .node _ _ _, .pick _ _ _ _, _, h, _, _ => by simp [okS] at h
  | .node _ _ _, .req _ _, _, h, _, _ => by simp [okS] at h
  | .pick _ _ _ _, .leaf _ _ _ _ _, _, h, _, _ => by simp [okS] at h
  | .pick _ _ _ _, .leafE _ _ _ _ _, _, h, _, _ => by simp [okS] at h
  | .pick _ _ _ _, .node _ _ _, _, h, _, _ => by simp [okS] at h
  | .pick _ _ _ _, .req _ _, _, h, _, _ => by simp [okS] at h
  | .req _ _, .leaf _ _ _ _ _, _, h, _, _ => by simp [okS] at h
  | .req _ _, .leafE _ _ _ _ _, _, h, _, _ => by simp [okS] at h
  | .req _ _, .node _ _ _, _, h, _, _ => by simp [okS] at h
  | .req _ _, .pick _ _ _ _, _, h, _, _ => by simp [okS] at h
  | .dead, .leaf _ _ _ _ _, _, h, _, _ => by simp [okS] at h
  | .dead, .leafE _ _ _ _ _, _, h, _, _ => by simp [okS] at h
  | .dead, .node _ _ _, _, h, _, _ => by simp [okS] at h
  | .dead, .pick _ _ _ _, _, h, _, _ => by simp [okS] at h
  | .dead, .req _ _, _, h, _, _ => by simp [okS] at h
inductive Sw where
  | run (v : Sv)
  | dead
  | node (i : Nat) (yes no : Sw)
  | pick (i : Nat) (n : Int) (yes no : Sw)
def okSw (run : List Fact → Tree (Ex × Tm × Hp)) : Sw → List Fact → Bool
  | .run v, F => okS (run F) v
  | .dead, _ => true
  | .node i y n, F => okSw run y (.tru i true :: F) && okSw run n (.tru i false :: F)
  | .pick i k y n, F => okSw run y (.isn i k :: F) && okSw run n (.non i k :: F)
def segsW (σ : Sig) (Q : SEx → Shape → Sig → Prop) : Sw → List Fact → Prop
  | .run v, F => segs σ Q v F
  | .dead, F => ¬ Holds σ F
  | .node i y n, F => segsW σ Q y (.tru i true :: F) ∧ segsW σ Q n (.tru i false :: F)
  | .pick i k y n, F => segsW σ Q y (.isn i k :: F) ∧ segsW σ Q n (.non i k :: F)
def leavesW (R : Bm → Prop) : Sw → Prop
  | .run v => leavesS R v
  | .dead => True
  | .node _ y n => leavesW R y ∧ leavesW R n
  | .pick _ _ y n => leavesW R y ∧ leavesW R n
def pinW (i : Nat) : Sw → Bool
  | .run v => pinS i v
  | .dead => true
  | .node _ y n => pinW i y && pinW i n
  | .pick _ _ y n => pinW i y && pinW i n
theorem leavesW_pin {pin : Nat → Prop} : ∀ {V : Sw}, (∀ i, pin i → pinW i V = true) → leavesW (fun f => ∀ i, pin i → f[i]? = some (i, 0)) V
  | .run v, h => leavesS_pin (V := v) fun i hi => h i hi
  | .dead, _ => trivial
  | .node _ y n, h => ⟨leavesW_pin fun i hi => (and_both (h i hi)).1, leavesW_pin fun i hi => (and_both (h i hi)).2⟩
  | .pick _ _ y n, h => ⟨leavesW_pin fun i hi => (and_both (h i hi)).1, leavesW_pin fun i hi => (and_both (h i hi)).2⟩
theorem okSw_sat {σ : Sig} {R : Bm → Prop} {Q : SEx → Shape → Sig → Prop} {run : List Fact → Tree (Ex × Tm × Hp)} : ∀ {W : Sw} {F : List Fact}, okSw run W F = true → leavesW R W ∧ segsW σ Q W F → Holds σ F → ∃ F', Holds σ F' ∧ Sat σ (EndS σ R Q) (run F')
  | .run v, F, h, hv, hF => ⟨F, hF, okS_sat h hv hF⟩
  | .dead, _, _, hv, hF => absurd hF hv.2
  | .node i y n, F, h, hv, hF => by
    simp only [okSw, Bool.and_eq_true] at h
    cases hb : σ.bval i with
    | true => exact okSw_sat h.1 ⟨hv.1.1, hv.2.1⟩ (holds_cons (.tru i true) hb hF)
    | false => exact okSw_sat h.2 ⟨hv.1.2, hv.2.2⟩ (holds_cons (.tru i false) hb hF)
  | .pick i k y n, F, h, hv, hF => by
    simp only [okSw, Bool.and_eq_true] at h
    rcases Classical.em (σ.ival i = k) with hb | hb
    · exact okSw_sat h.1 ⟨hv.1.1, hv.2.1⟩ (holds_cons (.isn i k) hb hF)
    · exact okSw_sat h.2 ⟨hv.1.2, hv.2.2⟩ (holds_cons (.non i k) hb hF)
def chainK (P : Program) : List Code → (Act → World → Prop) → (Exit → Act → World → Prop) → Act → World → Prop
  | [], K, _ => K
  | x :: l, K, Q => fun a w => x.wpIn (FR none) 0 P (Exit.then (chainK P l K Q) Q) a w
theorem then_self {Q : Exit → Act → World → Prop} : Exit.then (Q .normal) Q = Q := by
  funext e a w; cases e <;> rfl
theorem chainK_append {P : Program} {Q : Exit → Act → World → Prop} : ∀ (l m : List Code) (K : Act → World → Prop), chainK P (l ++ m) K Q = chainK P l (chainK P m K Q) Q
  | [], _, _ => rfl
  | x :: l, m, K => by
    funext a w
    simp only [List.cons_append, chainK, chainK_append l m K]
def cutC : Code → Option (List Code × (Nat × Code) × List Code)
  | .seq x y => match cutC x with
    | some (pre, lp, post) => some (pre, lp, post ++ [y])
    | none => match cutC y with
      | some (pre, lp, post) => some (x :: pre, lp, post)
      | none => none
  | .block id c => match c with
    | .loop b => some ([], (id, b), [])
    | _ => none
  | _ => none
def loopOf (c : Code) : Code :=
  match cutC c with
  | some (_, (_, b), _) => b
  | none => .skip
def idOf (c : Code) : Nat :=
  match cutC c with
  | some (_, (i, _), _) => i
  | none => 0
def bodyOf (f : Func) : Code :=
  match f.body with
  | some c => c
  | none => .skip
def runL (P : Program) (C : CxF) (mb : Bool) (fuel : Nat) (call : CallF) (round : RoundF) : List Code → List Fact → Tm → Hp → Tree (Ex × Tm × Hp)
  | [], _, t, hp => .leaf (.normal, t, hp)
  | c :: l, F, t, hp => bindT F (codeT P C mb fuel call round false c F t hp) fun F' x => match x with
    | (.normal, t', hp') => runL P C mb fuel call round l F' t' hp'
    | x => .leaf x
theorem runL_sound {P : Program} {C : CxF} {mb : Bool} {fuel : Nat} {call : CallF} {round : RoundF} (E : Env P C call round) : ∀ (l : List Code) (F : List Fact) (t : Tm) (hp : Hp) (Q : Ex × Tm × Hp → Prop) (g : Inj) (w : World) (a : Act),
    HRel (C F) g hp.heap w → FRel g t a → Sat g.sig Q (runL P C mb fuel call round l F t hp) → ∀ (K : Act → World → Prop) (Z : Exit → Act → World → Prop), (∀ e a' w' x, Q x → CodeQ (C F) hp g w a x e a' w' → Exit.then K Z e a' w') → chainK P l K Z a w
  | [], F, t, hp, Q, g, w, a, hH, ht, hs, K, Z, hq => hq .normal a w _ hs ⟨Touch.refl _, g, trivial, hH, Ext.refl _ _ _, ht, rfl⟩
  | c :: l, F, t, hp, Q, g, w, a, hH, ht, hs, K, Z, hq => by
    simp only [runL] at hs
    have hs := sat_bind (E.ok.facts hH) hs
    simp only [chainK]
    refine wpIn_mono ((codeT_sound (mb := mb) (fuel := fuel) E c false).wp F t hp _ none g w a (fun _ => rfl) hH ht hs) ?_
    rintro e a' w' ⟨⟨x, t', hp'⟩, ⟨F', hF', q⟩, h0, g', h1, h2, h3, h4, h5⟩
    have hF0 : Holds g'.sig F := by rw [h3.sub.sig]; exact E.ok.facts hH
    have other : e ≠ .normal → Sat g.sig Q (.leaf (x, t', hp')) → Exit.then (chainK P l K Z) Z e a' w' := by
      intro hne q
      have := hq e a' w' _ q ⟨h0, g', h1, h2, h3, h4, h5⟩
      cases e with
      | normal => exact absurd rfl hne
      | _ => exact this
    cases x with
    | normal =>
      cases e <;> simp only [ExRel] at h1
      refine runL_sound E l F' t' hp' Q g' w' a' (E.ok.move h2 (by rw [h3.sub.sig]; exact hF')) h4 (by rw [h3.sub.sig]; exact q) K Z ?_
      intro e2 a2 w2 x2 hx2 hc
      refine hq e2 a2 w2 x2 hx2 ?_
      exact CodeQ.trans hH h0 h3 h5 (hc.move E.ok hF0)
    | exit i => exact other (by intro he; subst he; exact h1.elim) q
    | ret => exact other (by intro he; subst he; exact h1.elim) q
    | pan v => exact other (by intro he; subst he; exact h1.elim) q
theorem segL {P : Program} {X : Ing} {mb : Bool} {fuel d n : Nat} {c : List Code} {s : Shape} {W : Sw} {Q0 : SEx → Shape → Sig → Prop} (hm : P.follows .mixedOrders = true) (hT : okLT X.m X.G X.T = true) (hG : okG X.G X.m = true) (hh : ∀ F, Hooks P (cxOf X F)) (h0n : X.n = 0) (hid : idOk s X.m = true)
    (h : okSw (fun F => runL P (cxOf X) mb fuel (evD P (cxOf X) mb fuel d).1 (evD P (cxOf X) mb fuel d).2 c F (tmOf s n) ⟨s.heap, []⟩) W [] = true)
    {σ : Sig} {w0 : Fra} {a : Act} {w : World} (hA : At X.tab s n σ w0 a w) (hi : InsOk σ X.m X.ins) (hob : segsW (solve X.G X.m σ) Q0 W []) {K : Act → World → Prop} {Z : Exit → Act → World → Prop}
    (hk : ∀ e a' w' x s2 σ2, SExRel x e → Q0 x s2 σ2 → At X.tab s2 n σ2 w0 a' w' → Exit.then K Z e a' w') (hr : RowsOk (solve X.G X.m σ) X.rows) (hcut : CutsOk (solve X.G X.m σ) X.cuts) (hinv : X.inv (solve X.G X.m σ) := by exact True.intro) (hkt : okKt X = true := by exact rfl) (hpin : ∀ i, w0.pin i ≠ none → pinW i W = true := by exact fun _ h => absurd rfl h) : chainK P c K Z a w := by
  obtain ⟨g, rfl, hH, hTm, hB, hP⟩ := hA.ex
  have ag := agree_solve X.G X.m g.sig
  have htab : (solve X.G X.m g.sig).tab = X.tab := by rw [← ag.tab]; exact hH.sig.tab
  have hb : BaseOk X (solve X.G X.m g.sig) := ⟨eqs_solve hG, htab, fun i k hlt hik => by rw [← (ag.val i hlt).1]; exact hi i k hlt hik, hr, hcut, hinv, hkt⟩
  obtain ⟨F, hF, hsat⟩ := okSw_sat h ⟨leavesW_pin hpin, hob⟩ trivial
  have hgood : (cxOf X F).Good (solve X.G X.m g.sig) := cx_good hT hb hF
  have hid' := hid
  unfold idOk at hid'
  split at hid'
  · rename_i lx ly hlx hly
    simp only [Bool.and_eq_true] at hid'
    obtain ⟨⟨i1, i2⟩, i3⟩ := hid'
    have hH1 : HRel (cxOf X F) (moved (idF s.heap.length 0) g (solve X.G X.m g.sig)) s.heap w := rematch hH h0n hgood (idF_length _ _) i3 hly (idAsg_fits ag i2) ag.ext.symm
    have hT1 : FRel (moved (idF s.heap.length 0) g (solve X.G X.m g.sig)) (tmOf s n) a := by
      refine ⟨⟨by simp only [tmOf, hA.size]; exact Nat.le_refl _, ?_⟩, by rw [hA.defers]; exact .nil⟩
      intro i v hv
      have hmem := tmOf_get hv
      obtain ⟨u, h1, h2⟩ := hTm _ hmem
      obtain ⟨mm, q1, q2⟩ := matchL_mem _ _ lx hlx rfl v (List.mem_map.2 ⟨_, hmem, rfl⟩)
      exact ⟨u, h1, matchV_sound (moved_moves _ g _ ag.ext.symm) v v mm u q1 (fun p hp => idAsg_fits ag i1 p (q2 p hp)) h2⟩
    have hB1 : ∀ i L, moved (idF s.heap.length 0) g (solve X.G X.m g.sig) i = some L → w0.own L.blk := by
      intro i L hi
      obtain ⟨y, sh, L', _, h2, rfl⟩ := moved_from hi
      exact hB y L' h2
    refine runL_sound (evD_env (mb := mb) (fuel := fuel) hm (cx_ok hT) hh d) c F (tmOf s n) ⟨s.heap, []⟩ _ _ w a hH1 hT1 hsat K Z ?_
    rintro e a' w' ⟨e0, t, st⟩ ⟨x, s2, f, l, ex, hx, hdf, hmt, hft, hQ, hR⟩ ⟨_, g', r1, r2, r3, r4, r5⟩
    obtain ⟨y1, y2, m1, m2, rfl, m4, m5⟩ := matchS_spec hmt
    have hsig : g'.sig = solve X.G X.m g.sig := r3.sub.sig
    have hfit : Fits g'.sig (asgS (solve X.G X.m g.sig) (y1 ++ y2 ++ ex)) (y1 ++ y2) := by rw [hsig]; exact hft
    have hsz : w0.w.heap.size ≤ w.heap.size := hA.below.size
    have hB' : ∀ i L, g' i = some L → w0.own L.blk := by
      intro i L hi
      cases hg : moved (idF s.heap.length 0) g (solve X.G X.m g.sig) i with
      | some M =>
        have := r3.sub i M hg
        rw [this] at hi; cases hi
        exact hB1 i _ hg
      | none =>
        obtain ⟨_, hb⟩ := r3.new i L hi hg
        rcases hb with hb | ⟨j, M, hj, hM, _⟩
        · exact w0.new _ (by omega)
        · rw [← hM]; exact hB1 j M hj
    refine hk e a' w' x s2 _ (sameX_rel hx r1) hQ ⟨⟨moved f g' (asgS (solve X.G X.m g.sig) (y1 ++ y2 ++ ex)), rfl, rematch r2 rfl (cx0_good htab) m4 m5 m2 hfit.right (by rw [hsig]; rfl), ?_, ?_, ?_⟩, ?_, r5.trans hA.size, ?_⟩
    · intro p hp
      obtain ⟨b, mm, q1, q2, q3⟩ := matchT_get _ _ m1 p hp
      obtain ⟨u, h1, h2⟩ := r4.1.2 p.1 b q1
      exact ⟨u, h1, matchV_sound (moved_moves f g' _ (by rw [hsig]; rfl)) p.2 b mm u q2 (fun z hz => hfit z (by simp [q3 z hz])) h2⟩
    · intro i L hi
      obtain ⟨y, sh, L', _, h2, rfl⟩ := moved_from hi
      exact hB' y L' h2
    · intro i x hi
      have hf := hR i (by rw [hi]; simp)
      obtain ⟨hlt, h0⟩ := hP i x hi
      refine ⟨by rw [← m4]; exact (List.getElem?_eq_some_iff.1 hf).1, ?_⟩
      have hid0 : (idF s.heap.length 0)[i]? = some (i, 0) := by simpa using idF_at (i := 0) hlt
      have e1 : moved (idF s.heap.length 0) g (solve X.G X.m g.sig) i = x := by
        simp only [moved, hid0, h0]
        cases x <;> simp [shift]
      have e2 : g' i = x := by
        cases hx : g' i with
        | some L =>
          cases hg : moved (idF s.heap.length 0) g (solve X.G X.m g.sig) i with
          | some M => rw [r3.sub i M hg] at hx; rw [← e1, hg, hx]
          | none => exact absurd (r3.new i L hx hg).1 (by show ¬ s.heap.length ≤ i; omega)
        | none =>
          cases x with
          | none => rfl
          | some L => rw [r3.sub i L e1] at hx; cases hx
      simp only [moved, hf, e2]
      cases x <;> simp [shift]
    · have hb := hA.below
      refine ⟨r3.os.trans hb.os, r3.tape.trans hb.tape, r3.output.trans hb.output, Nat.le_trans hb.size r3.size, fun k hk hno => (r3.frame k (by omega) ?_).trans (hb.frame k hk hno)⟩
      intro i L hi _ he
      exact hno (he ▸ hB1 i L hi)
    · have := r4.2
      rw [show t.df = [] from hdf] at this
      generalize a'.defers = ds at this
      cases this
      rfl
  · cases hid'
theorem loop_at {P : Program} {c : Code} {Inv : Nat → Act → World → Prop} {Q : Exit → Act → World → Prop}
    (hstep : ∀ k a w, Inv k a w → c.wpIn (FR none) 0 P (fun e a' w' => (e = .normal ∧ ∃ k', k' < k ∧ Inv k' a' w') ∨ (e ≠ .normal ∧ Q e a' w')) a w) (k : Nat) (a : Act) (w : World) (h : Inv k a w) : (Code.loop c).wpIn (FR none) 0 P Q a w := by
  have key : ∀ (n k : Nat) (a : Act) (w : World), k < n → Inv k a w → Code.roundsIn (FR none) 0 P c Q n a w := by
    intro n
    induction n with
    | zero => intro k a w hk _; omega
    | succ n ih =>
      intro k a w hk hI
      rw [roundsIn_succ]
      refine wpIn_mono (hstep k a w hI) fun e a' w' he => ?_
      rcases he with ⟨rfl, k', hk', hI'⟩ | ⟨hne, hq⟩
      · exact ih k' a' w' (by omega) hI'
      · cases e with
        | normal => exact absurd rfl hne
        | _ => exact hq
  exact wpIn_loop_rounds (k + 1) (key (k + 1) k a w (Nat.lt_succ_self k) h)
theorem calls_body {P : Program} {f : FuncId} {fn : Func} {args : Array Value} {w : World} {R : Ending → World → Prop} (hf : P.funcs[f]? = some fn) (hb : fn.body = some (bodyOf fn))
    (h : (bodyOf fn).wpIn (FR none) 0 P (bodyPost P fn R) { tmps := args ++ Array.replicate (fn.ntmps - args.size) undef, defers := [] } w) : Calls P f args w R :=
  calls_FR (r := none) (n := 0) (callsIn_of_wp hf hb trivial h)
def argT : Nat → List AVal → List (Nat × AVal)
  | _, [] => []
  | i, a :: l => (i, a) :: argT (i + 1) l
theorem argT_get : ∀ (l : List AVal) (i : Nat) (p : Nat × AVal), p ∈ argT i l → ∃ j, p.1 = i + j ∧ l[j]? = some p.2
  | [], _, p, h => by cases h
  | a :: l, i, p, h => by
    simp only [argT, List.mem_cons] at h
    rcases h with rfl | h
    · exact ⟨0, rfl, rfl⟩
    · obtain ⟨j, h1, h2⟩ := argT_get l (i + 1) p h
      exact ⟨j + 1, by omega, by simpa using h2⟩
theorem at_start {tab : TabF} {args : List AVal} {args' : Array Value} {σ : Sig} (ht : σ.tab = tab) (ha : LRel ⟨fun _ => none, σ, fun _ => none⟩ args args'.toList) {n : Nat} (hn : args'.size ≤ n) (w : World) (hz : ∀ i X, σ.ext i = some X → 0 < X.len → FzOk X w := by exact fun _ _ h => by cases h) :
    At tab ⟨argT 0 args, []⟩ n σ w { tmps := args' ++ Array.replicate (n - args'.size) undef, defers := [] } w := by
  refine ⟨⟨⟨fun _ => none, σ, fun _ => none⟩, rfl, ⟨fun i L hi => by simp at hi, fun i j L M hi => by simp at hi, fun i k hi => by simp at hi, fun i hi => absurd hi (Nat.not_lt_zero i), cx0_good ht, ⟨fun i X hi hl => ⟨hz i X hi hl, fun j L hj => by simp at hj⟩, fun i X hi => by cases hi⟩⟩, ?_, (fun i L hi => by simp at hi), fun i L hi => by cases hi⟩, BelowF.refl (Fra.of w), by simp; omega, rfl⟩
  intro p hp
  obtain ⟨j, h1, h2⟩ := argT_get _ _ _ hp
  obtain ⟨u, k1, k2⟩ := ha.get j p.2 h2
  refine ⟨u, ?_, k2⟩
  have hlt : j < args'.size := by
    have := (List.getElem?_eq_some_iff.1 k1).1
    simpa using this
  rw [h1, Nat.zero_add, Array.getElem?_append_left hlt]
  simpa using k1
end Go.Ev
namespace Go.Ev
theorem eqB {σ : Sig} {d : SDef} {i : Nat} {x : Bool} (h : evalS σ d = some (.bool (σ.bval i))) (h' : evalS σ d = some (.bool x)) : σ.bval i = x := by
  rw [h] at h'; simpa using h'
theorem eqI {σ : Sig} {d : SDef} {k : IntKind} {i : Nat} {x : Int} (h : evalS σ d = some (.int k (σ.ival i))) (h' : evalS σ d = some (.int k x)) : σ.ival i = x := by
  rw [h] at h'; simpa using h'
theorem eqIteI {σ : Sig} {c a b : AVal} {k : IntKind} {i : Nat} {x : Bool} {p q : Int} (h : evalS σ (.ite c a b) = some (.int k (σ.ival i))) (hc : den σ c = .bool x) (ha : den σ a = .int k p) (hb : den σ b = .int k q) : σ.ival i = bif x then p else q := by
  simp only [evalS, hc, ha, hb] at h
  cases x <;> simpa using h.symm
theorem eqIteB {σ : Sig} {c a b : AVal} {i : Nat} {x p q : Bool} (h : evalS σ (.ite c a b) = some (.bool (σ.bval i))) (hc : den σ c = .bool x) (ha : den σ a = .bool p) (hb : den σ b = .bool q) : σ.bval i = bif x then p else q := by
  simp only [evalS, hc, ha, hb] at h
  cases x <;> simpa using h.symm
end Go.Ev
