/- Two ways that come to one: values, temporaries, memory. -/
import Derived.Test.YtlhaklmnjdgjgacGreatEwO
namespace Go.Ev

/-! ### Alike, as they stand -/

mutual
def eqV : AVal → AVal → Bool
  | .bool a, .bool b => a == b
  | .int k a, .int k' b => decide (k = k') && a == b
  | .float k a, .float k' b => decide (k = k') && Nat.beq a b
  | .str a, .str b => a.toList == b.toList
  | .nilptr, .nilptr => true
  | .ptr b o, .ptr b' o' => Nat.beq b b' && Nat.beq o o'
  | .nilslice, .nilslice => true
  | .slice b o l c e, .slice b' o' l' c' e' => Nat.beq b b' && (Nat.beq o o' && (Nat.beq l l' && (Nat.beq c c' && decide (e = e'))))
  | .nilmap, .nilmap => true
  | .map b, .map b' => Nat.beq b b'
  | .nilfunc, .nilfunc => true
  | .func f x y, .func f' x' y' => decide (f = f') && (eqVs x x' && eqVs y y')
  | .niliface, .niliface => true
  | .iface t v, .iface t' v' => Nat.beq t t' && eqV v v'
  | .agg l, .agg m => eqVs l m
  | .tuple l, .tuple m => eqVs l m
  | .symi k i, .symi k' j => decide (k = k') && Nat.beq i j
  | .symb i, .symb j => Nat.beq i j
  | .syms i, .syms j => Nat.beq i j
  | .row i, .row j => Nat.beq i j
  | .rptr i x j, .rptr i' x' j' => Nat.beq i i' && (Nat.beq j j' && eqV x x')
  | .yield b, .yield b' => Nat.beq b b'
  | _, _ => false
def eqVs : List AVal → List AVal → Bool
  | [], [] => true
  | a :: l, b :: m => eqV a b && eqVs l m
  | _, _ => false
end

mutual
theorem eqV_eq : ∀ (a b : AVal), eqV a b = true → a = b
  | a, b, h => by
    unfold eqV at h
    split at h <;> first
      | rfl
      | (cases h; done)
      | (rename_i x y; have := eq_of_beq h; subst this; rfl)
      | (simp only [Bool.and_eq_true, decide_eq_true_eq, Nat.beq_eq, beq_iff_eq] at h; obtain ⟨h1, h2⟩ := h; subst h1; subst h2; rfl)
      | (rename_i x y; rw [toList_inj (eq_of_beq h)])
      | (rename_i x y; rw [Nat.eq_of_beq_eq_true h])
      | (rename_i x y; rw [eqVs_eq _ _ h])
      | (simp only [Bool.and_eq_true, decide_eq_true_eq, Nat.beq_eq] at h; obtain ⟨h1, h2, h3, h4, h5⟩ := h; subst h1; subst h2; subst h3; subst h4; subst h5; rfl)
      | (simp only [Bool.and_eq_true, decide_eq_true_eq] at h; obtain ⟨h1, h2, h3⟩ := h; rw [h1, eqVs_eq _ _ h2, eqVs_eq _ _ h3])
      | (simp only [Bool.and_eq_true] at h; obtain ⟨h1, h2⟩ := h; rw [Nat.eq_of_beq_eq_true h1, eqV_eq _ _ h2])
      | (simp only [Bool.and_eq_true] at h; obtain ⟨h1, h2, h3⟩ := h; rw [Nat.eq_of_beq_eq_true h1, Nat.eq_of_beq_eq_true h2, eqV_eq _ _ h3])
theorem eqVs_eq : ∀ (l m : List AVal), eqVs l m = true → l = m
  | [], [], _ => rfl
  | a :: l, b :: m, h => by
    simp only [eqVs, Bool.and_eq_true] at h
    rw [eqV_eq a b h.1, eqVs_eq l m h.2]
  | [], _ :: _, h => by simp [eqVs] at h
  | _ :: _, [], h => by simp [eqVs] at h
end

/-! ### Of which sort a number, truth, text is -/

inductive SK where
  | i (k : IntKind)
  | b
  | s

def skOf : AVal → Option SK
  | .int k _ => some (.i k)
  | .symi k _ => some (.i k)
  | .bool _ => some .b
  | .symb _ => some .b
  | .str _ => some .s
  | .syms _ => some .s
  | _ => none

def sameK (a b : AVal) : Bool :=
  match skOf a with
  | some (.i k) => match skOf b with
    | some (.i k') => decide (k = k')
    | _ => false
  | some .b => match skOf b with
    | some .b => true
    | _ => false
  | some .s => match skOf b with
    | some .s => true
    | _ => false
  | none => false

theorem sk_i {a : AVal} {k : IntKind} (h : skOf a = some (.i k)) (σ : Sig) : (∃ n, den σ a = .int k n) ∧ ∀ i, likeS a i = .symi k i := by
  cases a <;> simp only [skOf, Option.some.injEq, SK.i.injEq, reduceCtorEq] at h
  · subst h; exact ⟨⟨_, rfl⟩, fun _ => rfl⟩
  · subst h; exact ⟨⟨_, rfl⟩, fun _ => rfl⟩
theorem sk_b {a : AVal} (h : skOf a = some .b) (σ : Sig) : (∃ n, den σ a = .bool n) ∧ ∀ i, likeS a i = .symb i := by
  cases a <;> simp only [skOf, Option.some.injEq, reduceCtorEq] at h
  · exact ⟨⟨_, rfl⟩, fun _ => rfl⟩
  · exact ⟨⟨_, rfl⟩, fun _ => rfl⟩
theorem sk_s {a : AVal} (h : skOf a = some .s) (σ : Sig) : (∃ n, den σ a = .str n) ∧ ∀ i, likeS a i = .syms i := by
  cases a <;> simp only [skOf, Option.some.injEq, reduceCtorEq] at h
  · exact ⟨⟨_, rfl⟩, fun _ => rfl⟩
  · exact ⟨⟨_, rfl⟩, fun _ => rfl⟩

/-! ### Values -/

/-- one of two, by a truth -/
def mgS (ng : Cx) (i : Nat) (a b : AVal) : Option AVal :=
  match a, b with
  | .bool true, .bool false => some (.symb i)
  | .bool false, .bool true => symS ng (.un .not (.symb i))
  | a, b => match sameK a b with
    | true => symS ng (.ite (.symb i) a b)
    | false => none

mutual
def mgV (ng : Cx) (i : Nat) : AVal → AVal → Option AVal
  | .agg l, .agg m => match mgL ng i l m with
    | some r => some (.agg r)
    | none => none
  | .tuple l, .tuple m => match mgL ng i l m with
    | some r => some (.tuple r)
    | none => none
  | .iface t v, .iface t' v' => match Nat.beq t t' with
    | true => match mgV ng i v v' with
      | some r => some (.iface t r)
      | none => none
    | false => none
  | a, b => match eqV a b with
    | true => some a
    | false => mgS ng i a b
def mgL (ng : Cx) (i : Nat) : List AVal → List AVal → Option (List AVal)
  | [], [] => some []
  | a :: l, b :: m => match mgV ng i a b, mgL ng i l m with
    | some r, some s => some (r :: s)
    | _, _ => none
  | _, _ => none
end

/-- What stands for the first where the truth is so, and for the second where it is not. -/
def Mg (i : Nat) (a b r : AVal) : Prop := ∀ (g : Inj) (v : Value), (g.sig.bval i = true → VRel g a v → VRel g r v) ∧ (g.sig.bval i = false → VRel g b v → VRel g r v)

theorem mgS_sound {ng : Cx} {i : Nat} {a b r : AVal} (h : mgS ng i a b = some r) (g : Inj) (hg : ng.Good g.sig) (v : Value) : (g.sig.bval i = true → VRel g a v → VRel g r v) ∧ (g.sig.bval i = false → VRel g b v → VRel g r v) := by
  unfold mgS at h
  split at h
  · cases h
    refine ⟨fun e hv => ?_, fun e hv => ?_⟩ <;> (cases hv; rw [← e]; exact .symb i)
  · obtain ⟨q, h1, h2⟩ := symS_sound hg h
    simp only [evalS, den, unA, Option.some.injEq] at h1
    subst h1
    refine ⟨fun e hv => ?_, fun e hv => ?_⟩ <;> (cases hv; refine h2 _ ?_; rw [e]; exact .bool _)
  · split at h
    · rename_i hk
      obtain ⟨q, h1, h2⟩ := symS_sound hg h
      simp only [evalS, den] at h1
      cases h1
      refine ⟨fun e hv => h2 _ ?_, fun e hv => h2 _ ?_⟩
      · rw [e]; exact den_rel.2 hv
      · rw [e]; exact den_rel.2 hv
    · cases h

mutual
theorem mgV_sound {ng : Cx} {i : Nat} : ∀ (a b r : AVal), mgV ng i a b = some r → ∀ (g : Inj), ng.Good g.sig → ∀ (v : Value), (g.sig.bval i = true → VRel g a v → VRel g r v) ∧ (g.sig.bval i = false → VRel g b v → VRel g r v)
  | a, b, r, h, g, hg, v => by
    unfold mgV at h
    split at h
    · rename_i l m
      split at h
      · rename_i s hs
        cases h
        exact ⟨fun e hv => by cases hv with | agg _ l' h1 => exact .agg _ l' ((mgL_sound l m s hs g hg l'.toList).1 e h1),
          fun e hv => by cases hv with | agg _ l' h1 => exact .agg _ l' ((mgL_sound l m s hs g hg l'.toList).2 e h1)⟩
      · cases h
    · rename_i l m
      split at h
      · rename_i s hs
        cases h
        exact ⟨fun e hv => by cases hv with | tuple _ l' h1 => exact .tuple _ l' ((mgL_sound l m s hs g hg l'.toList).1 e h1),
          fun e hv => by cases hv with | tuple _ l' h1 => exact .tuple _ l' ((mgL_sound l m s hs g hg l'.toList).2 e h1)⟩
      · cases h
    · rename_i t v1 t' v2
      split at h
      · rename_i ht
        have ht := Nat.eq_of_beq_eq_true ht
        subst ht
        split at h
        · rename_i s hs
          cases h
          exact ⟨fun e hv => by cases hv with | iface _ _ u h1 => exact .iface t s u ((mgV_sound v1 v2 s hs g hg u).1 e h1),
            fun e hv => by cases hv with | iface _ _ u h1 => exact .iface t s u ((mgV_sound v1 v2 s hs g hg u).2 e h1)⟩
        · cases h
      · cases h
    · split at h
      · rename_i he
        cases h
        have := eqV_eq _ _ he
        exact ⟨fun _ hv => hv, fun _ hv => by rw [this]; exact hv⟩
      · exact mgS_sound h g hg v
theorem mgL_sound {ng : Cx} {i : Nat} : ∀ (l m r : List AVal), mgL ng i l m = some r → ∀ (g : Inj), ng.Good g.sig → ∀ (v : List Value), (g.sig.bval i = true → LRel g l v → LRel g r v) ∧ (g.sig.bval i = false → LRel g m v → LRel g r v)
  | [], [], r, h, g, hg, v => by simp only [mgL] at h; cases h; exact ⟨fun _ h => h, fun _ h => h⟩
  | a :: l, b :: m, r, h, g, hg, v => by
    simp only [mgL] at h
    split at h
    · rename_i x y hx hy
      cases h
      exact ⟨fun e hv => by cases hv with | cons _ u _ w h1 h2 => exact .cons _ u _ w ((mgV_sound a b x hx g hg u).1 e h1) ((mgL_sound l m y hy g hg w).1 e h2),
        fun e hv => by cases hv with | cons _ u _ w h1 h2 => exact .cons _ u _ w ((mgV_sound a b x hx g hg u).2 e h1) ((mgL_sound l m y hy g hg w).2 e h2)⟩
    · cases h
  | [], _ :: _, r, h, _, _, _ => by simp [mgL] at h
  | _ :: _, [], r, h, _, _, _ => by simp [mgL] at h
end

theorem mgL_length {ng : Cx} {i : Nat} : ∀ {l m r : List AVal}, mgL ng i l m = some r → r.length = l.length ∧ r.length = m.length
  | [], [], r, h => by simp only [mgL] at h; cases h; simp
  | a :: l, b :: m, r, h => by
    simp only [mgL] at h
    split at h
    · rename_i x y hx hy
      cases h
      have := mgL_length hy
      simp; omega
    · cases h
  | [], _ :: _, r, h => by simp [mgL] at h
  | _ :: _, [], r, h => by simp [mgL] at h

theorem mgL_get {ng : Cx} {i : Nat} : ∀ {l m r : List AVal}, mgL ng i l m = some r → ∀ (j : Nat) (c : AVal), r[j]? = some c → ∃ a b, l[j]? = some a ∧ m[j]? = some b ∧ mgV ng i a b = some c
  | [], [], r, h, j, c, hj => by simp only [mgL] at h; cases h; simp at hj
  | a :: l, b :: m, r, h, j, c, hj => by
    simp only [mgL] at h
    split at h
    · rename_i x y hx hy
      cases h
      cases j with
      | zero => simp at hj; subst hj; exact ⟨a, b, by simp, by simp, hx⟩
      | succ j => obtain ⟨p, q, h1, h2, h3⟩ := mgL_get hy j c (by simpa using hj); exact ⟨p, q, by simpa using h1, by simpa using h2, h3⟩
    · cases h
  | [], _ :: _, r, h, _, _, _ => by simp [mgL] at h
  | _ :: _, [], r, h, _, _, _ => by simp [mgL] at h

/-! ### Temporaries -/

def mgOV (ng : Cx) (i : Nat) : Option AVal → Option AVal → Option AVal
  | some a, some b => mgV ng i a b
  | _, _ => none

def mgTT (ng : Cx) (i : Nat) : TT → TT → TT
  | .n l v r, .n l' v' r' => .n (mgTT ng i l l') (mgOV ng i v v') (mgTT ng i r r')
  | _, _ => .e

theorem mgTT_get {ng : Cx} {i : Nat} : ∀ {a b : TT} {j : Nat} {c : AVal}, (mgTT ng i a b).get j = some c → ∃ x y, a.get j = some x ∧ b.get j = some y ∧ mgV ng i x y = some c
  | .e, _, _, _, h => by simp [mgTT, TT.get] at h
  | .al _, _, _, _, h => by simp [mgTT, TT.get] at h
  | .n _ _ _, .e, _, _, h => by simp [mgTT, TT.get] at h
  | .n _ _ _, .al _, _, _, h => by simp [mgTT, TT.get] at h
  | .n l v r, .n l' v' r', j, c, h => by
    simp only [mgTT] at h
    cases j with
    | zero =>
      simp only [TT.get] at h ⊢
      unfold mgOV at h
      split at h
      · rename_i x y; exact ⟨x, y, rfl, rfl, h⟩
      · cases h
    | succ j =>
      simp only [TT.get] at h ⊢
      split at h
      · exact mgTT_get h
      · exact mgTT_get h

def eqDf : List ADef → List ADef → Bool
  | [], [] => true
  | .mark b :: l, .mark b' :: m => Nat.beq b b' && eqDf l m
  | .fn f x y :: l, .fn f' x' y' :: m => decide (f = f') && (eqVs x x' && (eqVs y y' && eqDf l m))
  | _, _ => false

theorem eqDf_eq : ∀ {l m : List ADef}, eqDf l m = true → l = m
  | [], [], _ => rfl
  | .mark b :: l, .mark b' :: m, h => by
    simp only [eqDf, Bool.and_eq_true] at h
    rw [Nat.eq_of_beq_eq_true h.1, eqDf_eq h.2]
  | .fn f x y :: l, .fn f' x' y' :: m, h => by
    simp only [eqDf, Bool.and_eq_true, decide_eq_true_eq] at h
    rw [h.1, eqVs_eq _ _ h.2.1, eqVs_eq _ _ h.2.2.1, eqDf_eq h.2.2.2]
  | [], _ :: _, h => by simp [eqDf] at h
  | .mark _ :: _, [], h => by simp [eqDf] at h
  | .fn _ _ _ :: _, [], h => by simp [eqDf] at h
  | .mark _ :: _, .fn _ _ _ :: _, h => by simp [eqDf] at h
  | .fn _ _ _ :: _, .mark _ :: _, h => by simp [eqDf] at h

def mgTm (ng : Cx) (i : Nat) (a b : Tm) : Option Tm :=
  match Nat.beq a.len b.len && eqDf a.df b.df with
  | true => some ⟨a.len, mgTT ng i a.tr b.tr, a.df⟩
  | false => none

theorem mgTm_sound {ng : Cx} {i : Nat} {a b t : Tm} (h : mgTm ng i a b = some t) (g : Inj) (hg : ng.Good g.sig) (c : Act) : (g.sig.bval i = true → FRel g a c → FRel g t c) ∧ (g.sig.bval i = false → FRel g b c → FRel g t c) := by
  unfold mgTm at h
  split at h
  · rename_i hh
    cases h
    simp only [Bool.and_eq_true] at hh
    have hl := Nat.eq_of_beq_eq_true hh.1
    have hd := eqDf_eq hh.2
    constructor
    · rintro e ⟨⟨h1, h2⟩, h3⟩
      refine ⟨⟨h1, fun j v hv => ?_⟩, h3⟩
      have hlt := Tm.get_lt hv
      obtain ⟨x, y, hx, hy, hm⟩ := mgTT_get (Tm.get_tr hv)
      obtain ⟨u, k1, k2⟩ := h2 j x (Tm.get_of hx hlt)
      exact ⟨u, k1, (mgV_sound x y v hm g hg u).1 e k2⟩
    · rintro e ⟨⟨h1, h2⟩, h3⟩
      refine ⟨⟨by simp only; omega, fun j v hv => ?_⟩, by simp only [hd]; exact h3⟩
      have hlt := Tm.get_lt hv
      obtain ⟨x, y, hx, hy, hm⟩ := mgTT_get (Tm.get_tr hv)
      obtain ⟨u, k1, k2⟩ := h2 j y (Tm.get_of hy (by simp only at hlt; omega))
      exact ⟨u, k1, (mgV_sound x y v hm g hg u).2 e k2⟩
  · cases h

/-! ### Memory -/

def eqM : List (AVal × AVal) → List (AVal × AVal) → Bool
  | [], [] => true
  | a :: l, b :: m => eqV a.1 b.1 && (eqV a.2 b.2 && eqM l m)
  | _, _ => false

theorem eqM_eq : ∀ {l m : List (AVal × AVal)}, eqM l m = true → l = m
  | [], [], _ => rfl
  | (a, a') :: l, (b, b') :: m, h => by
    simp only [eqM, Bool.and_eq_true] at h
    rw [eqV_eq _ _ h.1, eqV_eq _ _ h.2.1, eqM_eq h.2.2]
  | [], _ :: _, h => by simp [eqM] at h
  | _ :: _, [], h => by simp [eqM] at h

def isRdy : LoopState → Bool
  | .ready => true
  | _ => false

def mgB (ng : Cx) (i : Nat) : Blk → Blk → Blk
  | .cells c e, .cells c' e' => match Nat.beq e e' with
    | true => match mgL ng i c c' with
      | some r => .cells r e
      | none => .gone
    | false => .gone
  | .map l, .map m => match eqM l m with
    | true => .map l
    | false => .gone
  | .loop a, .loop b => match isRdy a.st && isRdy b.st && a.pend.isNone && b.pend.isNone with
    | true => .loop a
    | false => .gone
  | .dfr, .dfr => .dfr
  | .iter x l c, .iter x' l' c' => match Nat.beq x x' && (eqM l l' && eqM c.toList c'.toList) with
    | true => .iter x l c
    | false => .gone
  | _, _ => .gone

theorem eqM_opt {c c' : Option (AVal × AVal)} (h : eqM c.toList c'.toList = true) : c = c' := by
  have := eqM_eq h
  cases c <;> cases c' <;> simp at this <;> first | rfl | rw [this]

def mgOB (ng : Cx) (i : Nat) : Option Blk → Option Blk → Blk
  | some a, some b => mgB ng i a b
  | _, _ => .gone

theorem isRdy_eq {s : LoopState} (h : isRdy s = true) : s = .ready := by
  unfold isRdy at h
  split at h
  · rfl
  · cases h

theorem mgB_sound {ng : Cx} {i : Nat} {a b : Blk} (g : Inj) (hg : ng.Good g.sig) (w : World) (L : Loc) (hl : ∀ x y, a = .loop x → b = .loop y → sameLoop y x) :
    (g.sig.bval i = true → BRel g w a L → BRel g w (mgB ng i a b) L) ∧ (g.sig.bval i = false → BRel g w b L → BRel g w (mgB ng i a b) L) := by
  unfold mgB
  split
  · rename_i c e c' e'
    split
    · rename_i he
      have he := Nat.eq_of_beq_eq_true he
      subst he
      split
      · rename_i r hr
        have hln := mgL_length hr
        constructor
        · rintro h1 ⟨C, fr, k1, k2, k3, k4, k5⟩
          refine ⟨C, fr, k1, k2, k3, by omega, fun j x hj => ?_⟩
          obtain ⟨p, q, hp, hq, hm⟩ := mgL_get hr j x hj
          obtain ⟨v, m1, m2, m3⟩ := k5 j p hp
          exact ⟨v, m1, (mgV_sound p q x hm g hg v).1 h1 m2, m3⟩
        · rintro h1 ⟨C, fr, k1, k2, k3, k4, k5⟩
          refine ⟨C, fr, k1, k2, k3, by omega, fun j x hj => ?_⟩
          obtain ⟨p, q, hp, hq, hm⟩ := mgL_get hr j x hj
          obtain ⟨v, m1, m2, m3⟩ := k5 j q hq
          exact ⟨v, m1, (mgV_sound p q x hm g hg v).2 h1 m2, m3⟩
      · exact ⟨fun _ _ => trivial, fun _ _ => trivial⟩
    · exact ⟨fun _ _ => trivial, fun _ _ => trivial⟩
  · split
    · rename_i he
      exact ⟨fun _ h => h, fun _ h => by rw [eqM_eq he]; exact h⟩
    · exact ⟨fun _ _ => trivial, fun _ _ => trivial⟩
  · rename_i x y
    split
    · rename_i hh
      simp only [Bool.and_eq_true, Option.isNone_iff_eq_none] at hh
      obtain ⟨⟨⟨s1, s2⟩, p1⟩, p2⟩ := hh
      obtain ⟨e1, e2, e3, e4, e5⟩ := hl x y rfl rfl
      refine ⟨fun _ h => h, fun _ h => ?_⟩
      obtain ⟨r, h1, h2, h3, h4, h5, h6, h7, D, h8, h9⟩ := h
      exact ⟨r, h1, by rw [h2, isRdy_eq s1, isRdy_eq s2], by rw [h3, p1, p2], by rw [e1]; exact h4, by rw [e2]; exact h5, by rw [e3]; exact h6, by rw [e4]; exact h7, D, by rw [e5]; exact h8, h9⟩
    · exact ⟨fun _ _ => trivial, fun _ _ => trivial⟩
  · exact ⟨fun _ h => h, fun _ h => h⟩
  · split
    · rename_i he
      simp only [Bool.and_eq_true] at he
      rw [Nat.eq_of_beq_eq_true he.1, eqM_eq he.2.1, eqM_opt he.2.2]
      exact ⟨fun _ h => h, fun _ h => h⟩
    · exact ⟨fun _ _ => trivial, fun _ _ => trivial⟩
  · exact ⟨fun _ _ => trivial, fun _ _ => trivial⟩

theorem mgB_loop {ng : Cx} {i : Nat} {a b : Blk} {l : LoopA} (h : mgB ng i a b = .loop l) : a = .loop l := by
  unfold mgB at h
  split at h
  · split at h
    · split at h <;> cases h
    · cases h
  · split at h <;> cases h
  · split at h
    · exact h
    · cases h
  · cases h
  · split at h <;> cases h
  · cases h

theorem mgB_live {ng : Cx} {i : Nat} {a b : Blk} (h : mgB ng i a b ≠ .gone) : a ≠ .gone ∧ b ≠ .gone := by
  constructor
  · rintro rfl; exact h (by cases b <;> rfl)
  · rintro rfl; exact h (by cases a <;> rfl)

def mgIds (ng : Cx) (i n : Nat) (A B : List Blk) : List Nat → List Blk → List Blk
  | [], H => H
  | j :: ids, H => match Nat.blt j n with
    | true => mgIds ng i n A B ids (H.set j (mgOB ng i (A[j]?) (B[j]?)))
    | false => mgIds ng i n A B ids H

/-- new blocks: no loops -/
def mgN (ng : Cx) (i : Nat) : Blk → Blk → Blk
  | .loop _, _ => .gone
  | a, b => mgB ng i a b

def mgNew (ng : Cx) (i : Nat) : List Blk → List Blk → List Blk
  | [], m => m.map fun _ => .gone
  | l, [] => l.map fun _ => .gone
  | a :: l, b :: m => mgN ng i a b :: mgNew ng i l m

/-- Two heaps that came of one with n blocks; what was written since then is told. -/
def mgH (ng : Cx) (i n : Nat) (A B : List Blk) (ids : List Nat) : List Blk := mgIds ng i n A B ids (A.take n ++ mgNew ng i (A.drop n) (B.drop n))

def mgHp (ng : Cx) (i : Nat) (h0 a b : Hp) : Hp :=
  ⟨mgH ng i h0.heap.length a.heap b.heap (a.log.take (a.log.length - h0.log.length) ++ b.log.take (b.log.length - h0.log.length)),
    a.log.take (a.log.length - h0.log.length) ++ b.log.take (b.log.length - h0.log.length) ++ h0.log⟩

theorem mgIds_length {ng : Cx} {i n : Nat} {A B : List Blk} : ∀ (ids : List Nat) (H : List Blk), (mgIds ng i n A B ids H).length = H.length
  | [], _ => rfl
  | j :: ids, H => by
    simp only [mgIds]
    split
    · rw [mgIds_length ids]; simp
    · rw [mgIds_length ids]

theorem mgIds_get {ng : Cx} {i n : Nat} {A B : List Blk} : ∀ (ids : List Nat) (H : List Blk) (j : Nat), (j < n ∧ j ∈ ids ∧ (mgIds ng i n A B ids H)[j]? = if j < H.length then some (mgOB ng i (A[j]?) (B[j]?)) else none) ∨ ((n ≤ j ∨ j ∉ ids) ∧ (mgIds ng i n A B ids H)[j]? = H[j]?)
  | [], H, j => .inr ⟨.inr (by simp), rfl⟩
  | k :: ids, H, j => by
    simp only [mgIds]
    split
    · rename_i hk
      have hk : k < n := by rw [Nat.blt_eq] at hk; exact hk
      rcases mgIds_get (A := A) (B := B) ids (H.set k (mgOB ng i (A[k]?) (B[k]?))) j with ⟨h1, h2, h3⟩ | ⟨h1, h2⟩
      · exact .inl ⟨h1, by simp [h2], by rw [h3]; simp⟩
      · by_cases hjk : j = k
        · subst hjk
          refine .inl ⟨hk, by simp, ?_⟩
          rw [h2, List.getElem?_set]
          simp
        · refine .inr ⟨?_, by rw [h2, List.getElem?_set_ne (Ne.symm hjk)]⟩
          rcases h1 with h1 | h1
          · exact .inl h1
          · exact .inr (by simp [hjk, h1])
    · rename_i hk
      have hk : n ≤ k := by
        have : ¬ (k < n) := fun h => by rw [← Nat.blt_eq] at h; rw [h] at hk; cases hk
        omega
      rcases mgIds_get (A := A) (B := B) ids H j with ⟨h1, h2, h3⟩ | ⟨h1, h2⟩
      · exact .inl ⟨h1, by simp [h2], h3⟩
      · refine .inr ⟨?_, h2⟩
        rcases h1 with h1 | h1
        · exact .inl h1
        · by_cases hjk : j = k
          · exact .inl (by omega)
          · exact .inr (by simp [hjk, h1])

theorem mgNew_get {ng : Cx} {i : Nat} : ∀ (l m : List Blk) (j : Nat) (k : Blk), (mgNew ng i l m)[j]? = some k → k ≠ .gone → ∃ a b, l[j]? = some a ∧ m[j]? = some b ∧ k = mgN ng i a b
  | [], m, j, k, h, hk => by
    simp only [mgNew, List.getElem?_map, Option.map_eq_some_iff] at h
    obtain ⟨_, _, rfl⟩ := h
    exact absurd rfl hk
  | a :: l, [], j, k, h, hk => by
    simp only [mgNew, List.getElem?_map, Option.map_eq_some_iff] at h
    obtain ⟨_, _, rfl⟩ := h
    exact absurd rfl hk
  | a :: l, b :: m, j, k, h, hk => by
    simp only [mgNew] at h
    cases j with
    | zero => simp at h; subst h; exact ⟨a, b, by simp, by simp, rfl⟩
    | succ j => obtain ⟨x, y, h1, h2, h3⟩ := mgNew_get l m j k (by simpa using h) hk; exact ⟨x, y, by simpa using h1, by simpa using h2, h3⟩

theorem mgNew_length {ng : Cx} {i : Nat} : ∀ (l m : List Blk), l.length ≤ (mgNew ng i l m).length ∧ m.length ≤ (mgNew ng i l m).length
  | [], m => by simp [mgNew]
  | a :: l, [] => by simp [mgNew]
  | a :: l, b :: m => by
    have := mgNew_length (ng := ng) (i := i) l m
    simp [mgNew]; omega

theorem take_pre {p l : List Nat} : (p ++ l).take ((p ++ l).length - l.length) = p := by
  rw [List.length_append, Nat.add_sub_cancel]
  simp

theorem mgHp_length {ng : Cx} {i : Nat} {h0 a b : Hp} (ta : Touch h0 a) (tb : Touch h0 b) : a.heap.length ≤ (mgHp ng i h0 a b).heap.length ∧ b.heap.length ≤ (mgHp ng i h0 a b).heap.length := by
  have h1 := mgNew_length (ng := ng) (i := i) (a.heap.drop h0.heap.length) (b.heap.drop h0.heap.length)
  have hla := ta.len
  have hlb := tb.len
  simp only [List.length_drop] at h1
  simp only [mgHp, mgH, mgIds_length, List.length_append, List.length_take]
  omega

/-- What the merged heap holds, of the one and of the other. -/
theorem mgH_spec {ng : Cx} {i : Nat} {h0 a b : Hp} (ta : Touch h0 a) (tb : Touch h0 b) (j : Nat) (k' : Blk) (h : (mgHp ng i h0 a b).heap[j]? = some k') (hk : k' ≠ .gone) :
    ∃ x y, a.heap[j]? = some x ∧ b.heap[j]? = some y ∧ x ≠ .gone ∧ y ≠ .gone ∧ (∀ la, k' = Blk.loop la → x = Blk.loop la) ∧
      ∀ (g : Inj), ng.Good g.sig → ∀ (w : World) (L : Loc), (g.sig.bval i = true → BRel g w x L → BRel g w k' L) ∧ (g.sig.bval i = false → BRel g w y L → BRel g w k' L) := by
  obtain ⟨pa, ea, fa⟩ := ta.log
  obtain ⟨pb, eb, fb⟩ := tb.log
  have hla := ta.len
  have hlb := tb.len
  -- loops that were there hold what they held
  have hloop : ∀ p q, a.heap[j]? = some (.loop p) → b.heap[j]? = some (.loop q) → j < h0.heap.length → sameLoop q p := by
    intro p q hx hy hj
    obtain ⟨l0, hl0, e1, e2, e3, e4, e5⟩ := ta.loops j p hj hx
    obtain ⟨l1, hl1, f1, f2, f3, f4, f5⟩ := tb.loops j q hj hy
    rw [hl0] at hl1; cases hl1
    exact ⟨e1.trans f1.symm, e2.trans f2.symm, e3.trans f3.symm, e4.trans f4.symm, e5.trans f5.symm⟩
  simp only [mgHp, mgH, ea, eb, take_pre] at h
  rcases mgIds_get (ng := ng) (i := i) (A := a.heap) (B := b.heap) (n := h0.heap.length) (pa ++ pb) (a.heap.take h0.heap.length ++ mgNew ng i (a.heap.drop h0.heap.length) (b.heap.drop h0.heap.length)) j with ⟨h1, h2, h3⟩ | ⟨h1, h2⟩
  · rw [h3] at h
    split at h
    · cases h
      obtain ⟨x, hx⟩ : ∃ x, a.heap[j]? = some x := ⟨_, List.getElem?_eq_getElem (by omega)⟩
      obtain ⟨y, hy⟩ : ∃ y, b.heap[j]? = some y := ⟨_, List.getElem?_eq_getElem (by omega)⟩
      rw [hx, hy] at hk ⊢
      obtain ⟨n1, n2⟩ := mgB_live hk
      exact ⟨x, y, rfl, rfl, n1, n2, fun la e => mgB_loop e, fun g hg w L => mgB_sound g hg w L (fun p q e1 e2 => hloop p q (by rw [hx, e1]) (by rw [hy, e2]) h1)⟩
    · cases h
  · rw [h2] at h
    rcases Nat.lt_or_ge j h0.heap.length with h9 | h9
    · rw [List.getElem?_append_left (by simp; omega), List.getElem?_take, if_pos h9] at h
      have hn : j ∉ pa ++ pb := by rcases h1 with h1 | h1; · omega
                                   · exact h1
      simp only [List.mem_append, not_or] at hn
      have ha := fa j h9 hn.1
      have hb := fb j h9 hn.2
      exact ⟨k', k', h, by rw [hb, ← ha]; exact h, hk, hk, fun la e => e, fun g hg w L => ⟨fun _ h => h, fun _ h => h⟩⟩
    · have hlt : (a.heap.take h0.heap.length).length = h0.heap.length := by simp; omega
      rw [List.getElem?_append_right (by omega), hlt] at h
      obtain ⟨x, y, hx, hy, rfl⟩ := mgNew_get _ _ _ _ h hk
      simp only [List.getElem?_drop] at hx hy
      rw [show h0.heap.length + (j - h0.heap.length) = j by omega] at hx hy
      unfold mgN at hk ⊢
      split at hk
      · exact absurd rfl hk
      · rename_i hne
        obtain ⟨n1, n2⟩ := mgB_live hk
        refine ⟨x, y, hx, hy, n1, n2, fun la e => mgB_loop e, fun g hg w L => ?_⟩
        have := mgB_sound (i := i) (a := x) (b := y) g hg w L (fun p q e1 e2 => (hne p e1).elim)
        exact this

theorem mgHp_touch {ng : Cx} {i : Nat} {h0 a b : Hp} (ta : Touch h0 a) (tb : Touch h0 b) : Touch h0 (mgHp ng i h0 a b) := by
  obtain ⟨pa, ea, fa⟩ := ta.log
  obtain ⟨pb, eb, fb⟩ := tb.log
  have hla := ta.len
  have hlb := tb.len
  refine ⟨Nat.le_trans hla (mgHp_length ta tb).1, ⟨pa ++ pb, by simp only [mgHp, ea, eb, take_pre], fun j hj hn => ?_⟩, fun j hj ⟨k, hk, hne⟩ => ?_, fun j la hj hla => ?_⟩
  · simp only [mgHp, mgH, ea, eb, take_pre]
    rcases mgIds_get (ng := ng) (i := i) (A := a.heap) (B := b.heap) (n := h0.heap.length) (pa ++ pb) (a.heap.take h0.heap.length ++ mgNew ng i (a.heap.drop h0.heap.length) (b.heap.drop h0.heap.length)) j with ⟨h1, h2, h3⟩ | ⟨h1, h2⟩
    · exact absurd h2 hn
    · rw [h2, List.getElem?_append_left (by simp; omega), List.getElem?_take, if_pos hj]
      simp only [List.mem_append, not_or] at hn
      exact fa j hj hn.1
  · obtain ⟨x, y, h1, h2, h3, h4, _, _⟩ := mgH_spec ta tb j k hk hne
    exact ta.live j hj ⟨x, h1, h3⟩
  · obtain ⟨x, y, h1, h2, h3, h4, h5, _⟩ := mgH_spec ta tb j _ hla (by simp)
    exact ta.loops j la hj (by rw [h1, h5 la rfl])

/-- What is so of the one way, and of the other, is so of both as one. -/
theorem mgHp_rel {ng : Cx} {i : Nat} {h0 a b : Hp} (ta : Touch h0 a) (tb : Touch h0 b) {g0 g : Inj} {w0 w : World} :
    (g.sig.bval i = true → HRel ng g a.heap w → Ext g0 h0.heap w0 g a.heap w → HRel ng g (mgHp ng i h0 a b).heap w ∧ Ext g0 h0.heap w0 g (mgHp ng i h0 a b).heap w) ∧
    (g.sig.bval i = false → HRel ng g b.heap w → Ext g0 h0.heap w0 g b.heap w → HRel ng g (mgHp ng i h0 a b).heap w ∧ Ext g0 h0.heap w0 g (mgHp ng i h0 a b).heap w) := by
  have hl := mgHp_length (ng := ng) (i := i) ta tb
  constructor
  · intro e hH hE
    refine ⟨hH.relax hl.1 fun j k' hk hn => ?_, hE.relax hl.1 fun j ⟨k', hk, hn⟩ => ?_⟩
    · obtain ⟨x, y, h1, h2, h3, h4, _, h5⟩ := mgH_spec ta tb j k' hk hn
      exact ⟨x, h1, h3, fun L hB => (h5 g hH.sig w L).1 e hB⟩
    · obtain ⟨x, y, h1, h2, h3, h4, _, h5⟩ := mgH_spec ta tb j k' hk hn
      exact ⟨x, h1, h3⟩
  · intro e hH hE
    refine ⟨hH.relax hl.2 fun j k' hk hn => ?_, hE.relax hl.2 fun j ⟨k', hk, hn⟩ => ?_⟩
    · obtain ⟨x, y, h1, h2, h3, h4, _, h5⟩ := mgH_spec ta tb j k' hk hn
      exact ⟨y, h2, h4, fun L hB => (h5 g hH.sig w L).2 e hB⟩
    · obtain ⟨x, y, h1, h2, h3, h4, _, h5⟩ := mgH_spec ta tb j k' hk hn
      exact ⟨y, h2, h4⟩

/-! ### Trees -/

/-- What is so of all leaves. -/
def AllT {α : Type} (Q : α → Prop) : Tree α → Prop
  | .leaf a => Q a
  | .node _ y n => AllT Q y ∧ AllT Q n
  | .pick _ _ y n => AllT Q y ∧ AllT Q n
  | .or y n => AllT Q y ∧ AllT Q n
  | .req _ t => AllT Q t
  | .dead => True

theorem AllT.mono {α : Type} {Q Q' : α → Prop} (hq : ∀ a, Q a → Q' a) : ∀ {T : Tree α}, AllT Q T → AllT Q' T
  | .leaf _, h => hq _ h
  | .node _ _ _, h => ⟨AllT.mono hq h.1, AllT.mono hq h.2⟩
  | .pick _ _ _ _, h => ⟨AllT.mono hq h.1, AllT.mono hq h.2⟩
  | .or _ _, h => ⟨AllT.mono hq h.1, AllT.mono hq h.2⟩
  | .req _ t, h => AllT.mono hq (T := t) h
  | .dead, _ => trivial

theorem all_bind {α β : Type} {Q : α → Prop} {Q' : β → Prop} {k : List Fact → α → Tree β} (hk : ∀ F a, Q a → AllT Q' (k F a)) : ∀ {T : Tree α} {F : List Fact}, AllT Q T → AllT Q' (bindT F T k)
  | .leaf _, _, h => hk _ _ h
  | .node _ _ _, _, h => ⟨all_bind hk h.1, all_bind hk h.2⟩
  | .pick _ _ _ _, _, h => ⟨all_bind hk h.1, all_bind hk h.2⟩
  | .or _ _, _, h => ⟨all_bind hk h.1, all_bind hk h.2⟩
  | .req _ t, F, h => all_bind hk (T := t) (F := F) h
  | .dead, _, _ => trivial

def obN (i : Nat) : Ob → Ob → Ob
  | .ok, .ok => .ok
  | y, n => .node i y n

def obP (i : Nat) (k : Int) : Ob → Ob → Ob
  | .ok, .ok => .ok
  | y, n => .pick i k y n

theorem obN_sat {σ : Sig} {i : Nat} {y n : Ob} (h : (obN i y n).Sat σ) : (σ.bval i = true → y.Sat σ) ∧ (σ.bval i = false → n.Sat σ) := by
  unfold obN at h
  split at h
  · exact ⟨fun _ => trivial, fun _ => trivial⟩
  · exact h

theorem obP_sat {σ : Sig} {i : Nat} {k : Int} {y n : Ob} (h : (obP i k y n).Sat σ) : (σ.ival i = k → y.Sat σ) ∧ (σ.ival i ≠ k → n.Sat σ) := by
  unfold obP at h
  split at h
  · exact ⟨fun _ => trivial, fun _ => trivial⟩
  · exact h

def isDead {α : Type} : Tree α → Bool
  | .dead => true
  | _ => false

theorem isDead_eq {α : Type} {T : Tree α} (h : isDead T = true) : T = .dead := by
  cases T <;> first | rfl | cases h

/-- One end, and what must be so for it. -/
def oneT {α : Type} : Tree α → Option (Ob × α)
  | .leaf a => some (.ok, a)
  | .req o t => match oneT t with
    | some (.ok, a) => some (o, a)
    | _ => none
  | .node i y n => match isDead n with
    | true => match oneT y with
      | some (o, a) => some (.node i o .no, a)
      | none => none
    | false => match isDead y with
      | true => match oneT n with
        | some (o, a) => some (.node i .no o, a)
        | none => none
      | false => none
  | .pick i k y n => match isDead n with
    | true => match oneT y with
      | some (o, a) => some (.pick i k o .no, a)
      | none => none
    | false => match isDead y with
      | true => match oneT n with
        | some (o, a) => some (.pick i k .no o, a)
        | none => none
      | false => none
  | _ => none

def reqT {α : Type} : Ob → α → Tree α
  | .ok, a => .leaf a
  | o, a => .req o (.leaf a)

/-- Ways that may come to one, come to one. -/
def leafT {α : Type} : Tree α → Option α
  | .leaf a => some a
  | _ => none

def mgT {α : Type} (f : Nat → α → α → Option α) (fp : Nat → Int → α → α → Option α) (fo : α → α → Option α) : Tree α → Tree α
  | .leaf a => .leaf a
  | .node i y n => match oneT (mgT f fp fo y), oneT (mgT f fp fo n) with
    | some (oy, a), some (on, b) => match f i a b with
      | some c => reqT (obN i oy on) c
      | none => .node i (mgT f fp fo y) (mgT f fp fo n)
    | _, _ => .node i (mgT f fp fo y) (mgT f fp fo n)
  | .pick i k y n => match oneT (mgT f fp fo y), oneT (mgT f fp fo n) with
    | some (oy, a), some (on, b) => match fp i k a b with
      | some c => reqT (obP i k oy on) c
      | none => .pick i k (mgT f fp fo y) (mgT f fp fo n)
    | _, _ => .pick i k (mgT f fp fo y) (mgT f fp fo n)
  | .or y n => match leafT (mgT f fp fo y), leafT (mgT f fp fo n) with
    | some a, some b => match fo a b with
      | some c => .leaf c
      | none => .or (mgT f fp fo y) (mgT f fp fo n)
    | _, _ => .or (mgT f fp fo y) (mgT f fp fo n)
  | .req o t => .req o (mgT f fp fo t)
  | .dead => .dead

theorem oneT_sat {α : Type} {σ : Sig} {Q : α → Prop} : ∀ {T : Tree α} {o : Ob} {a : α}, oneT T = some (o, a) → o.Sat σ → Q a → Sat σ Q T
  | .leaf _, _, _, h, _, q => by simp only [oneT] at h; cases h; exact q
  | .req o t, _, _, h, ho, q => by
    simp only [oneT] at h
    split at h
    · rename_i a' ht
      cases h
      exact ⟨ho, oneT_sat ht trivial q⟩
    · cases h
  | .node i y n, o, a, h, ho, q => by
    simp only [oneT] at h
    split at h
    · rename_i hd
      have := isDead_eq hd
      subst this
      split at h
      · rename_i o' a' hy
        cases h
        exact ⟨fun e => oneT_sat hy (ho.1 e) q, fun e => ho.2 e⟩
      · cases h
    · split at h
      · rename_i hd
        have := isDead_eq hd
        subst this
        split at h
        · rename_i o' a' hy
          cases h
          exact ⟨fun e => ho.1 e, fun e => oneT_sat hy (ho.2 e) q⟩
        · cases h
      · cases h
  | .pick i k y n, o, a, h, ho, q => by
    simp only [oneT] at h
    split at h
    · rename_i hd
      have := isDead_eq hd
      subst this
      split at h
      · rename_i o' a' hy
        cases h
        exact ⟨fun e => oneT_sat hy (ho.1 e) q, fun e => ho.2 e⟩
      · cases h
    · split at h
      · rename_i hd
        have := isDead_eq hd
        subst this
        split at h
        · rename_i o' a' hy
          cases h
          exact ⟨fun e => ho.1 e, fun e => oneT_sat hy (ho.2 e) q⟩
        · cases h
      · cases h
  | .dead, _, _, h, _, _ => by simp [oneT] at h
  | .or _ _, _, _, h, _, _ => by simp [oneT] at h

theorem oneT_all {α : Type} {S : α → Prop} : ∀ {T : Tree α} {o : Ob} {a : α}, oneT T = some (o, a) → AllT S T → S a
  | .leaf _, _, _, h, q => by simp only [oneT] at h; cases h; exact q
  | .req o t, _, _, h, q => by
    simp only [oneT] at h
    split at h
    · rename_i a' ht; cases h; exact oneT_all ht q
    · cases h
  | .node i y n, o, a, h, q => by
    simp only [oneT] at h
    split at h
    · split at h
      · rename_i o' a' hy; cases h; exact oneT_all hy q.1
      · cases h
    · split at h
      · split at h
        · rename_i o' a' hy; cases h; exact oneT_all hy q.2
        · cases h
      · cases h
  | .pick i k y n, o, a, h, q => by
    simp only [oneT] at h
    split at h
    · split at h
      · rename_i o' a' hy; cases h; exact oneT_all hy q.1
      · cases h
    · split at h
      · split at h
        · rename_i o' a' hy; cases h; exact oneT_all hy q.2
        · cases h
      · cases h
  | .dead, _, _, h, _ => by simp [oneT] at h
  | .or _ _, _, _, h, _ => by simp [oneT] at h

theorem reqT_sat {α : Type} {σ : Sig} {Q : α → Prop} {o : Ob} {a : α} (h : Sat σ Q (reqT o a)) : o.Sat σ ∧ Q a := by
  unfold reqT at h
  split at h
  · exact ⟨trivial, h⟩
  · exact h

theorem reqT_all {α : Type} {S : α → Prop} {o : Ob} {a : α} (h : S a) : AllT S (reqT o a) := by
  unfold reqT
  split <;> exact h

theorem leafT_eq {α : Type} {T : Tree α} {a : α} (h : leafT T = some a) : T = .leaf a := by
  unfold leafT at h
  split at h
  · cases h; rfl
  · cases h

/-- What may be said of c may be said of a, if W. -/
theorem sat_mg {α : Type} {σ : Sig} {W : α → α → Prop} {S : α → Prop} {f : Nat → α → α → Option α} {fp : Nat → Int → α → α → Option α} {fo : α → α → Option α} (hr : ∀ a, W a a) (htr : ∀ a b c, W a b → W b c → W a c)
    (hf : ∀ i a b c, S a → S b → f i a b = some c → S c ∧ (σ.bval i = true → W a c) ∧ (σ.bval i = false → W b c))
    (hs : ∀ i k a b c, S a → S b → fp i k a b = some c → S c ∧ (σ.ival i = k → W a c) ∧ (σ.ival i ≠ k → W b c))
    (ho : ∀ a b c, S a → S b → fo a b = some c → S c ∧ W a c ∧ W b c) :
    ∀ {T : Tree α}, AllT S T → AllT S (mgT f fp fo T) ∧ ∀ Q : α → Prop, Sat σ Q (mgT f fp fo T) → Sat σ (fun a => ∃ c, Q c ∧ W a c) T
  | .leaf a, h => ⟨h, fun Q q => ⟨a, q, hr a⟩⟩
  | .dead, h => ⟨h, fun Q q => q⟩
  | .req o t, h => by
    obtain ⟨a1, a2⟩ := sat_mg hr htr hf hs ho (T := t) h
    exact ⟨a1, fun Q q => ⟨q.1, a2 Q q.2⟩⟩
  | .or y n, h => by
    obtain ⟨a1, a2⟩ := sat_mg hr htr hf hs ho h.1
    obtain ⟨b1, b2⟩ := sat_mg hr htr hf hs ho h.2
    have keep : AllT S (Tree.or (mgT f fp fo y) (mgT f fp fo n)) ∧ ∀ Q : α → Prop, Sat σ Q (Tree.or (mgT f fp fo y) (mgT f fp fo n)) → Sat σ (fun a => ∃ c, Q c ∧ W a c) (Tree.or y n) := ⟨⟨a1, b1⟩, fun Q q => ⟨a2 Q q.1, b2 Q q.2⟩⟩
    simp only [mgT]
    split
    · rename_i a b ha hb
      split
      · rename_i c hc
        have ea := leafT_eq ha
        have eb := leafT_eq hb
        rw [ea] at a1 a2
        rw [eb] at b1 b2
        obtain ⟨k1, k2, k3⟩ := ho a b c a1 b1 hc
        refine ⟨k1, fun Q q => ⟨(a2 (fun x => x = a) rfl).mono ?_, (b2 (fun x => x = b) rfl).mono ?_⟩⟩
        · rintro x ⟨c', rfl, hw⟩
          exact ⟨c, q, htr _ _ _ hw k2⟩
        · rintro x ⟨c', rfl, hw⟩
          exact ⟨c, q, htr _ _ _ hw k3⟩
      · exact keep
    · exact keep
  | .pick i k y n, h => by
    obtain ⟨a1, a2⟩ := sat_mg hr htr hf hs ho h.1
    obtain ⟨b1, b2⟩ := sat_mg hr htr hf hs ho h.2
    have keep : AllT S (Tree.pick i k (mgT f fp fo y) (mgT f fp fo n)) ∧ ∀ Q : α → Prop, Sat σ Q (Tree.pick i k (mgT f fp fo y) (mgT f fp fo n)) → Sat σ (fun a => ∃ c, Q c ∧ W a c) (Tree.pick i k y n) :=
      ⟨⟨a1, b1⟩, fun Q q => ⟨fun e => a2 Q (q.1 e), fun e => b2 Q (q.2 e)⟩⟩
    simp only [mgT]
    split
    · rename_i oy a on b ha hb
      split
      · rename_i c hc
        obtain ⟨sc, w1, w2⟩ := hs i k a b c (oneT_all ha a1) (oneT_all hb b1) hc
        refine ⟨reqT_all sc, fun Q q => ?_⟩
        obtain ⟨q1, q2⟩ := reqT_sat q
        have q1 := obP_sat q1
        exact ⟨fun e => (a2 (fun x => x = a) (oneT_sat ha (q1.1 e) rfl)).mono fun x ⟨c', e', hw⟩ => ⟨c, q2, htr _ _ _ hw (by rw [e']; exact w1 e)⟩,
          fun e => (b2 (fun x => x = b) (oneT_sat hb (q1.2 e) rfl)).mono fun x ⟨c', e', hw⟩ => ⟨c, q2, htr _ _ _ hw (by rw [e']; exact w2 e)⟩⟩
      · exact keep
    · exact keep
  | .node i y n, h => by
    obtain ⟨a1, a2⟩ := sat_mg hr htr hf hs ho h.1
    obtain ⟨b1, b2⟩ := sat_mg hr htr hf hs ho h.2
    have keep : AllT S (Tree.node i (mgT f fp fo y) (mgT f fp fo n)) ∧ ∀ Q : α → Prop, Sat σ Q (Tree.node i (mgT f fp fo y) (mgT f fp fo n)) → Sat σ (fun a => ∃ c, Q c ∧ W a c) (Tree.node i y n) :=
      ⟨⟨a1, b1⟩, fun Q q => ⟨fun e => a2 Q (q.1 e), fun e => b2 Q (q.2 e)⟩⟩
    simp only [mgT]
    split
    · rename_i oy a on b ha hb
      split
      · rename_i c hc
        obtain ⟨sc, w1, w2⟩ := hf i a b c (oneT_all ha a1) (oneT_all hb b1) hc
        refine ⟨reqT_all sc, fun Q q => ?_⟩
        obtain ⟨q1, q2⟩ := reqT_sat q
        have q1 := obN_sat q1
        exact ⟨fun e => (a2 (fun x => x = a) (oneT_sat ha (q1.1 e) rfl)).mono fun x ⟨c', e', hw⟩ => ⟨c, q2, htr _ _ _ hw (by rw [e']; exact w1 e)⟩,
          fun e => (b2 (fun x => x = b) (oneT_sat hb (q1.2 e) rfl)).mono fun x ⟨c', e', hw⟩ => ⟨c, q2, htr _ _ _ hw (by rw [e']; exact w2 e)⟩⟩
      · exact keep
    · exact keep

end Go.Ev
