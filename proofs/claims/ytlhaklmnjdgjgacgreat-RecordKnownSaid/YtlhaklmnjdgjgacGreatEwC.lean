/- The operations that touch no memory. -/
import Derived.Test.YtlhaklmnjdgjgacGreatEwB
namespace Go.Ev

def isC : Operand → Bool
  | .const _ => true
  | _ => false

def guardV (P : Program) (t : TypeId) (x y : Operand) (a b : AVal) : Bool :=
  match a, b with
  | .junk, _ => false
  | _, .junk => false
  | .niliface, .niliface => isC x || isC y
  | .agg _, .agg _ => !P.eqGuardType P.depth t
  | _, _ => true

def guardA (P : Program) (op : BinOp) (t : TypeId) (x y : Operand) (a b : AVal) : Bool :=
  match op with
  | .eql | .neq => guardV P t x y a b
  | _ => true

def binA (P : Program) (op : BinOp) (t : TypeId) (a b : AVal) : Option AVal :=
  match a, b with
  | .int k a, .int k' b => intA op k a k' b
  | .str a, .str b => strA op a b
  | .float _ _, _ => none
  | a, b => match op with
    | .eql => match eqA P 10000 t a b with
      | some r => some (.bool r)
      | none => none
    | .neq => match eqA P 10000 t a b with
      | some r => some (.bool (!r))
      | none => none
    | _ => none

theorem run_intA {P : Program} {g : Inj} (w : World) {op : BinOp} {t : TypeId} {k k' : IntKind} {a b : Int} {r : AVal} (h : intA op k a k' b = some r) :
    ∃ v, (binOp op t (.int k a) (.int k' b)).run P w = .ok v w ∧ VRel g r v := by
  unfold intA at h
  split at h
  · split at h
    · cases h
    · cases h; exact ⟨_, by simp [binOp, Op.shift, *], .int _ _⟩
  · split at h
    · cases h
    · cases h; exact ⟨_, by simp [binOp, Op.shift, *], .int _ _⟩
  · rename_i hn1 hn2
    split at h
    · rename_i hk
      subst hk
      have e1 : ∀ x y, Op.intArith op x y = Op.intArith op x y := fun _ _ => rfl
      split at h
      · cases h; exact ⟨_, by simp [binOp, Op.intArith], .int _ _⟩
      · cases h; exact ⟨_, by simp [binOp, Op.intArith], .int _ _⟩
      · cases h; exact ⟨_, by simp [binOp, Op.intArith], .int _ _⟩
      · split at h
        · cases h
        · cases h; exact ⟨_, by simp [binOp, Op.intDiv, *], .int _ _⟩
      · split at h
        · cases h
        · cases h; exact ⟨_, by simp [binOp, Op.intDiv, *], .int _ _⟩
      · cases h; exact ⟨_, by simp [binOp, Op.intBits], .int _ _⟩
      · cases h; exact ⟨_, by simp [binOp, Op.intBits], .int _ _⟩
      · cases h; exact ⟨_, by simp [binOp, Op.intBits], .int _ _⟩
      · cases h; exact ⟨_, by simp [binOp, Op.intBits], .int _ _⟩
      · cases h; exact ⟨_, by simp [binOp, Op.intCmp], .bool _⟩
      · cases h; exact ⟨_, by simp [binOp, Op.intCmp], .bool _⟩
      · cases h; exact ⟨_, by simp [binOp, Op.intCmp], .bool _⟩
      · cases h; exact ⟨_, by simp [binOp, Op.intCmp], .bool _⟩
      · cases h; exact ⟨_, by simp [binOp, Op.intCmp], .bool _⟩
      · cases h; exact ⟨_, by simp [binOp, Op.intCmp], .bool _⟩
      · cases h
    · cases h

theorem run_strA {P : Program} {g : Inj} (w : World) {op : BinOp} {t : TypeId} {a b : ByteArray} {r : AVal} (h : strA op a b = some r) :
    ∃ v, (binOp op t (.string a) (.string b)).run P w = .ok v w ∧ VRel g r v := by
  unfold strA at h
  split at h
  · split at h
    · rename_i hle
      cases h
      have : ¬ (9223372036854775807 < ((a.size : Int) + (b.size : Int))) := by omega
      exact ⟨_, by simp [binOp, Op.stringOp, this], .str _⟩
    · cases h
  · cases h; exact ⟨_, by simp [binOp, Op.stringOp], .bool _⟩
  · cases h; exact ⟨_, by simp [binOp, Op.stringOp], .bool _⟩
  · cases h; exact ⟨_, by simp [binOp, Op.stringOp], .bool _⟩
  · cases h; exact ⟨_, by simp [binOp, Op.stringOp], .bool _⟩
  · cases h; exact ⟨_, by simp [binOp, Op.stringOp], .bool _⟩
  · cases h; exact ⟨_, by simp [binOp, Op.stringOp], .bool _⟩
  · cases h

def unk : AVal → Bool
  | .symi _ _ | .symb _ | .syms _ | .junk | .geq _ => true
  | _ => false

theorem binOp_eql_other {t : TypeId} {a b : AVal} {u v : Value} {g : Inj} (ha : VRel g a u) (hb : VRel g b v) (h0 : (unk a || unk b) = false)
    (h1 : ∀ k x k' y, ¬ (a = .int k x ∧ b = .int k' y)) (h2 : ∀ x y, ¬ (a = .str x ∧ b = .str y)) (h3 : ∀ k x, a ≠ .float k x) :
    binOp .eql t u v = (do pure (.bool (← Op.equal t u v))) ∧ binOp .neq t u v = (do pure (.bool (!(← Op.equal t u v)))) := by
  cases ha <;> cases hb <;> first | exact ⟨rfl, rfl⟩ | (exfalso; first | exact h1 _ _ _ _ ⟨rfl, rfl⟩ | exact h2 _ _ ⟨rfl, rfl⟩ | exact h3 _ _ rfl | (simp [unk] at h0; done))

theorem run_binA {P : Program} {g : Inj} (w : World) {op : BinOp} {t : TypeId} {a b r : AVal} {u v : Value} (h : binA P op t a b = some r) (ha : VRel g a u) (hb : VRel g b v) (h0 : (unk a || unk b) = false) :
    ∃ x, (binOp op t u v).run P w = .ok x w ∧ VRel g r x := by
  unfold binA at h
  split at h
  · cases ha; cases hb; exact run_intA w h
  · cases ha; cases hb; exact run_strA w h
  · cases h
  · rename_i n3 n1 n2
    have hh := binOp_eql_other (t := t) ha hb h0 (fun k x k' y e => n1 k x k' y e.1 e.2) (fun x y e => n2 x y e.1 e.2) (fun k x e => n3 k x e)
    split at h
    · split at h
      · rename_i r' hr
        cases h
        have := run_eqA w _ _ _ _ _ _ _ hr ha hb
        exact ⟨.bool r', by rw [hh.1]; simp [Op.equal, Op.maxDepth, this], .bool _⟩
      · cases h
    · split at h
      · rename_i r' hr
        cases h
        have := run_eqA w _ _ _ _ _ _ _ hr ha hb
        exact ⟨.bool (!r'), by rw [hh.2]; simp [Op.equal, Op.maxDepth, this], .bool _⟩
      · cases h
    · cases h

/-! ### Operations on unknowns -/

def sameS : AVal → AVal → Bool
  | .symi k i, .symi k' j => decide (k = k') && i == j
  | .syms i, .syms j => i == j
  | .symb i, .symb j => i == j
  | _, _ => false

def isI : AVal → Bool
  | .int _ _ | .symi _ _ => true
  | _ => false

def isB : AVal → Bool
  | .bool _ | .symb _ => true
  | _ => false

/-- what a comparison says of a value and itself -/
def sameOp (int : Bool) : BinOp → Option Bool
  | .eql => some true
  | .neq => some false
  | .leq => if int then some true else none
  | .geq => if int then some true else none
  | .lss => if int then some false else none
  | .gtr => if int then some false else none
  | _ => none

def symBin2 (ng : Cx) (op : BinOp) (a b : AVal) : Option AVal :=
  match sameS a b with
  | true => match sameOp (isI a) op with
    | some r => some (.bool r)
    | none => symS ng (.bin op a b)
  | false => symS ng (.bin op a b)

def symBin (P : Program) (ng : Cx) (op : BinOp) (t : TypeId) (a b : AVal) : Option AVal :=
  match isB a with
  | true => match P.underlying t with
    | some .bool => symBin2 ng op a b
    | _ => none
  | false => symBin2 ng op a b

theorem run_binS {P : Program} {g : Inj} (w : World) {op : BinOp} {t : TypeId} {a b q : AVal} {u v : Value} (h : binS op a b = some q) (ha : VRel g a u) (hb : VRel g b v) (ht : isB a = true → P.underlying t = some .bool) :
    ∃ r, (binOp op t u v).run P w = .ok r w ∧ VRel g q r := by
  unfold binS at h
  split at h
  · cases ha; cases hb; exact run_intA w h
  · cases ha; cases hb; exact run_strA w h
  · have hu := ht rfl
    have key : ∀ x y : Bool, (Op.equalIn 10000 t (.bool x) (.bool y)).run P w = .ok (x == y) w := fun x y =>
      run_eqA w _ _ _ _ _ _ _ (show eqA P (9999 + 1) t (.bool x) (.bool y) = some (x == y) by simp [eqA, hu]) (.bool (g := g) x) (.bool y)
    cases ha; cases hb
    split at h
    · cases h
      exact ⟨_, by simp [binOp, Op.equal, Op.maxDepth, key], .bool _⟩
    · cases h
      exact ⟨_, by simp [binOp, Op.equal, Op.maxDepth, key], .bool _⟩
    · cases h
  · cases h

theorem symBin2_eval {ng : Cx} {g : Inj} (hg : ng.Good g.sig) {op : BinOp} {a b r : AVal} (h : symBin2 ng op a b = some r) : ∃ q, binS op (den g.sig a) (den g.sig b) = some q ∧ ∀ v, VRel g q v → VRel g r v := by
  unfold symBin2 at h
  split at h
  · rename_i hs
    split at h
    · rename_i r' hr
      cases h
      refine ⟨.bool r', ?_, fun v hv => hv⟩
      unfold sameS at hs
      split at hs
      · simp only [Bool.and_eq_true, decide_eq_true_eq, beq_iff_eq] at hs
        obtain ⟨rfl, rfl⟩ := hs
        cases op <;> simp [sameOp, isI] at hr <;> subst hr <;> simp [binS, den, intA]
      · simp only [beq_iff_eq] at hs
        subst hs
        cases op <;> simp [sameOp, isI] at hr <;> subst hr <;> simp [binS, den, strA]
      · simp only [beq_iff_eq] at hs
        subst hs
        cases op <;> simp [sameOp, isI] at hr <;> subst hr <;> simp [binS, den]
      · cases hs
    · exact symS_sound hg h
  · exact symS_sound hg h

theorem isB_den {σ : Sig} {a : AVal} (h : isB (den σ a) = true) : isB a = true := by
  cases a <;> simp [den, isB] at h ⊢

theorem run_symBin {P : Program} {ng : Cx} {g : Inj} (w : World) (hg : ng.Good g.sig) {op : BinOp} {t : TypeId} {a b r : AVal} {u v : Value} (h : symBin P ng op t a b = some r) (ha : VRel g a u) (hb : VRel g b v) :
    ∃ x, (binOp op t u v).run P w = .ok x w ∧ VRel g r x := by
  have key : symBin2 ng op a b = some r ∧ (isB a = true → P.underlying t = some .bool) := by
    unfold symBin at h
    split at h
    · split at h
      · rename_i hu; exact ⟨h, fun _ => hu⟩
      · cases h
    · rename_i hn; exact ⟨h, fun hh => by rw [hn] at hh; cases hh⟩
  obtain ⟨q, h1, h2⟩ := symBin2_eval hg key.1
  obtain ⟨x, k1, k2⟩ := run_binS (P := P) (t := t) w h1 (den_rel.2 ha) (den_rel.2 hb) (fun hh => key.2 (isB_den hh))
  exact ⟨x, k1, h2 x k2⟩

/-! ### Equality of what holds unknowns -/

mutual
def denD (σ : Sig) : AVal → AVal
  | .agg l => .agg (denL σ l)
  | .symi k i => .int k (σ.ival i)
  | .symb i => .bool (σ.bval i)
  | .syms i => .str (σ.sval i)
  | a => a
def denL (σ : Sig) : List AVal → List AVal
  | [] => []
  | a :: l => denD σ a :: denL σ l
end

theorem denL_map (σ : Sig) : ∀ l : List AVal, denL σ l = l.map (denD σ)
  | [] => rfl
  | a :: l => by simp [denL, denL_map σ l]

mutual
theorem VRel.denD {g : Inj} : ∀ {a : AVal} {v : Value}, VRel g a v → VRel g (Ev.denD g.sig a) v
  | _, _, .bool b => .bool b
  | _, _, .int k n => .int k n
  | _, _, .float k n => .float k n
  | _, _, .str s => .str s
  | _, _, .nilptr => .nilptr
  | _, _, .ptr b off L h => .ptr b off L h
  | _, _, .nilslice => .nilslice
  | _, _, .slice b off len cap ex o' cap' L h h0 h1 h2 => .slice b off len cap ex o' cap' L h h0 h1 h2
  | _, _, .nilmap => .nilmap
  | _, _, .map b L h => .map b L h
  | _, _, .nilfunc => .nilfunc
  | _, _, .func fn f c f' c' h1 h2 => .func fn f c f' c' h1 h2
  | _, _, .niliface => .niliface
  | _, _, .iface t v v' h => .iface t v v' h
  | _, _, .agg l l' h => .agg _ l' (LRel.denL h)
  | _, _, .tuple l l' h => .tuple l l' h
  | _, _, .symi k i => .int k _
  | _, _, .symb i => .bool _
  | _, _, .syms i => .str _
  | _, _, .row i X ao cap h1 h2 h3 => .row i X ao cap h1 h2 h3
  | _, _, .rptr i ix j m X h1 h2 h3 => .rptr i ix j m X h1 h2 h3
  | _, _, .yield b L h => .yield b L h
  | _, _, .junk v h => .junk v h
  | _, _, .geq n m h => .geq n m h
theorem LRel.denL {g : Inj} : ∀ {a : List AVal} {v : List Value}, LRel g a v → LRel g (Ev.denL g.sig a) v
  | _, _, .nil => .nil
  | _, _, .cons a v l m h h' => .cons _ v _ m (VRel.denD h) (LRel.denL h')
end

def isT : AVal → Bool
  | .str _ | .syms _ => true
  | _ => false

def kindI : AVal → Option IntKind
  | .int k _ => some k
  | .symi k _ => some k
  | _ => none

def prFs (part : TypeId → List AVal → Nat → Option AVal) (pr : TypeId → AVal → AVal → Option (List (AVal × AVal))) (xs ys : List AVal) : List Field → Option (List (AVal × AVal))
  | [] => some []
  | f :: fs =>
    if f.name ≠ "_" then
      match part f.type xs f.offset, part f.type ys f.offset with
      | some a, some b => match pr f.type a b, prFs part pr xs ys fs with
        | some r, some s => some (r ++ s)
        | _, _ => none
      | _, _ => none
    else prFs part pr xs ys fs

def prIs (part : TypeId → List AVal → Nat → Option AVal) (pr : TypeId → AVal → AVal → Option (List (AVal × AVal))) (e : TypeId) (c : Nat) (xs ys : List AVal) : List Nat → Option (List (AVal × AVal))
  | [] => some []
  | i :: is => match part e xs (i * c), part e ys (i * c) with
      | some a, some b => match pr e a b, prIs part pr e c xs ys is with
        | some r, some s => some (r ++ s)
        | _, _ => none
      | _, _ => none

/-- The pairs of plain parts that are to be alike, of two values of one type. -/
def pairsA (P : Program) : Nat → TypeId → AVal → AVal → Option (List (AVal × AVal))
  | 0, _, _, _ => none
  | d + 1, t, x, y =>
    match P.underlying t with
    | some .bool => if (isB x && isB y) = true then some [(x, y)] else none
    | some (.int _) => match kindI x, kindI y with
      | some k, some k' => if k = k' then some [(x, y)] else none
      | _, _ => none
    | some .string => if (isT x && isT y) = true then some [(x, y)] else none
    | some (.struct fs) => match x, y with
      | .agg xs, .agg ys => if P.stoodInHeld t = false then prFs (partA P) (pairsA P d) xs ys fs.toList else none
      | _, _ => none
    | some (.array n e) => match x, y with
      | .agg xs, .agg ys => match P.info? e with
        | some _ => prIs (partA P) (pairsA P d) e (P.cellsOf e) xs ys (List.range n)
        | none => none
      | _, _ => none
    | _ => none

def allEq (σ : Sig) (l : List (AVal × AVal)) : Bool := l.all fun x => eqS (den σ x.1) (den σ x.2)

theorem seg_denL (σ : Sig) {l r : List AVal} {off n : Nat} (h : seg l off n = some r) : seg (denL σ l) off n = some (denL σ r) := by
  unfold seg at h ⊢
  split at h
  · rename_i hle
    cases h
    rw [denL_map, denL_map, if_pos (by simpa using hle)]
    simp [List.map_take, List.map_drop]
  · cases h

theorem partA_denL (P : Program) (σ : Sig) {t : TypeId} {cs : List AVal} {off : Nat} {a : AVal} (h : partA P t cs off = some a) : partA P t (denL σ cs) off = some (denD σ a) := by
  unfold partA at h ⊢
  split at h
  · split at h
    · rename_i l hl
      cases h
      rw [seg_denL σ hl]
      simp [denD]
    · cases h
  · rw [denL_map]
    simp [h]

theorem prFs_den {P : Program} {σ : Sig} {d : Nat} (ih : ∀ t x y l, pairsA P d t x y = some l → eqA P d t (denD σ x) (denD σ y) = some (allEq σ l)) (xs ys : List AVal) :
    ∀ (fs : List Field) (l : List (AVal × AVal)), prFs (partA P) (pairsA P d) xs ys fs = some l → eqFs (partA P) (eqA P d) (denL σ xs) (denL σ ys) fs = some (allEq σ l)
  | [], l, h => by simp only [prFs] at h; cases h; rfl
  | f :: fs, l, h => by
    simp only [prFs] at h
    simp only [eqFs]
    split at h
    · rename_i hf
      rw [if_pos hf]
      split at h
      · rename_i a b ha hb
        rw [partA_denL P σ ha, partA_denL P σ hb]
        split at h
        · rename_i r s hr hs
          cases h
          simp only [ih _ _ _ _ hr, prFs_den ih xs ys fs s hs]
          simp [allEq, List.all_append]
        · cases h
      · cases h
    · rename_i hf
      rw [if_neg hf]
      exact prFs_den ih xs ys fs l h

theorem prIs_den {P : Program} {σ : Sig} {d : Nat} (ih : ∀ t x y l, pairsA P d t x y = some l → eqA P d t (denD σ x) (denD σ y) = some (allEq σ l)) (e : TypeId) (c : Nat) (xs ys : List AVal) :
    ∀ (is : List Nat) (l : List (AVal × AVal)), prIs (partA P) (pairsA P d) e c xs ys is = some l → eqIs (partA P) (eqA P d) e c (denL σ xs) (denL σ ys) is = some (allEq σ l)
  | [], l, h => by simp only [prIs] at h; cases h; rfl
  | i :: is, l, h => by
    simp only [prIs] at h
    simp only [eqIs]
    split at h
    · rename_i a b ha hb
      rw [partA_denL P σ ha, partA_denL P σ hb]
      split at h
      · rename_i r s hr hs
        cases h
        simp only [ih _ _ _ _ hr, prIs_den ih e c xs ys is s hs]
        simp [allEq, List.all_append]
      · cases h
    · cases h

theorem pairsA_den {P : Program} {σ : Sig} : ∀ (d : Nat) (t : TypeId) (x y : AVal) (l : List (AVal × AVal)), pairsA P d t x y = some l → eqA P d t (denD σ x) (denD σ y) = some (allEq σ l)
  | 0, _, _, _, _, h => by simp [pairsA] at h
  | d + 1, t, x, y, l, h => by
    simp only [pairsA] at h
    split at h
    · rename_i hu
      split at h
      · rename_i hb
        cases h
        cases x <;> simp only [isB, Bool.false_and, Bool.true_and, Bool.false_eq_true] at hb <;> cases y <;> simp only [Bool.false_eq_true] at hb <;> simp [eqA, hu, denD, allEq, eqS, den]
      · cases h
    · rename_i k hu
      split at h
      · rename_i k1 k2 h1 h2
        split at h
        · rename_i hk
          subst hk
          cases h
          cases x <;> simp only [kindI] at h1 <;> first | (cases h1; done) | skip
          all_goals (cases y <;> simp only [kindI] at h2 <;> first | (cases h2; done) | skip)
          all_goals (simp only [Option.some.injEq] at h1 h2; subst h1; subst h2; simp [eqA, hu, denD, allEq, eqS, den])
        · cases h
      · cases h
    · rename_i hu
      split at h
      · rename_i hb
        cases h
        cases x <;> simp only [isT, Bool.false_and, Bool.true_and, Bool.false_eq_true] at hb <;> cases y <;> simp only [Bool.false_eq_true] at hb <;> simp [eqA, hu, denD, allEq, eqS, den]
      · cases h
    · rename_i fs hu
      split at h
      · rename_i xs ys
        split at h
        · rename_i hs
          simp only [denD, eqA, hu, if_pos hs]
          exact prFs_den (pairsA_den d) xs ys _ l h
        · cases h
      · cases h
    · rename_i n e hu
      split at h
      · rename_i xs ys
        split at h
        · rename_i inf hi
          simp only [denD, eqA, hu, hi]
          exact prIs_den (pairsA_den d) e _ xs ys _ l h
        · cases h
      · cases h
    · cases h

def pairNow (a b : AVal) : Option Bool :=
  match a, b with
  | .int _ a, .int _ b => some (a == b)
  | .bool a, .bool b => some (a == b)
  | .str a, .str b => some (a.toList == b.toList)
  | a, b => match sameS a b with
    | true => some true
    | false => none

/-- The pairs that are not sure to be alike; nothing, if some are sure not to be. -/
def simpP : List (AVal × AVal) → Option (List (AVal × AVal))
  | [] => some []
  | p :: l => match pairNow p.1 p.2 with
    | some true => simpP l
    | some false => none
    | none => match simpP l with
      | some r => some (p :: r)
      | none => none

theorem pairNow_den {σ : Sig} {a b : AVal} {r : Bool} (h : pairNow a b = some r) : eqS (den σ a) (den σ b) = r := by
  unfold pairNow at h
  split at h
  · cases h; rfl
  · cases h; rfl
  · cases h; rfl
  · split at h
    · rename_i hs
      cases h
      unfold sameS at hs
      split at hs
      · simp only [Bool.and_eq_true, decide_eq_true_eq, beq_iff_eq] at hs
        obtain ⟨rfl, rfl⟩ := hs
        simp [den, eqS]
      · simp only [beq_iff_eq] at hs; subst hs; simp [den, eqS]
      · simp only [beq_iff_eq] at hs; subst hs; simp [den, eqS]
      · cases hs
    · cases h

theorem simpP_den (σ : Sig) : ∀ (l : List (AVal × AVal)), allEq σ l = match simpP l with
    | some r => allEq σ r
    | none => false
  | [] => rfl
  | p :: l => by
    have ih := simpP_den σ l
    have e : allEq σ (p :: l) = (eqS (den σ p.1) (den σ p.2) && allEq σ l) := by simp [allEq]
    rw [e]
    simp only [simpP]
    cases h : pairNow p.1 p.2 with
    | some r =>
      rw [pairNow_den h]
      cases r with
      | true => simpa using ih
      | false => rfl
    | none =>
      simp only
      cases hs : simpP l with
      | some r =>
        rw [hs] at ih
        simp only at ih ⊢
        rw [ih]
        simp [allEq]
      | none =>
        rw [hs] at ih
        simp only at ih ⊢
        rw [ih]
        simp

def symEq (P : Program) (ng : Cx) (t : TypeId) (a b : AVal) : Option AVal :=
  match pairsA P 10000 t a b with
  | some l => match simpP l with
    | some r => match r with
      | [] => some (.bool true)
      | p :: q => symS ng (.all (p :: q))
    | none => some (.bool false)
  | none => none

def notU (ng : Cx) : Option AVal → Option AVal
  | some (.bool b) => some (.bool !b)
  | some (.symb i) => symS ng (.un .not (.symb i))
  | _ => none

theorem symEq_eval {P : Program} {ng : Cx} {g : Inj} (hg : ng.Good g.sig) {t : TypeId} {a b r : AVal} (h : symEq P ng t a b = some r) :
    ∃ q, eqA P 10000 t (denD g.sig a) (denD g.sig b) = some q ∧ ∀ v, VRel g (.bool q) v → VRel g r v := by
  unfold symEq at h
  split at h
  · rename_i l hl
    refine ⟨_, pairsA_den (σ := g.sig) _ _ _ _ _ hl, ?_⟩
    rw [simpP_den]
    split at h
    · rename_i r' hr
      split at h
      · cases h; intro v hv; exact hv
      · rename_i p q
        obtain ⟨q', h1, h2⟩ := symS_sound hg h
        simp only [evalS, Option.some.injEq] at h1
        subst h1
        intro v hv
        exact h2 v hv
    · rename_i hr
      cases h; intro v hv; exact hv
  · cases h

theorem notU_eval {ng : Cx} {g : Inj} (hg : ng.Good g.sig) {o : Option AVal} {r : AVal} (h : notU ng o = some r) : ∃ a, o = some a ∧ ∀ (q : Bool), (∀ v, VRel g (.bool q) v → VRel g a v) → ∀ v, VRel g (.bool !q) v → VRel g r v := by
  unfold notU at h
  split at h
  · rename_i b
    cases h
    refine ⟨_, rfl, fun q hq v hv => ?_⟩
    have := hq _ (.bool q)
    cases this
    exact hv
  · rename_i i
    refine ⟨_, rfl, fun q hq v hv => ?_⟩
    obtain ⟨q', h1, h2⟩ := symS_sound hg h
    simp only [evalS, den, unA, Option.some.injEq] at h1
    subst h1
    apply h2
    generalize hw : Value.bool q = w
    have := hq _ (.bool q)
    rw [hw] at this
    cases this
    cases hw
    exact hv
  · cases h

/-- '==' and '!=' of values that are put together, where some parts are unknown -/
def aggU (P : Program) (ng : Cx) (op : BinOp) (t : TypeId) (a b : AVal) : Option AVal :=
  match a, b with
  | .agg _, .agg _ => match op with
    | .eql => symEq P ng t a b
    | .neq => notU ng (symEq P ng t a b)
    | _ => none
  | _, _ => none

theorem run_aggU {P : Program} {ng : Cx} {g : Inj} (w : World) (hg : ng.Good g.sig) {op : BinOp} {t : TypeId} {a b r : AVal} {u v : Value} (h : aggU P ng op t a b = some r) (ha : VRel g a u) (hb : VRel g b v) :
    ∃ x, (binOp op t u v).run P w = .ok x w ∧ VRel g r x := by
  unfold aggU at h
  split at h
  · rename_i l l'
    have hh := binOp_eql_other (t := t) ha hb rfl (by simp) (by simp) (by simp)
    split at h
    · obtain ⟨q, h1, h2⟩ := symEq_eval hg h
      have := run_eqA w _ _ _ _ _ _ _ h1 ha.denD hb.denD
      exact ⟨.bool q, by rw [hh.1]; simp [Op.equal, Op.maxDepth, this], h2 _ (.bool q)⟩
    · obtain ⟨a', h0, h3⟩ := notU_eval hg h
      obtain ⟨q, h1, h2⟩ := symEq_eval hg h0
      have := run_eqA w _ _ _ _ _ _ _ h1 ha.denD hb.denD
      exact ⟨.bool (!q), by rw [hh.2]; simp [Op.equal, Op.maxDepth, this], h3 q h2 _ (.bool _)⟩
    · cases h
  · cases h

theorem run_guardA {P : Program} {g : Inj} (w : World) {op : BinOp} {t : TypeId} {x y : Operand} {a b : AVal} {u v : Value} (h : guardA P op t x y a b = true) (ha : VRel g a u) (hb : VRel g b v) :
    (eqGuard op t x y u v).run P w = .ok () w := by
  by_cases hop : op = .eql ∨ op = .neq
  · unfold guardA at h
    have h' : guardV P t x y a b = true := by rcases hop with rfl | rfl <;> exact h
    clear h
    unfold guardV at h'
    cases ha <;> cases hb <;> first
      | (exact absurd h' Bool.false_ne_true)
      | (rcases hop with rfl | rfl <;> rfl)
      | (simp only [Bool.or_eq_true] at h'
         rcases h' with h' | h'
         · cases x <;> first | (simp [isC] at h'; done) | (rcases hop with rfl | rfl <;> rfl)
         · cases y <;> first | (simp [isC] at h'; done) | (cases x <;> (rcases hop with rfl | rfl <;> rfl)))
      | (simp only [Bool.not_eq_true'] at h'; exact run_eqGuard_agg w op t x y _ _ h')
  · have : eqGuard op t x y u v = pure () := by
      cases op <;> first | rfl | (exfalso; exact hop (.inl rfl)) | (exfalso; exact hop (.inr rfl))
    rw [this]; rfl

end Go.Ev
