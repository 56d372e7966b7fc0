/- The operations that touch no memory. -/
import Derived.Test.YtbflcpaebifcfaaEvB
namespace Go.Ev

def intA (op : BinOp) (k : IntKind) (a : Int) (k' : IntKind) (b : Int) : Option AVal :=
  match op with
  | .shl => if b < 0 then none else some (.int k (k.wrap (a * 2 ^ (min b.toNat k.bits))))
  | .shr => if b < 0 then none else some (.int k (a.fdiv (2 ^ (min b.toNat k.bits))))
  | _ => if k = k' then
    match op with
    | .add => some (.int k (k.wrap (a + b)))
    | .sub => some (.int k (k.wrap (a - b)))
    | .mul => some (.int k (k.wrap (a * b)))
    | .quo => if b = 0 then none else some (.int k (k.wrap (a.tdiv b)))
    | .rem => if b = 0 then none else some (.int k (a.tmod b))
    | .and => some (.int k (k.wrap (BitVec.ofInt k.bits a &&& BitVec.ofInt k.bits b).toNat))
    | .or => some (.int k (k.wrap (BitVec.ofInt k.bits a ||| BitVec.ofInt k.bits b).toNat))
    | .xor => some (.int k (k.wrap (BitVec.ofInt k.bits a ^^^ BitVec.ofInt k.bits b).toNat))
    | .andNot => some (.int k (k.wrap (BitVec.ofInt k.bits a &&& ~~~BitVec.ofInt k.bits b).toNat))
    | .eql => some (.bool (a == b))
    | .neq => some (.bool (a != b))
    | .lss => some (.bool (decide (a < b)))
    | .leq => some (.bool (decide (a ≤ b)))
    | .gtr => some (.bool (decide (a > b)))
    | .geq => some (.bool (decide (a ≥ b)))
    | _ => none
    else none

def strA (op : BinOp) (x y : ByteArray) : Option AVal :=
  match op with
  | .add => if x.size + y.size ≤ 9223372036854775807 then some (.str (x ++ y)) else none
  | .eql => some (.bool (x.toList == y.toList))
  | .neq => some (.bool (!(x.toList == y.toList)))
  | .lss => some (.bool (Op.bytesLess x.toList y.toList))
  | .leq => some (.bool (Op.bytesLess x.toList y.toList || x.toList == y.toList))
  | .gtr => some (.bool (!(Op.bytesLess x.toList y.toList || x.toList == y.toList)))
  | .geq => some (.bool (!Op.bytesLess x.toList y.toList))
  | _ => none

def isC : Operand → Bool
  | .const _ => true
  | _ => false

def guardV (P : Program) (t : TypeId) (x y : Operand) (a b : AVal) : Bool :=
  match a, b with
  | .niliface, .niliface => isC x || isC y
  | .agg _, .agg _ => !P.eqGuardType P.depth t
  | _, _ => true

def guardA (P : Program) (op : BinOp) (t : TypeId) (x y : Operand) (a b : AVal) : Bool :=
  match op with
  | .eql | .neq => guardV P t x y a b
  | _ => true

def binA (P : Program) (op : BinOp) (t : TypeId) (a b : AVal) : Option AVal :=
  match a, b with
  | .int k a, .int k' b => intA op k a k' b
  | .str a, .str b => strA op a b
  | .float _ _, _ => none
  | a, b => match op with
    | .eql => match eqA P 10000 t a b with
      | some r => some (.bool r)
      | none => none
    | .neq => match eqA P 10000 t a b with
      | some r => some (.bool (!r))
      | none => none
    | _ => none

theorem run_intA {P : Program} {g : Inj} (w : World) {op : BinOp} {t : TypeId} {k k' : IntKind} {a b : Int} {r : AVal} (h : intA op k a k' b = some r) :
    ∃ v, (binOp op t (.int k a) (.int k' b)).run P w = .ok v w ∧ VRel g r v := by
  unfold intA at h
  split at h
  · split at h
    · cases h
    · cases h; exact ⟨_, by simp [binOp, Op.shift, *], .int _ _⟩
  · split at h
    · cases h
    · cases h; exact ⟨_, by simp [binOp, Op.shift, *], .int _ _⟩
  · rename_i hn1 hn2
    split at h
    · rename_i hk
      subst hk
      have e1 : ∀ x y, Op.intArith op x y = Op.intArith op x y := fun _ _ => rfl
      split at h
      · cases h; exact ⟨_, by simp [binOp, Op.intArith], .int _ _⟩
      · cases h; exact ⟨_, by simp [binOp, Op.intArith], .int _ _⟩
      · cases h; exact ⟨_, by simp [binOp, Op.intArith], .int _ _⟩
      · split at h
        · cases h
        · cases h; exact ⟨_, by simp [binOp, Op.intDiv, *], .int _ _⟩
      · split at h
        · cases h
        · cases h; exact ⟨_, by simp [binOp, Op.intDiv, *], .int _ _⟩
      · cases h; exact ⟨_, by simp [binOp, Op.intBits], .int _ _⟩
      · cases h; exact ⟨_, by simp [binOp, Op.intBits], .int _ _⟩
      · cases h; exact ⟨_, by simp [binOp, Op.intBits], .int _ _⟩
      · cases h; exact ⟨_, by simp [binOp, Op.intBits], .int _ _⟩
      · cases h; exact ⟨_, by simp [binOp, Op.intCmp], .bool _⟩
      · cases h; exact ⟨_, by simp [binOp, Op.intCmp], .bool _⟩
      · cases h; exact ⟨_, by simp [binOp, Op.intCmp], .bool _⟩
      · cases h; exact ⟨_, by simp [binOp, Op.intCmp], .bool _⟩
      · cases h; exact ⟨_, by simp [binOp, Op.intCmp], .bool _⟩
      · cases h; exact ⟨_, by simp [binOp, Op.intCmp], .bool _⟩
      · cases h
    · cases h

theorem run_strA {P : Program} {g : Inj} (w : World) {op : BinOp} {t : TypeId} {a b : ByteArray} {r : AVal} (h : strA op a b = some r) :
    ∃ v, (binOp op t (.string a) (.string b)).run P w = .ok v w ∧ VRel g r v := by
  unfold strA at h
  split at h
  · split at h
    · rename_i hle
      cases h
      have : ¬ (9223372036854775807 < ((a.size : Int) + (b.size : Int))) := by omega
      exact ⟨_, by simp [binOp, Op.stringOp, this], .str _⟩
    · cases h
  · cases h; exact ⟨_, by simp [binOp, Op.stringOp], .bool _⟩
  · cases h; exact ⟨_, by simp [binOp, Op.stringOp], .bool _⟩
  · cases h; exact ⟨_, by simp [binOp, Op.stringOp], .bool _⟩
  · cases h; exact ⟨_, by simp [binOp, Op.stringOp], .bool _⟩
  · cases h; exact ⟨_, by simp [binOp, Op.stringOp], .bool _⟩
  · cases h; exact ⟨_, by simp [binOp, Op.stringOp], .bool _⟩
  · cases h

theorem binOp_eql_other {t : TypeId} {a b : AVal} {u v : Value} {g : Inj} (ha : VRel g a u) (hb : VRel g b v)
    (h1 : ∀ k x k' y, ¬ (a = .int k x ∧ b = .int k' y)) (h2 : ∀ x y, ¬ (a = .str x ∧ b = .str y)) (h3 : ∀ k x, a ≠ .float k x) :
    binOp .eql t u v = (do pure (.bool (← Op.equal t u v))) ∧ binOp .neq t u v = (do pure (.bool (!(← Op.equal t u v)))) := by
  cases ha <;> cases hb <;> first | exact ⟨rfl, rfl⟩ | (exfalso; first | exact h1 _ _ _ _ ⟨rfl, rfl⟩ | exact h2 _ _ ⟨rfl, rfl⟩ | exact h3 _ _ rfl)

theorem run_binA {P : Program} {g : Inj} (w : World) {op : BinOp} {t : TypeId} {a b r : AVal} {u v : Value} (h : binA P op t a b = some r) (ha : VRel g a u) (hb : VRel g b v) :
    ∃ x, (binOp op t u v).run P w = .ok x w ∧ VRel g r x := by
  unfold binA at h
  split at h
  · cases ha; cases hb; exact run_intA w h
  · cases ha; cases hb; exact run_strA w h
  · cases h
  · rename_i n3 n1 n2
    have hh := binOp_eql_other (t := t) ha hb (fun k x k' y e => n1 k x k' y e.1 e.2) (fun x y e => n2 x y e.1 e.2) (fun k x e => n3 k x e)
    split at h
    · split at h
      · rename_i r' hr
        cases h
        have := run_eqA w _ _ _ _ _ _ _ hr ha hb
        exact ⟨.bool r', by rw [hh.1]; simp [Op.equal, Op.maxDepth, this], .bool _⟩
      · cases h
    · split at h
      · rename_i r' hr
        cases h
        have := run_eqA w _ _ _ _ _ _ _ hr ha hb
        exact ⟨.bool (!r'), by rw [hh.2]; simp [Op.equal, Op.maxDepth, this], .bool _⟩
      · cases h
    · cases h

theorem run_guardA {P : Program} {g : Inj} (w : World) {op : BinOp} {t : TypeId} {x y : Operand} {a b : AVal} {u v : Value} (h : guardA P op t x y a b = true) (ha : VRel g a u) (hb : VRel g b v) :
    (eqGuard op t x y u v).run P w = .ok () w := by
  by_cases hop : op = .eql ∨ op = .neq
  · unfold guardA at h
    have h' : guardV P t x y a b = true := by rcases hop with rfl | rfl <;> exact h
    clear h
    unfold guardV at h'
    cases ha <;> cases hb <;> first
      | (rcases hop with rfl | rfl <;> rfl)
      | (simp only [Bool.or_eq_true] at h'
         rcases h' with h' | h'
         · cases x <;> first | (simp [isC] at h'; done) | (rcases hop with rfl | rfl <;> rfl)
         · cases y <;> first | (simp [isC] at h'; done) | (cases x <;> (rcases hop with rfl | rfl <;> rfl)))
      | (simp only [Bool.not_eq_true'] at h'; exact run_eqGuard_agg w op t x y _ _ h')
  · have : eqGuard op t x y u v = pure () := by
      cases op <;> first | rfl | (exfalso; exact hop (.inl rfl)) | (exfalso; exact hop (.inr rfl))
    rw [this]; rfl

end Go.Ev
