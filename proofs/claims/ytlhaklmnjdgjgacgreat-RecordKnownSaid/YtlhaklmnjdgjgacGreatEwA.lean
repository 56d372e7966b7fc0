/- The abstract values, blocks and heaps of the evaluator, and how they stand for the model's. -/
import Derived.Orders
import Derived.Eval
import Derived.Laws.CopyOwn
import Derived.Laws.Slices
import Derived.Laws.StructEq
import Derived.Laws.Build
import Derived.Laws.MakeOwn
import Derived.Laws.IdiomStrings
import Derived.Great.BuildSlice
import Derived.ChangeKeysEq
import Derived.MapKept
import Derived.OrdersIn
import Derived.TacticsIn
import Derived.LoopNIn
import Derived.RangeFuncLeaves
import Derived.Stop.Asserts
import Derived.RecoverIn
import Derived.Maps.RangeRun
namespace Go.Ev
set_option linter.unusedVariables false
set_option linter.unusedSimpArgs false
set_option linter.unnecessarySimpa false

/-- A value whose addresses are numbers of abstract blocks. -/
inductive AVal where
  | bool (b : Bool)
  | int (k : IntKind) (n : Int)
  | float (k : FloatKind) (b : Nat)
  | str (s : ByteArray)
  | nilptr
  | ptr (b off : Nat)
  | nilslice
  | slice (b off len cap : Nat) (ex : Option Nat)      -- none: 'cap' is the capacity; some z: it is no less, of elements of z cells
  | nilmap
  | map (b : Nat)
  | nilfunc
  | func (fn : Fn) (first captured : List AVal)
  | niliface
  | iface (t : TypeId) (v : AVal)
  | agg (l : List AVal)
  | tuple (l : List AVal)
  | symi (k : IntKind) (i : Nat)      -- an unknown number, truth, string: the i-th
  | symb (i : Nat)
  | syms (i : Nat)
  | row (i : Nat)      -- a slice that came in: all of the i-th row
  | rptr (i : Nat) (ix : AVal) (j : Nat)      -- a pointer into it: element ix, cell j
  | yield (b : Nat)      -- what a range over a function hands to it: the loop's block
  | junk      -- a cell of which nothing is known
  | geq (n : Nat)      -- a capacity that is no less

instance : Inhabited AVal := ⟨.nilptr⟩


/-! ### Unknowns -/

/-- A row of memory that came in, and is read only: where it lies, its elements. -/
structure Fz where
  blk : Nat
  off : Nat
  z : Nat
  len : Nat
  val : Nat → Nat → AVal
  obj : Option Obj := none      -- the whole block, where that is known

/-- What the unknowns are. -/
structure Sig where
  ival : Nat → Int
  bval : Nat → Bool
  sval : Nat → ByteArray
  tab : Nat → List Int → Int := fun _ _ => 0
  ext : Nat → Option Fz := fun _ => none

def den (σ : Sig) : AVal → AVal
  | .symi k i => .int k (σ.ival i)
  | .symb i => .bool (σ.bval i)
  | .syms i => .str (σ.sval i)
  | a => a

def intA (op : BinOp) (k : IntKind) (a : Int) (k' : IntKind) (b : Int) : Option AVal :=
  match op with
  | .shl => if b < 0 then none else some (.int k (k.wrap (a * 2 ^ (min b.toNat k.bits))))
  | .shr => if b < 0 then none else some (.int k (a.fdiv (2 ^ (min b.toNat k.bits))))
  | _ => if k = k' then
    match op with
    | .add => some (.int k (k.wrap (a + b)))
    | .sub => some (.int k (k.wrap (a - b)))
    | .mul => some (.int k (k.wrap (a * b)))
    | .quo => if b = 0 then none else some (.int k (k.wrap (a.tdiv b)))
    | .rem => if b = 0 then none else some (.int k (a.tmod b))
    | .and => some (.int k (k.wrap (BitVec.ofInt k.bits a &&& BitVec.ofInt k.bits b).toNat))
    | .or => some (.int k (k.wrap (BitVec.ofInt k.bits a ||| BitVec.ofInt k.bits b).toNat))
    | .xor => some (.int k (k.wrap (BitVec.ofInt k.bits a ^^^ BitVec.ofInt k.bits b).toNat))
    | .andNot => some (.int k (k.wrap (BitVec.ofInt k.bits a &&& ~~~BitVec.ofInt k.bits b).toNat))
    | .eql => some (.bool (a == b))
    | .neq => some (.bool (a != b))
    | .lss => some (.bool (decide (a < b)))
    | .leq => some (.bool (decide (a ≤ b)))
    | .gtr => some (.bool (decide (a > b)))
    | .geq => some (.bool (decide (a ≥ b)))
    | _ => none
    else none

def strA (op : BinOp) (x y : ByteArray) : Option AVal :=
  match op with
  | .add => if x.size + y.size ≤ 9223372036854775807 then some (.str (x ++ y)) else none
  | .eql => some (.bool (x.toList == y.toList))
  | .neq => some (.bool (!(x.toList == y.toList)))
  | .lss => some (.bool (Op.bytesLess x.toList y.toList))
  | .leq => some (.bool (Op.bytesLess x.toList y.toList || x.toList == y.toList))
  | .gtr => some (.bool (!(Op.bytesLess x.toList y.toList || x.toList == y.toList)))
  | .geq => some (.bool (!Op.bytesLess x.toList y.toList))
  | _ => none

def unA (op : UnOp) (x : AVal) : Option AVal :=
  match op, x with
  | .not, .bool b => some (.bool !b)
  | .neg, .int k n => some (.int k (k.wrap (0 - n)))
  | .xor, .int k n => some (.int k (k.wrap (BitVec.ofInt k.bits (if k.signed then -1 else k.max) ^^^ BitVec.ofInt k.bits n).toNat))
  | _, _ => none

def minA (l : List AVal) : Option AVal :=
  match l with
  | [.int k x, .int _ y] => some (.int k (if y < x then y else x))
  | [.int k x, .int _ y, .int _ z] => some (.int k (if z < (if y < x then y else x) then z else (if y < x then y else x)))
  | _ => none

def maxA (l : List AVal) : Option AVal :=
  match l with
  | [.int k x, .int _ y] => some (.int k (if y > x then y else x))
  | [.int k x, .int _ y, .int _ z] => some (.int k (if z > (if y > x then y else x) then z else (if y > x then y else x)))
  | _ => none

def binS (op : BinOp) (a b : AVal) : Option AVal :=
  match a, b with
  | .int k a, .int k' b => intA op k a k' b
  | .str a, .str b => strA op a b
  | .bool a, .bool b => match op with
    | .eql => some (.bool (a == b))
    | .neq => some (.bool (!(a == b)))
    | _ => none
  | _, _ => none

def convS (k : IntKind) : AVal → Option AVal
  | .int _ n => some (.int k (k.wrap n))
  | _ => none

def eqS : AVal → AVal → Bool
  | .int _ a, .int _ b => a == b
  | .bool a, .bool b => a == b
  | .str a, .str b => a.toList == b.toList
  | _, _ => false

def byteS : AVal → UInt8
  | .int _ n => UInt8.ofNat n.toNat
  | _ => 0

/-- Operations on strings: how long; a byte; a piece; one behind the other. -/
inductive SOp where
  | len | at | sub | cat
  deriving DecidableEq

def sopA (o : SOp) (l : List AVal) : Option AVal :=
  match o with
  | .len => match l with
    | [.str s] => some (.int .i64 s.size)
    | _ => none
  | .at => match l with
    | [.str s, .int _ n] => some (.int .u8 ((s.data.toList.getD n.toNat 0).toNat : Nat))
    | _ => none
  | .sub => match l with
    | [.str s, .int _ a, .int _ b] => some (.str (s.extract a.toNat b.toNat))
    | _ => none
  | .cat => match l with
    | [.str s, .str t] => some (.str (s ++ t))
    | _ => none

/-- An operation on values of which some are unknown. -/
inductive SDef where
  | bin (op : BinOp) (a b : AVal)
  | un (op : UnOp) (a : AVal)
  | conv (k : IntKind) (a : AVal)
  | low (l : List AVal)
  | high (l : List AVal)
  | all (l : List (AVal × AVal))
  | text (l : List AVal)
  | fn (id : Nat) (k : IntKind) (l : List AVal)      -- a function of numbers, by its number
  | fnb (id : Nat) (l : List AVal)      -- one that gives a truth
  | ite (c a b : AVal)
  | sel (l : List AVal) (ix : AVal)
  | sop (o : SOp) (l : List AVal)

def numS : AVal → Int
  | .int _ n => n
  | .bool b => if b then 1 else 0
  | _ => 0

def evalS (σ : Sig) : SDef → Option AVal
  | .bin op a b => binS op (den σ a) (den σ b)
  | .un op a => unA op (den σ a)
  | .conv k a => convS k (den σ a)
  | .low l => minA (l.map (den σ))
  | .high l => maxA (l.map (den σ))
  | .all l => some (.bool (l.all fun x => eqS (den σ x.1) (den σ x.2)))
  | .text l => some (.str ⟨(l.map fun a => byteS (den σ a)).toArray⟩)
  | .fn id k l => some (.int k (k.wrap (σ.tab id (l.map fun a => numS (den σ a)))))
  | .fnb id l => some (.bool (!(σ.tab id (l.map fun a => numS (den σ a)) == 0)))
  | .ite c a b => match den σ c with
    | .bool x => some (bif x then den σ a else den σ b)
    | _ => none
  | .sel l ix => match den σ ix with
    | .int _ n => match l with
      | a :: r => some (den σ ((a :: r).getD n.toNat a))
      | [] => none
    | _ => none
  | .sop o l => sopA o (l.map (den σ))

def likeS (a : AVal) (i : Nat) : AVal :=
  match a with
  | .int k _ => .symi k i
  | .symi k _ => .symi k i
  | .bool _ => .symb i
  | .symb _ => .symb i
  | _ => .syms i

/-- of which kind the unknown is that an operation gives -/
def resS (d : SDef) (i : Nat) : AVal :=
  match d with
  | .bin op a _ => match op with
    | .eql | .neq | .lss | .leq | .gtr | .geq => .symb i
    | _ => likeS a i
  | .un _ a => likeS a i
  | .conv k _ => .symi k i
  | .low l => match l with
    | a :: _ => likeS a i
    | [] => .symb i
  | .high l => match l with
    | a :: _ => likeS a i
    | [] => .symb i
  | .all _ => .symb i
  | .text _ => .syms i
  | .fn _ k _ => .symi k i
  | .fnb _ _ => .symb i
  | .ite _ a _ => likeS a i
  | .sel l _ => match l with
    | a :: _ => likeS a i
    | [] => .symb i
  | .sop o _ => match o with
    | .len => .symi .i64 i
    | .at => .symi .u8 i
    | _ => .syms i

/-- Temporaries, as a tree: 0 at the root, odd ones left, even ones right. -/
inductive TT where
  | e
  | n (l : TT) (v : Option AVal) (r : TT)
  | al (l : List (Nat × AVal))

def alGet : List (Nat × AVal) → Nat → Option AVal
  | [], _ => none
  | x :: l, i => match Nat.beq x.1 i with
    | true => some x.2
    | false => alGet l i

def TT.get : TT → Nat → Option AVal
  | .e, _ => none
  | .al l, i => alGet l i
  | .n l v r, i => match i with
    | 0 => v
    | i + 1 => match Nat.beq (i % 2) 0 with
      | true => l.get (i / 2)
      | false => r.get (i / 2)

def TT.put : TT → Nat → AVal → TT
  | .e, _, _ => .e
  | .al l, i, v => .al ((i, v) :: l)
  | .n l w r, i, v => match i with
    | 0 => .n l (some v) r
    | i + 1 => match Nat.beq (i % 2) 0 with
      | true => .n (l.put (i / 2) v) w r
      | false => .n l w (r.put (i / 2) v)

/-- A deferred call: the mark of a range over a function, a call of a function value. -/
inductive ADef where
  | mark (b : Nat)
  | fn (fv : Fn) (cap args : List AVal)

structure Tm where
  len : Nat
  tr : TT
  df : List ADef := []

/-- A range over a function, as its block holds it. -/
structure LoopA where
  st : LoopState
  pend : Option Code
  t : Tm
  params : Array Tmp
  assign : Code
  body : Code
  dfr : Nat

inductive Blk where
  | cells (c : List AVal) (e : TypeId)
  | map (l : List (AVal × AVal))
  | gone
  | loop (l : LoopA)
  | dfr
  | iter (x : Nat) (l : List (AVal × AVal)) (cur : Option (AVal × AVal))      -- a range over a map: what is left, what was handed out last

instance : Inhabited Blk := ⟨.gone⟩

/-- Heap, and which blocks were written. -/
structure Hp where
  heap : List Blk
  log : List Nat

/-- What is fixed all along: how many globals there are; which unknown an operation gives; what is taken of unknown truths. -/
structure Cx where
  n : Nat
  look : SDef → Option Nat
  fact : Nat → Option Bool
  num : Nat → Option Int := fun _ => none
  hook : FuncId → List AVal → Option AVal := fun _ _ => none
  tab : Nat → List Int → Int := fun _ _ => 0
  rlen : Nat → Option AVal := fun _ => none      -- a row's length
  rat : Nat → AVal → Option (List AVal) := fun _ _ => none      -- a row's element
  rcut : Nat → AVal → Option Nat := fun _ _ => none      -- a row's beginning, as a row
  kd : Nat → Option IntKind := fun _ => none      -- of which kind a number is, and within it
  mhook : FuncId → List AVal → Hp → Option (AVal × Hp) := fun _ _ _ => none      -- calls known ahead that touch memory
  sdf : Nat → Option SDef := fun _ => none      -- which operation an unknown string is
  atoms : List (Nat × Bool) := []      -- sync/atomic.AddUint64 (true), LoadUint64 (false)
  insf : Option (Nat × Nat) := none      -- slices.Insert (a call with an open capacity is reckoned twice), slices.overlaps
  ok : Sig → Prop := fun _ => True      -- what is taken of the unknowns

/-- The unknowns are what the operations give, and the truths as they are taken. -/
structure Cx.Good (ng : Cx) (σ : Sig) : Prop where
  look : ∀ d i, ng.look d = some i → evalS σ d = some (den σ (resS d i))
  fact : ∀ i b, ng.fact i = some b → σ.bval i = b
  num : ∀ i n, ng.num i = some n → σ.ival i = n
  tab : σ.tab = ng.tab
  rlen : ∀ i a X, ng.rlen i = some a → σ.ext i = some X → den σ a = .int .i64 X.len
  rat : ∀ i a cs X, ng.rat i a = some cs → σ.ext i = some X → ∃ m : Nat, den σ a = .int .i64 m ∧ m < X.len ∧ cs.length = X.z ∧ ∀ (j : Nat) (c : AVal), cs[j]? = some c → den σ c = X.val m j
  rcut : ∀ i a k X, ng.rcut i a = some k → σ.ext i = some X → ∃ Y, σ.ext k = some Y ∧ Y.blk = X.blk ∧ Y.off = X.off ∧ Y.len ≤ X.len ∧ den σ a = .int .i64 Y.len
  kd : ∀ i k, ng.kd i = some k → k.wrap (σ.ival i) = σ.ival i
  sdf : ∀ i d, ng.sdf i = some d → evalS σ d = some (den σ (resS d i))
  ok : ng.ok σ

def symS (ng : Cx) (d : SDef) : Option AVal :=
  match ng.look d with
  | some i => match resS d i with
    | .symb j => match ng.fact j with
      | some b => some (.bool b)
      | none => some (.symb j)
    | .symi k j => match ng.num j with
      | some n => some (.int k n)
      | none => some (.symi k j)
    | r => some r
  | none => none

def Tm.get (t : Tm) (i : Nat) : Option AVal :=
  match t with
  | ⟨n, tr, _⟩ => match Nat.blt i n with
    | true => tr.get i
    | false => none

theorem TT.get_put : ∀ (t : TT) (d i : Nat) (v w : AVal), (t.put d v).get i = some w → (i = d ∧ w = v) ∨ (i ≠ d ∧ t.get i = some w)
  | .e, _, _, _, _, h => by simp [TT.put, TT.get] at h
  | .al l, d, i, v, w, h => by
    simp only [TT.put, TT.get, alGet] at h
    split at h
    · rename_i hb; cases h; exact .inl ⟨(Nat.eq_of_beq_eq_true hb).symm, rfl⟩
    · rename_i hb; exact .inr ⟨fun e => Nat.ne_of_beq_eq_false hb e.symm, h⟩
  | .n l u r, d, i, v, w, h => by
    cases d with
    | zero =>
      cases i with
      | zero => simp only [TT.put, TT.get, Option.some.injEq] at h; exact .inl ⟨rfl, h.symm⟩
      | succ i => simp only [TT.put, TT.get] at h ⊢; exact .inr ⟨by omega, h⟩
    | succ d =>
      cases i with
      | zero =>
        right
        simp only [TT.put] at h
        split at h <;> exact ⟨by omega, h⟩
      | succ i =>
        simp only [TT.put] at h
        cases hd : Nat.beq (d % 2) 0 with
        | true =>
          have hd2 := Nat.eq_of_beq_eq_true hd
          simp only [hd, TT.get] at h ⊢
          cases hi : Nat.beq (i % 2) 0 with
          | true =>
            have hi2 := Nat.eq_of_beq_eq_true hi
            simp only [hi] at h ⊢
            rcases TT.get_put l (d / 2) (i / 2) v w h with ⟨h1, h2⟩ | ⟨h1, h2⟩
            · exact .inl ⟨by omega, h2⟩
            · exact .inr ⟨by omega, h2⟩
          | false =>
            have hi2 := Nat.ne_of_beq_eq_false hi
            simp only [hi] at h ⊢
            exact .inr ⟨by omega, h⟩
        | false =>
          have hd2 := Nat.ne_of_beq_eq_false hd
          simp only [hd, TT.get] at h ⊢
          cases hi : Nat.beq (i % 2) 0 with
          | true =>
            have hi2 := Nat.eq_of_beq_eq_true hi
            simp only [hi] at h ⊢
            exact .inr ⟨by omega, h⟩
          | false =>
            have hi2 := Nat.ne_of_beq_eq_false hi
            simp only [hi] at h ⊢
            rcases TT.get_put r (d / 2) (i / 2) v w h with ⟨h1, h2⟩ | ⟨h1, h2⟩
            · exact .inl ⟨by omega, h2⟩
            · exact .inr ⟨by omega, h2⟩

theorem Tm.get_lt {t : Tm} {i : Nat} {v : AVal} (h : t.get i = some v) : i < t.len := by
  obtain ⟨n, tr⟩ := t
  simp only [Tm.get] at h
  split at h
  · rename_i hb; simpa using hb
  · cases h

theorem Tm.get_tr {t : Tm} {i : Nat} {v : AVal} (h : t.get i = some v) : t.tr.get i = some v := by
  obtain ⟨n, tr⟩ := t
  simp only [Tm.get] at h
  split at h
  · exact h
  · cases h

theorem Tm.get_of {t : Tm} {i : Nat} {v : AVal} (h : t.tr.get i = some v) (hi : i < t.len) : t.get i = some v := by
  obtain ⟨n, tr⟩ := t
  simp only [Tm.get]
  have : Nat.blt i n = true := by simpa using hi
  rw [this]
  exact h

/-- what a call starts with: its arguments; nothing in the others -/
def TT.mk (args : List AVal) (n : Nat) (d : AVal) : Nat → Nat → Nat → TT
  | 0, _, _ => .e
  | k + 1, o, s => match Nat.blt o n with
    | true => .n (TT.mk args n d k (o + s) (2 * s)) (some (args.getD o d)) (TT.mk args n d k (o + 2 * s) (2 * s))
    | false => .e

theorem TT.get_mk (args : List AVal) (n : Nat) (d : AVal) : ∀ (k o s i : Nat) (v : AVal), (TT.mk args n d k o s).get i = some v → v = args.getD (o + s * i) d
  | 0, _, _, _, _, h => by simp [TT.mk, TT.get] at h
  | k + 1, o, s, i, v, h => by
    simp only [TT.mk] at h
    split at h
    · cases i with
      | zero => simp only [TT.get, Option.some.injEq] at h; rw [← h]; simp
      | succ i =>
        simp only [TT.get] at h
        split at h
        · rename_i hi
          have hi2 := Nat.eq_of_beq_eq_true hi
          have := TT.get_mk args n d k _ _ _ _ h
          rw [this]; congr 1
          have : i = 2 * (i / 2) := by omega
          generalize i / 2 = q at this ⊢
          subst this
          rw [Nat.mul_add, Nat.mul_comm 2 s, Nat.mul_assoc]; omega
        · rename_i hi
          have hi2 := Nat.ne_of_beq_eq_false hi
          have := TT.get_mk args n d k _ _ _ _ h
          rw [this]; congr 1
          have : i = 2 * (i / 2) + 1 := by omega
          generalize i / 2 = q at this ⊢
          subst this
          rw [Nat.mul_add, Nat.mul_add, Nat.mul_comm 2 s, Nat.mul_assoc]; omega
    · simp [TT.get] at h

def undefA : AVal := .tuple []

def ofV0 : Value → Option AVal
  | .bool b => some (.bool b)
  | .int k n => some (.int k n)
  | .float k b => some (.float k b)
  | .string s => some (.str s)
  | .pointer none => some .nilptr
  | .slice none 0 0 => some .nilslice
  | .map none => some .nilmap
  | .nilFunc => some .nilfunc
  | .nilIface => some .niliface
  | .func fn ⟨[]⟩ ⟨[]⟩ => some (.func fn [] [])
  | _ => none

def ofVL : List Value → Option (List AVal)
  | [] => some []
  | v :: l => match ofV0 v with
    | some a => match ofVL l with
      | some r => some (a :: r)
      | none => none
    | none => none

def ofV : Value → Option AVal
  | .agg cs => match ofVL cs.toList with
    | some l => some (.agg l)
    | none => none
  | .tuple cs => match ofVL cs.toList with
    | some l => some (.tuple l)
    | none => none
  | .iface t v => match ofV0 v with
    | some a => some (.iface t a)
    | none => none
  | v => ofV0 v

/-- what is taken of an unknown -/
def factV (ng : Cx) : AVal → AVal
  | .symb j => match ng.fact j with
    | some b => .bool b
    | none => .symb j
  | .symi k j => match ng.num j with
    | some n => .int k n
    | none => .symi k j
  | v => v

def ev (ng : Cx) (t : Tm) : Operand → Option AVal
  | .tmp i => match t.get i with
    | some v => some (factV ng v)
    | none => none
  | .const v => ofV v
  | .global g => if g < ng.n then some (.ptr g 0) else none
  | .func f => some (.func (.func f) [] [])

def acells : AVal → List AVal
  | .agg l => l
  | v => [v]

def scalar : AVal → Bool
  | .agg _ | .tuple _ => false
  | _ => true

/-- Where an abstract block lies: the block, from which cell on, how many cells. -/
structure Loc where
  blk : Nat
  dl : Nat
  n : Nat

/-- A map that is ranged over, and that nothing writes any more: where it lies, its entries. -/
structure Fm where
  blk : Nat
  es : Array MapEntry
  cl : Nat

structure Inj where
  loc : Nat → Option Loc
  sig : Sig
  mp : Nat → Option Fm := fun _ => none

instance : CoeFun Inj (fun _ => Nat → Option Loc) := ⟨Inj.loc⟩

mutual
inductive VRel (g : Inj) : AVal → Value → Prop
  | bool (b : Bool) : VRel g (.bool b) (.bool b)
  | int (k : IntKind) (n : Int) : VRel g (.int k n) (.int k n)
  | float (k : FloatKind) (n : Nat) : VRel g (.float k n) (.float k n)
  | str (s : ByteArray) : VRel g (.str s) (.string s)
  | nilptr : VRel g .nilptr (.pointer none)
  | ptr (b off : Nat) (L : Loc) : g b = some L → VRel g (.ptr b off) (.pointer (some ⟨L.blk, L.dl + off, none⟩))
  | nilslice : VRel g .nilslice (.slice none 0 0)
  | slice (b off len cap : Nat) (ex : Option Nat) (o' cap' : Nat) (L : Loc) : g b = some L → (o' = off ∨ (len = 0 ∧ cap = 0 ∧ ex ≠ none)) → (ex = none → cap' = cap) →
      (∀ z, ex = some z → cap ≤ cap' ∧ o' + cap' * z ≤ L.n) → VRel g (.slice b off len cap ex) (.slice (some ⟨L.blk, L.dl + o', none⟩) len cap')
  | nilmap : VRel g .nilmap (.map none)
  | map (b : Nat) (L : Loc) : g b = some L → VRel g (.map b) (.map (some L.blk))
  | nilfunc : VRel g .nilfunc .nilFunc
  | func (fn : Fn) (f c : List AVal) (f' c' : Array Value) : LRel g f f'.toList → LRel g c c'.toList → VRel g (.func fn f c) (.func fn f' c')
  | niliface : VRel g .niliface .nilIface
  | iface (t : TypeId) (v : AVal) (v' : Value) : VRel g v v' → VRel g (.iface t v) (.iface t v')
  | agg (l : List AVal) (l' : Array Value) : LRel g l l'.toList → VRel g (.agg l) (.agg l')
  | tuple (l : List AVal) (l' : Array Value) : LRel g l l'.toList → VRel g (.tuple l) (.tuple l')
  | symi (k : IntKind) (i : Nat) : VRel g (.symi k i) (.int k (g.sig.ival i))
  | symb (i : Nat) : VRel g (.symb i) (.bool (g.sig.bval i))
  | syms (i : Nat) : VRel g (.syms i) (.string (g.sig.sval i))
  | row (i : Nat) (X : Fz) (ao : Option Addr) (cap : Nat) : g.sig.ext i = some X → X.len ≤ cap → (0 < X.len → ao = some ⟨X.blk, X.off, none⟩) → VRel g (.row i) (.slice ao X.len cap)
  | rptr (i : Nat) (ix : AVal) (j m : Nat) (X : Fz) : g.sig.ext i = some X → den g.sig ix = .int .i64 (m : Int) → m < X.len → VRel g (.rptr i ix j) (.pointer (some ⟨X.blk, X.off + m * X.z + j, none⟩))
  | yield (b : Nat) (L : Loc) : g b = some L → VRel g (.yield b) (.func (.yield L.blk) #[] #[])
  | junk (v : Value) : v.oneCell' = true → VRel g .junk v
  | geq (n m : Nat) : n ≤ m → VRel g (.geq n) (.int .i64 (m : Int))
inductive LRel (g : Inj) : List AVal → List Value → Prop
  | nil : LRel g [] []
  | cons (a : AVal) (v : Value) (l : List AVal) (m : List Value) : VRel g a v → LRel g l m → LRel g (a :: l) (v :: m)
end

structure Sub (g g' : Inj) : Prop where
  loc : ∀ i L, g i = some L → g' i = some L
  sig : g'.sig = g.sig
  mp : ∀ i X, g.mp i = some X → g'.mp i = some X

instance (g g' : Inj) : CoeFun (Sub g g') (fun _ => ∀ i L, g i = some L → g' i = some L) := ⟨Sub.loc⟩

theorem Sub.refl (g : Inj) : Sub g g := ⟨fun _ _ h => h, rfl, fun _ _ h => h⟩
theorem Sub.trans {a b c : Inj} (h : Sub a b) (h' : Sub b c) : Sub a c := ⟨fun i L hi => h' i L (h i L hi), h'.sig.trans h.sig, fun i X hi => h'.mp i X (h.mp i X hi)⟩

mutual
theorem VRel.mono {g g' : Inj} (hs : Sub g g') : ∀ {a : AVal} {v : Value}, VRel g a v → VRel g' a v
  | _, _, .bool b => .bool b
  | _, _, .int k n => .int k n
  | _, _, .float k n => .float k n
  | _, _, .str s => .str s
  | _, _, .nilptr => .nilptr
  | _, _, .ptr b off L h => .ptr b off L (hs _ _ h)
  | _, _, .nilslice => .nilslice
  | _, _, .slice b off len cap ex o' cap' L h h0 h1 h2 => .slice b off len cap ex o' cap' L (hs _ _ h) h0 h1 h2
  | _, _, .nilmap => .nilmap
  | _, _, .map b L h => .map b L (hs _ _ h)
  | _, _, .nilfunc => .nilfunc
  | _, _, .func fn f c f' c' h1 h2 => .func fn f c f' c' (LRel.mono hs h1) (LRel.mono hs h2)
  | _, _, .niliface => .niliface
  | _, _, .iface t v v' h => .iface t v v' (VRel.mono hs h)
  | _, _, .agg l l' h => .agg l l' (LRel.mono hs h)
  | _, _, .tuple l l' h => .tuple l l' (LRel.mono hs h)
  | _, _, .symi k i => by rw [← hs.sig]; exact .symi k i
  | _, _, .symb i => by rw [← hs.sig]; exact .symb i
  | _, _, .syms i => by rw [← hs.sig]; exact .syms i
  | _, _, .row i X ao cap h1 h2 h3 => .row i X ao cap (by rw [hs.sig]; exact h1) h2 h3
  | _, _, .rptr i ix j m X h1 h2 h3 => .rptr i ix j m X (by rw [hs.sig]; exact h1) (by rw [hs.sig]; exact h2) h3
  | _, _, .yield b L h => .yield b L (hs _ _ h)
  | _, _, .junk v h => .junk v h
  | _, _, .geq n m h => .geq n m h
theorem LRel.mono {g g' : Inj} (hs : Sub g g') : ∀ {a : List AVal} {v : List Value}, LRel g a v → LRel g' a v
  | _, _, .nil => .nil
  | _, _, .cons a v l m h h' => .cons a v l m (VRel.mono hs h) (LRel.mono hs h')
end

/- What stands for one abstract value under a finer map is what stood for it. -/
mutual
theorem VRel.back' {g g' : Inj} (hs : Sub g g') : ∀ {a : AVal} {v u : Value}, VRel g a v → VRel g' a u → VRel g a u
  | _, _, _, .bool b, .bool _ => .bool b
  | _, _, _, .int k n, .int _ _ => .int k n
  | _, _, _, .float k n, .float _ _ => .float k n
  | _, _, _, .str s, .str _ => .str s
  | _, _, _, .nilptr, .nilptr => .nilptr
  | _, _, _, .ptr b off L h, .ptr _ _ M h' => by
      have : M = L := by have := hs _ _ h; rw [this] at h'; exact (Option.some.inj h').symm
      subst this; exact .ptr b off M h
  | _, _, _, .nilslice, .nilslice => .nilslice
  | _, _, _, .slice b off len cap ex _ _ L h _ _ _, .slice _ _ _ _ _ o'' cap'' M h' h0' h1' h2' => by
      have : M = L := by have := hs _ _ h; rw [this] at h'; exact (Option.some.inj h').symm
      subst this; exact .slice b off len cap ex o'' cap'' M h h0' h1' h2'
  | _, _, _, .nilmap, .nilmap => .nilmap
  | _, _, _, .map b L h, .map _ M h' => by
      have : M = L := by have := hs _ _ h; rw [this] at h'; exact (Option.some.inj h').symm
      subst this; exact .map b M h
  | _, _, _, .nilfunc, .nilfunc => .nilfunc
  | _, _, _, .func fn f c _ _ h1 h2, .func _ _ _ f'' c'' h1' h2' => .func fn f c f'' c'' (LRel.back hs h1 h1') (LRel.back hs h2 h2')
  | _, _, _, .niliface, .niliface => .niliface
  | _, _, _, .iface t v _ h, .iface _ _ u h' => .iface t v u (VRel.back' hs h h')
  | _, _, _, .agg l _ h, .agg _ l'' h' => .agg l l'' (LRel.back hs h h')
  | _, _, _, .tuple l _ h, .tuple _ l'' h' => .tuple l l'' (LRel.back hs h h')
  | _, _, _, .symi k i, h' => by cases h'; rw [hs.sig]; exact .symi k i
  | _, _, _, .symb i, h' => by cases h'; rw [hs.sig]; exact .symb i
  | _, _, _, .syms i, h' => by cases h'; rw [hs.sig]; exact .syms i
  | _, _, _, .row i _ _ _ _ _ _, h' => by cases h' with | row _ X ao cap h1 h2 h3 => exact .row i X ao cap (by rw [← hs.sig]; exact h1) h2 h3
  | _, _, _, .rptr i ix j _ _ _ _ _, h' => by cases h' with | rptr _ _ _ m X h1 h2 h3 => exact .rptr i ix j m X (by rw [← hs.sig]; exact h1) (by rw [← hs.sig]; exact h2) h3
  | _, _, _, .yield b L h, h' => by
      cases h' with
      | yield _ M h2 =>
        have : M = L := by have := hs _ _ h; rw [this] at h2; cases h2; rfl
        subst this; exact .yield b M h
  | _, _, _, .junk _ _, h' => by cases h' with | junk _ h2 => exact .junk _ h2
  | _, _, _, .geq _ _ _, h' => by cases h' with | geq _ m h2 => exact .geq _ m h2
theorem LRel.back {g g' : Inj} (hs : Sub g g') : ∀ {a : List AVal} {v u : List Value}, LRel g a v → LRel g' a u → LRel g a u
  | _, _, _, .nil, .nil => .nil
  | _, _, _, .cons a _ l _ h k, .cons _ v' _ m' h' k' => .cons a v' l m' (VRel.back' hs h h') (LRel.back hs k k')
end

theorem den_rel {g : Inj} {a : AVal} {v : Value} : VRel g (den g.sig a) v ↔ VRel g a v := by
  cases a <;> first
    | exact Iff.rfl
    | (constructor <;> (intro h; cases h; constructor))

theorem LRel.dens {g : Inj} : ∀ {l : List AVal} {m : List Value}, LRel g l m → LRel g (l.map (den g.sig)) m
  | _, _, .nil => .nil
  | _, _, .cons _ v _ m h h' => .cons _ v _ m (den_rel.2 h) (LRel.dens h')

theorem symS_sound {ng : Cx} {g : Inj} {d : SDef} {r : AVal} (hg : ng.Good g.sig) (h : symS ng d = some r) : ∃ q, evalS g.sig d = some q ∧ ∀ v, VRel g q v → VRel g r v := by
  unfold symS at h
  split at h
  · rename_i i hi
    refine ⟨_, hg.look d i hi, fun v hv => ?_⟩
    have hv' := den_rel.1 hv
    split at h
    · rename_i j hj
      split at h
      · rename_i b hb
        cases h
        rw [hj] at hv'
        cases hv'
        rw [hg.fact j b hb]
        exact .bool b
      · cases h; rw [← hj]; exact hv'
    · rename_i k j hj
      split at h
      · rename_i n hn
        cases h
        rw [hj] at hv'
        cases hv'
        rw [hg.num j n hn]
        exact .int k n
      · cases h; rw [← hj]; exact hv'
    · cases h; exact hv'
  · cases h

theorem LRel.length {g : Inj} : ∀ {a : List AVal} {v : List Value}, LRel g a v → a.length = v.length
  | _, _, .nil => rfl
  | _, _, .cons _ _ _ _ _ h => by simp [LRel.length h]

theorem LRel.get {g : Inj} : ∀ {l : List AVal} {m : List Value}, LRel g l m → ∀ (i : Nat) (a : AVal), l[i]? = some a → ∃ v, m[i]? = some v ∧ VRel g a v
  | _, _, .cons a v l m h _, 0, b, hb => by simp at hb; subst hb; exact ⟨v, by simp, h⟩
  | _, _, .cons a v l m _ h, i + 1, b, hb => by
    obtain ⟨u, h1, h2⟩ := LRel.get h i b (by simpa using hb)
    exact ⟨u, by simpa using h1, h2⟩

theorem LRel.of_get {g : Inj} : ∀ {l : List AVal} {m : List Value}, l.length = m.length → (∀ (i : Nat) (a : AVal), l[i]? = some a → ∃ v, m[i]? = some v ∧ VRel g a v) → LRel g l m
  | [], [], _, _ => .nil
  | a :: l, v :: m, hl, h => by
    obtain ⟨u, h1, h2⟩ := h 0 a (by simp)
    simp at h1; subst h1
    exact .cons a v l m h2 (LRel.of_get (by simpa using hl) fun i b hb => by simpa using h (i + 1) b (by simpa using hb))

theorem LRel.append {g : Inj} : ∀ {l : List AVal} {m : List Value} {l' : List AVal} {m' : List Value}, LRel g l m → LRel g l' m' → LRel g (l ++ l') (m ++ m')
  | _, _, _, _, .nil, h => h
  | _, _, _, _, .cons a v l m h k, h' => .cons a v _ _ h (LRel.append k h')

theorem LRel.drop {g : Inj} : ∀ {l : List AVal} {m : List Value}, LRel g l m → ∀ n, LRel g (l.drop n) (m.drop n)
  | _, _, h, 0 => by simpa using h
  | _, _, .nil, n + 1 => by simpa using LRel.nil
  | _, _, .cons _ _ _ _ _ h, n + 1 => by simpa using LRel.drop h n

theorem LRel.take {g : Inj} : ∀ {l : List AVal} {m : List Value}, LRel g l m → ∀ n, LRel g (l.take n) (m.take n)
  | _, _, _, 0 => by simpa using LRel.nil
  | _, _, .nil, n + 1 => by simpa using LRel.nil
  | _, _, .cons a v _ _ h k, n + 1 => by simpa using LRel.cons a v _ _ h (LRel.take k n)

theorem VRel.cells {g : Inj} {a : AVal} {v : Value} (h : VRel g a v) : LRel g (acells a) v.cells.toList := by
  cases h <;> first
    | (rename_i hj; cases v <;> first | exact .cons _ _ _ _ (.junk _ hj) .nil | (simp [Value.oneCell'] at hj))
    | (rename_i h; simpa [acells, Value.cells] using h)
    | (simp only [acells, Value.cells]; refine .cons _ _ _ _ ?_ .nil; constructor <;> assumption)

theorem VRel.scalar {g : Inj} {a : AVal} {v : Value} (h : VRel g a v) (hs : scalar a = true) : v.oneCell' = true := by
  cases h <;> first | rfl | assumption | (simp [Ev.scalar] at hs)

theorem ofV0_rel {v : Value} {a : AVal} (h : ofV0 v = some a) (g : Inj) : VRel g a v := by
  unfold ofV0 at h
  split at h <;> first | (injection h with h; subst h; constructor) | cases h
  all_goals constructor

theorem ofVL_rel : ∀ {l : List Value} {r : List AVal}, ofVL l = some r → ∀ (g : Inj), LRel g r l
  | [], r, h, g => by simp [ofVL] at h; subst h; exact .nil
  | v :: l, r, h, g => by
    simp only [ofVL] at h
    cases h0 : ofV0 v with
    | none => simp [h0] at h
    | some a =>
      cases h1 : ofVL l with
      | none => simp [h0, h1] at h
      | some s =>
        simp [h0, h1] at h
        subst h
        exact .cons _ _ _ _ (ofV0_rel h0 g) (ofVL_rel h1 g)

theorem ofV_rel {v : Value} {a : AVal} (h : ofV v = some a) (g : Inj) : VRel g a v := by
  unfold ofV at h
  split at h
  · split at h
    · rename_i hl; cases h; exact .agg _ _ (ofVL_rel hl g)
    · cases h
  · split at h
    · rename_i hl; cases h; exact .tuple _ _ (ofVL_rel hl g)
    · cases h
  · split at h
    · rename_i hl; cases h; exact .iface _ _ _ (ofV0_rel hl g)
    · cases h
  · exact ofV0_rel h g

def Live (H : List Blk) (i : Nat) : Prop := ∃ k, H[i]? = some k ∧ k ≠ .gone

def CRel (g : Inj) (c : List AVal) (C : Array Value) (d : Nat) : Prop :=
  ∀ i a, c[i]? = some a → ∃ v, C[d + i]? = some v ∧ VRel g a v ∧ v.oneCell' = true

/-- The entries of a map. -/
inductive MRel (g : Inj) : List (AVal × AVal) → List MapEntry → Prop
  | nil : MRel g [] []
  | cons (k v : AVal) (e : MapEntry) (l : List (AVal × AVal)) (m : List MapEntry) : VRel g k e.key → VRel g v e.val → MRel g l m → MRel g ((k, v) :: l) (e :: m)

theorem MRel.mono {g g' : Inj} (hs : Sub g g') : ∀ {l : List (AVal × AVal)} {m : List MapEntry}, MRel g l m → MRel g' l m
  | _, _, .nil => .nil
  | _, _, .cons k v e l m h1 h2 h => .cons k v e l m (h1.mono hs) (h2.mono hs) (MRel.mono hs h)

theorem MRel.back {g g' : Inj} (hs : Sub g g') : ∀ {l : List (AVal × AVal)} {m m' : List MapEntry}, MRel g l m → MRel g' l m' → MRel g l m'
  | _, _, _, .nil, .nil => .nil
  | _, _, _, .cons k v _ l _ h1 h2 h, .cons _ _ e _ m' h1' h2' h' => .cons k v e l m' (VRel.back' hs h1 h1') (VRel.back' hs h2 h2') (MRel.back hs h h')

theorem MRel.snoc {g : Inj} {k v : AVal} {e : MapEntry} (h1 : VRel g k e.key) (h2 : VRel g v e.val) : ∀ {l : List (AVal × AVal)} {m : List MapEntry}, MRel g l m → MRel g (l ++ [(k, v)]) (m ++ [e])
  | _, _, .nil => .cons k v e [] [] h1 h2 .nil
  | _, _, .cons k' v' e' l m h1' h2' h => .cons k' v' e' _ _ h1' h2' (MRel.snoc h1 h2 h)

/-- Temporaries, as they are known. -/
def TmRel (g : Inj) (t : Tm) (tmps : Array Value) : Prop :=
  t.len ≤ tmps.size ∧ ∀ (i : Nat) (v : AVal), t.get i = some v → ∃ u, tmps[i]? = some u ∧ VRel g v u

theorem TmRel.mono {g g' : Inj} {t : Tm} {a : Array Value} (hs : Sub g g') (h : TmRel g t a) : TmRel g' t a :=
  ⟨h.1, fun i v hi => let ⟨u, h1, h2⟩ := h.2 i v hi; ⟨u, h1, h2.mono hs⟩⟩

/-- What is marked of a block lies behind its cells; each is one value. -/
structure FrOk (fr : Nat × Nat) (C : Array Value) : Prop where
  not : ∀ k, k < C.size → ¬ (fr.1 ≤ k ∧ k < fr.2)
  eq : fr.1 = fr.2 ∨ C.size ≤ fr.1
  one : ∀ v, v ∈ C.toList → v.oneCell' = true

theorem FrOk.zero {C : Array Value} (h : ∀ v, v ∈ C.toList → v.oneCell' = true) : FrOk (0, 0) C := ⟨fun k _ h => by have := h.2; simp at this, .inl rfl, h⟩
theorem FrOk.behind {C : Array Value} (h : ∀ v, v ∈ C.toList → v.oneCell' = true) : FrOk (C.size, C.size + 1) C := ⟨fun k hk h => by have := h.1; simp at this; omega, .inr (Nat.le_refl _), h⟩
theorem FrOk.freeze {lo hi : Nat} {C : Array Value} (h : FrOk (lo, hi) C) : FrOk (if lo == hi then (C.size, C.size + 1) else (min lo C.size, max hi (C.size + 1))) C := by
  split
  · exact FrOk.behind h.one
  · rename_i hne
    rcases h.eq with h2 | h2
    · simp only at h2; subst h2; simp at hne
    · simp only at h2
      rw [Nat.min_eq_right h2]
      exact ⟨fun k hk h => by have := h.1; simp at this; omega, .inr (Nat.le_refl _), h.one⟩

def BRel (g : Inj) (w : World) (k : Blk) (L : Loc) : Prop :=
  match k with
  | .gone => True
  | .map l => ∃ es cl es', w.heap[L.blk]? = some (.map es cl) ∧ es.toList.Perm es' ∧ MRel g l es' ∧ (es.toList.map (·.born)).Nodup ∧ ∀ e ∈ es.toList, e.born < cl
  | .iter x l cur => ∃ (X : Fm) (seen : Array Nat) (es' : List MapEntry), L.dl = 0 ∧ g.mp x = some X ∧ w.heap[L.blk]? = some (.mapIter (some X.blk) X.cl seen X.cl) ∧ (leftOf X.es seen).toList.Perm es' ∧ MRel g l es' ∧
      ∀ k v, cur = some (k, v) → ∃ (e : MapEntry) (s0 : Array Nat), e ∈ X.es.toList ∧ seen = s0.push e.born ∧ VRel g k e.key ∧ VRel g v e.val
  | .loop l => ∃ r : Loop, w.heap[L.blk]? = some (.loop r) ∧ r.state = l.st ∧ r.pending = l.pend ∧ TmRel g l.t r.tmps ∧ r.params = l.params ∧ r.assign = l.assign ∧ r.body = l.body ∧ ∃ D, g l.dfr = some D ∧ r.defers = D.blk
  | .dfr => w.heap[L.blk]? = some (.deferred (some []))
  | .cells c e => ∃ C fr, w.heap[L.blk]? = some (.cells C e fr) ∧ C.size = L.dl + L.n ∧ FrOk fr C ∧ c.length ≤ L.n ∧ CRel g c C L.dl

/-- The row lies there. -/
def FzOk (X : Fz) (w : World) : Prop :=
  ∃ C e fr, w.heap[X.blk]? = some (.cells C e fr) ∧
    (∀ m j, m < X.len → j < X.z → ∃ v, C[X.off + m * X.z + j]? = some v ∧ (∀ g, VRel g (X.val m j) v) ∧ v.oneCell' = true) ∧ ∀ o, X.obj = some o → w.heap[X.blk]? = some o

theorem FzOk.of_same {X : Fz} {w w' : World} (h : FzOk X w) (hb : w'.heap[X.blk]? = w.heap[X.blk]?) : FzOk X w' := by
  obtain ⟨C, e, fr, h1, h2, h3⟩ := h
  exact ⟨C, e, fr, by rw [hb]; exact h1, h2, by rw [hb]; exact h3⟩

theorem FzOk.lt {X : Fz} {w : World} (h : FzOk X w) : X.blk < w.heap.size := by
  obtain ⟨C, e, fr, h1, h2⟩ := h
  exact (Array.getElem?_eq_some_iff.1 h1).1

def FmOk (X : Fm) (w : World) : Prop :=
  w.heap[X.blk]? = some (.map X.es X.cl) ∧ (X.es.toList.map (·.born)).Nodup ∧ ∀ e ∈ X.es.toList, e.born < X.cl

theorem FmOk.of_same {X : Fm} {w w' : World} (h : FmOk X w) (hb : w'.heap[X.blk]? = w.heap[X.blk]?) : FmOk X w' := ⟨by rw [hb]; exact h.1, h.2⟩

theorem FmOk.lt {X : Fm} {w : World} (h : FmOk X w) : X.blk < w.heap.size := (Array.getElem?_eq_some_iff.1 h.1).1

/-- All rows lie where they lay, and all maps that are ranged over, and nothing that may be written lies there. -/
structure Frz (g : Inj) (H : List Blk) (w : World) : Prop where
  row : ∀ i X, g.sig.ext i = some X → 0 < X.len → FzOk X w ∧ ∀ j L, g j = some L → Live H j → L.blk ≠ X.blk
  mp : ∀ i X, g.mp i = some X → i < H.length ∧ FmOk X w ∧ ∀ j L, g j = some L → Live H j → L.blk ≠ X.blk

theorem Frz.to {g g' : Inj} {H H' : List Blk} {w w' : World} (h : Frz g H w) (hs : g'.sig = g.sig) (hm : g'.mp = g.mp) (hl : H.length ≤ H'.length)
    (hb : ∀ b, b < w.heap.size → (∀ j L, g j = some L → Live H j → L.blk ≠ b) → w'.heap[b]? = w.heap[b]? ∧ ∀ j L, g' j = some L → Live H' j → L.blk ≠ b) : Frz g' H' w' := by
  constructor
  · intro i X hi hX
    rw [hs] at hi
    obtain ⟨h1, h2⟩ := h.row i X hi hX
    obtain ⟨h3, h4⟩ := hb X.blk h1.lt h2
    exact ⟨h1.of_same h3, h4⟩
  · intro i X hi
    rw [hm] at hi
    obtain ⟨h0, h1, h2⟩ := h.mp i X hi
    obtain ⟨h3, h4⟩ := hb X.blk h1.lt h2
    exact ⟨Nat.lt_of_lt_of_le h0 hl, h1.of_same h3, h4⟩

structure HRel (ng : Cx) (g : Inj) (H : List Blk) (w : World) : Prop where
  dom : ∀ i L, g i = some L → i < H.length ∧ L.blk < w.heap.size
  inj : ∀ i j L M, g i = some L → g j = some M → L.blk = M.blk → Live H i → Live H j → i = j
  blk : ∀ i k, H[i]? = some k → k ≠ .gone → ∃ L, g i = some L ∧ BRel g w k L
  glob : ∀ i, i < ng.n → ∃ L, g i = some L ∧ L.blk = i ∧ L.dl = 0
  sig : ng.Good g.sig
  frz : Frz g H w

structure Ext (g : Inj) (H : List Blk) (w : World) (g' : Inj) (H' : List Blk) (w' : World) : Prop where
  sub : Sub g g'
  new : ∀ i L, g' i = some L → g i = none → H.length ≤ i ∧ (w.heap.size ≤ L.blk ∨ ∃ j M, g j = some M ∧ M.blk = L.blk ∧ Live H j)
  newm : ∀ i X, g'.mp i = some X → g.mp i = none → H.length ≤ i ∧ (w.heap.size ≤ X.blk ∨ ∃ j M, g j = some M ∧ M.blk = X.blk ∧ Live H j)
  len : H.length ≤ H'.length
  live : ∀ i, i < H.length → Live H' i → Live H i
  size : w.heap.size ≤ w'.heap.size
  frame : ∀ b, b < w.heap.size → (∀ i L, g i = some L → Live H i → L.blk ≠ b) → w'.heap[b]? = w.heap[b]?
  os : w'.os = w.os
  tape : w'.tape = w.tape
  output : w'.output = w.output

theorem Ext.refl (g : Inj) (H : List Blk) (w : World) : Ext g H w g H w where
  sub := Sub.refl g
  new := fun i L h h' => by rw [h] at h'; cases h'
  newm := fun i L h h' => by rw [h] at h'; cases h'
  len := Nat.le_refl _
  live := fun _ _ h => h
  size := Nat.le_refl _
  frame := fun _ _ _ => rfl
  os := rfl
  tape := rfl
  output := rfl

theorem Ext.trans {ng : Cx} {g g' g'' : Inj} {H H' H'' : List Blk} {w w' w'' : World} (h0 : HRel ng g H w) (h : Ext g H w g' H' w') (h' : Ext g' H' w' g'' H'' w'') : Ext g H w g'' H'' w'' where
  sub := h.sub.trans h'.sub
  new := by
    intro i L hi hn
    cases hg : g' i with
    | some M =>
      have := h'.sub i M hg
      rw [this] at hi; cases hi
      exact h.new i _ hg hn
    | none =>
      obtain ⟨hl, hb⟩ := h'.new i L hi hg
      refine ⟨Nat.le_trans h.len hl, ?_⟩
      rcases hb with hb | ⟨j, M, hj, hM, hlive⟩
      · exact .inl (Nat.le_trans h.size hb)
      · cases hgj : g j with
        | some N =>
          have := h.sub j N hgj
          rw [this] at hj; cases hj
          exact .inr ⟨j, _, hgj, hM, h.live j (h0.dom j _ hgj).1 hlive⟩
        | none =>
          obtain ⟨_, hb⟩ := h.new j M hj hgj
          rw [← hM]; exact hb
  newm := by
    intro i X hi hn
    cases hg : g'.mp i with
    | some Y =>
      have := h'.sub.mp i Y hg
      rw [this] at hi; cases hi
      exact h.newm i _ hg hn
    | none =>
      obtain ⟨hl, hb⟩ := h'.newm i X hi hg
      refine ⟨Nat.le_trans h.len hl, ?_⟩
      rcases hb with hb | ⟨j, M, hj, hM, hlive⟩
      · exact .inl (Nat.le_trans h.size hb)
      · cases hgj : g j with
        | some N =>
          have := h.sub j N hgj
          rw [this] at hj; cases hj
          exact .inr ⟨j, _, hgj, hM, h.live j (h0.dom j _ hgj).1 hlive⟩
        | none =>
          obtain ⟨_, hb⟩ := h.new j M hj hgj
          rw [← hM]; exact hb
  len := Nat.le_trans h.len h'.len
  live := fun i hi hl => h.live i hi (h'.live i (Nat.lt_of_lt_of_le hi h.len) hl)
  size := Nat.le_trans h.size h'.size
  frame := by
    intro b hb hno
    have h1 := h.frame b hb hno
    refine (h'.frame b (Nat.lt_of_lt_of_le hb h.size) ?_).trans h1
    intro i L hi hl he
    cases hg : g i with
    | some M =>
      have := h.sub i M hg
      rw [this] at hi; cases hi
      exact hno i _ hg (h.live i (h0.dom i _ hg).1 hl) he
    | none =>
      obtain ⟨_, hb'⟩ := h.new i L hi hg
      rcases hb' with hb' | ⟨j, M, hj, hM, hlive⟩
      · omega
      · exact hno j M hj hlive (hM.trans he)
  os := h'.os.trans h.os
  tape := h'.tape.trans h.tape
  output := h'.output.trans h.output

theorem BRel.mono {g g' : Inj} {w : World} {k : Blk} {L : Loc} (hs : Sub g g') (h : BRel g w k L) : BRel g' w k L := by
  cases k with
  | gone => trivial
  | map l =>
    obtain ⟨es, cl, es', h1, h2, h3, h4⟩ := h
    exact ⟨es, cl, es', h1, h2, h3.mono hs, h4⟩
  | iter x l cur =>
    obtain ⟨X, seen, es', hd, h0, h1, h2, h3, h4⟩ := h
    refine ⟨X, seen, es', hd, hs.mp _ _ h0, h1, h2, h3.mono hs, fun k v e => ?_⟩
    obtain ⟨e, s0, k1, k2, k3, k4⟩ := h4 k v e
    exact ⟨e, s0, k1, k2, k3.mono hs, k4.mono hs⟩
  | loop l =>
    obtain ⟨r, h1, h2, h3, h4, h5, h6, h7, D, h8, h9⟩ := h
    exact ⟨r, h1, h2, h3, h4.mono hs, h5, h6, h7, D, hs _ _ h8, h9⟩
  | dfr => exact h
  | cells c e =>
    obtain ⟨C, fr, h1, h2, h4, h5, h6⟩ := h
    exact ⟨C, fr, h1, h2, h4, h5, fun i a hi => let ⟨v, a1, a2, a3⟩ := h6 i a hi; ⟨v, a1, a2.mono hs, a3⟩⟩

theorem BRel.of_same {g : Inj} {w w' : World} {k : Blk} {L : Loc} (hb : w'.heap[L.blk]? = w.heap[L.blk]?) (h : BRel g w k L) : BRel g w' k L := by
  cases k with
  | gone => trivial
  | map l => simpa only [BRel, hb] using h
  | cells c e => simpa only [BRel, hb] using h
  | loop l => simpa only [BRel, hb] using h
  | dfr => simpa only [BRel, hb] using h
  | iter x l cur => simpa only [BRel, hb] using h

def TRel (g : Inj) (t : Tm) (a : Act) : Prop := TmRel g t a.tmps

theorem TRel.mono {g g' : Inj} {t : Tm} {a : Act} (hs : Sub g g') (h : TRel g t a) : TRel g' t a :=
  ⟨h.1, fun i v hi => let ⟨u, h1, h2⟩ := h.2 i v hi; ⟨u, h1, h2.mono hs⟩⟩

theorem factV_rel {g : Inj} {ng : Cx} (hg : ng.Good g.sig) {a : AVal} {v : Value} (h : VRel g a v) : VRel g (factV ng a) v := by
  unfold factV
  split
  · rename_i j
    split
    · rename_i b hb; cases h; rw [hg.fact j b hb]; exact .bool b
    · exact h
  · rename_i k j
    split
    · rename_i n hn; cases h; rw [hg.num j n hn]; exact .int k n
    · exact h
  · exact h

theorem TRel.eval {g : Inj} {ng : Cx} {t : Tm} {a : Act} (h : TRel g t a) (hs : ng.Good g.sig) (hG : ∀ i, i < ng.n → ∃ L, g i = some L ∧ L.blk = i ∧ L.dl = 0) {x : Operand} {v : AVal} (hv : ev ng t x = some v) :
    VRel g v (a.eval x) := by
  cases x with
  | tmp i =>
    simp only [ev] at hv
    split at hv
    · rename_i b hb
      cases hv
      obtain ⟨u, h1, h2⟩ := h.2 i b hb
      have := factV_rel hs h2
      simpa [Act.eval, h1] using this
    · cases hv
  | const c => exact ofV_rel hv g
  | global j =>
    simp only [ev] at hv
    split at hv
    · rename_i hj
      cases hv
      obtain ⟨L, h1, h2, h3⟩ := hG j hj
      have := VRel.ptr j 0 L h1
      simpa [Act.eval, h2, h3] using this
    · cases hv
  | func f =>
    simp only [ev] at hv; cases hv
    exact .func _ _ _ _ _ .nil .nil

end Go.Ev
