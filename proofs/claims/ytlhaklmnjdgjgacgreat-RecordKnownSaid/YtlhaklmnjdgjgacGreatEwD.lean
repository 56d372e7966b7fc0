/- The operations that touch no memory: addresses, slices, parts, and all together. -/
import Derived.Test.YtlhaklmnjdgjgacGreatEwC
namespace Go.Ev
set_option linter.unusedVariables false
set_option linter.unusedSimpArgs false
set_option linter.unnecessarySimpa false

def evO (ng : Cx) (t : Tm) : Option Operand → Option (Option AVal)
  | none => some none
  | some x => match ev ng t x with
    | some v => some (some v)
    | none => none

def evL (ng : Cx) (t : Tm) : List Operand → Option (List AVal)
  | [] => some []
  | x :: l => match ev ng t x, evL ng t l with
    | some v, some r => some (v :: r)
    | _, _ => none

def evP (ng : Cx) (t : Tm) : List (Nat × Operand) → Option (List (Nat × AVal))
  | [] => some []
  | x :: l => match ev ng t x.2, evP ng t l with
    | some v, some r => some ((x.1, v) :: r)
    | _, _ => none

def bndA (d top : Nat) : Option AVal → Option Nat
  | none => some d
  | some (.int _ n) => if 0 ≤ n ∧ n ≤ (top : Int) then some n.toNat else none
  | _ => none

/-- low, high, max of a slice expression: over what has so many, and room for so many -/
def bndsA (len cap : Nat) (lo hi mx : Option AVal) : Option (Nat × Nat × Nat) :=
  match bndA cap cap mx with
  | some m => match (match hi, mx with
      | none, some _ => none
      | _, _ => bndA len m hi : Option Nat) with
    | some h => match bndA 0 h lo with
      | some l => some (l, h, m)
      | none => none
    | none => none
  | none => none

def sliceA (P : Program) (t : TypeId) (x : AVal) (lo hi mx : Option AVal) : Option AVal :=
  match P.underlying t, x with
  | some (.array n e), .ptr b off => match P.info? e, bndsA n n lo hi mx with
    | some _, some (l, h, m) => some (.slice b (if m = l then off else off + l * P.cellsOf e) (h - l) (m - l) none)
    | _, _ => none
  | some (.slice e), .slice b off len cap none => match P.info? e, bndsA len cap lo hi mx with
    | some _, some (l, h, m) => some (.slice b (if m = l then off else off + l * P.cellsOf e) (h - l) (m - l) none)
    | _, _ => none
  | some (.slice e), .slice b off len cap (some z) => match P.info? e, bndsA len cap lo hi mx with
    | some _, some (l, h, m) => if z = P.cellsOf e ∧ (0 < len ∨ 0 < cap) ∧ h ≤ m then
        match mx with
        | some _ => some (.slice b (if m = l then off else off + l * P.cellsOf e) (h - l) (m - l) none)
        | none => some (.slice b (off + l * P.cellsOf e) (h - l) (m - l) (some z))
      else (if l = 0 ∧ h = 0 ∧ mx.isNone then some (.slice b off 0 0 (some z)) else none)
    | _, _ => none
  | some (.slice e), .nilslice => match P.info? e, bndsA 0 0 lo hi mx with
    | some _, some _ => some .nilslice
    | _, _ => none
  | some .string, .str s => match mx, bndsA s.size s.size lo hi none with
    | none, some (l, h, _) => some (.str (s.extract l h))
    | _, _ => none
  | _, _ => none

def setsA (l : List AVal) (off : Nat) : List AVal → List AVal
  | [] => l
  | v :: vs => setsA (l.set off v) (off + 1) vs

def fillA (place : Nat → Option (Nat × Nat)) : List AVal → List (Nat × AVal) → Option (List AVal)
  | cells, [] => some cells
  | cells, (i, v) :: rest =>
    match place i with
    | none => none
    | some (off, size) =>
      if (acells v).length = size ∧ off + (acells v).length ≤ cells.length then fillA place (setsA cells off (acells v)) rest else none

def zeroA (P : Program) (t : TypeId) : Option AVal :=
  match P.info? t with
  | some i => match i.zero with
    | some z => ofV z
    | none => none
  | none => none

def placesA (P : Program) : List Field → Option (List (Nat × Nat))
  | [] => some []
  | f :: fs => match P.info? f.type, placesA P fs with
    | some i, some r => some ((f.offset, i.size) :: r)
    | _, _ => none

def buildA (P : Program) (t : TypeId) (parts : List (Nat × AVal)) : Option AVal :=
  match zeroA P t, P.underlying t with
  | some z, some (.struct fs) => match placesA P fs.toList with
    | some pl => match fillA (pl[·]?) (acells z) parts with
      | some c => some (.agg c)
      | none => none
    | none => none
  | some z, some (.array _ e) => match P.info? e with
    | some ie => match fillA (fun i => some (i * ie.size, ie.size)) (acells z) parts with
      | some c => some (.agg c)
      | none => none
    | none => none
  | _, _ => none

def concreteA (P : Program) (t : TypeId) : Bool := P.concrete t

def fieldA (P : Program) (t : TypeId) (f : Nat) : Option Field :=
  match P.underlying t with
  | some (.struct fs) => fs.toList[f]?
  | _ => none

def pickA (c : Bool) (a b : Option AVal) : Option AVal :=
  match a, b with
  | some (.bool x), some (.bool y) => some (.bool (bif c then x else y))
  | a, b => match c with
    | true => a
    | false => b

def convA (P : Program) (src dst : TypeId) (x : AVal) : Option AVal :=
  match P.underlying src, P.underlying dst, x with
  | some _, some (.int k), .int _ n => some (.int k (k.wrap n))
  | some _, some .string, .str s => some (.str s)
  | _, _, _ => none

def indexAddrA (P : Program) (t : TypeId) (x ix : AVal) : Option AVal :=
  match P.underlying t, x, ix with
  | some (.array n e), .ptr b off, .int _ i => match P.info? e with
    | some _ => if 0 ≤ i ∧ i < (n : Int) then some (.ptr b (off + i.toNat * P.cellsOf e)) else none
    | none => none
  | some (.slice e), .slice b off n _ _, .int _ i => match P.info? e with
    | some _ => if 0 ≤ i ∧ i < (n : Int) then some (.ptr b (off + i.toNat * P.cellsOf e)) else none
    | none => none
  | _, _, _ => none

/-- an element's address, in a row -/
def rowAt (P : Program) (ng : Cx) (t : TypeId) (i : Nat) (ix : AVal) : Option AVal :=
  match P.underlying t with
  | some (.slice e) => match P.info? e, ng.rat i ix with
    | some _, some cs => if cs.length = P.cellsOf e then some (.rptr i ix 0) else none
    | _, _ => none
  | _ => none

def rowCut (P : Program) (ng : Cx) (t : TypeId) (i : Nat) (h : AVal) : Option AVal :=
  match P.underlying t with
  | some (.slice e) => match P.info? e, ng.rcut i h with
    | some _, some k => some (.row k)
    | _, _ => none
  | _ => none

def rowLen (P : Program) (ng : Cx) (ts : List TypeId) (i : Nat) : Option AVal :=
  match ts with
  | [t] => match P.underlying t with
    | some (.slice _) => match ng.rlen i with
      | some a => some (factV ng a)
      | none => none
    | _ => none
  | _ => none

/-! ### Unknown strings -/

def isTru (ng : Cx) (d : SDef) : Bool :=
  match symS ng d with
  | some (.bool b) => b
  | _ => false

def litI64 : AVal → Option Int
  | .int .i64 n => some n
  | _ => none

def leqT (ng : Cx) (a b : AVal) : Bool :=
  match litI64 a, litI64 b with
  | some x, some y => decide (x ≤ y)
  | _, _ => isTru ng (.bin .leq a b)

def lssT (ng : Cx) (a b : AVal) : Bool :=
  match litI64 a, litI64 b with
  | some x, some y => decide (x < y)
  | _, _ => isTru ng (.bin .lss a b)

def sameNum (a b : AVal) : Bool :=
  match a, b with
  | .int k x, .int k' y => decide (k = k') && decide (x = y)
  | .symi k i, .symi k' j => decide (k = k') && Nat.beq i j
  | _, _ => false

theorem sameNum_eq {a b : AVal} (h : sameNum a b = true) : a = b := by
  unfold sameNum at h
  split at h
  · simp only [Bool.and_eq_true, decide_eq_true_eq] at h; rw [h.1, h.2]
  · simp only [Bool.and_eq_true, decide_eq_true_eq] at h; rw [h.1, Nat.eq_of_beq_eq_true h.2]
  · cases h

/-- hi - lo, where that is plain and they are in order -/
def diffS (ng : Cx) (lo hi : AVal) : Option Nat :=
  match litI64 lo, litI64 hi with
  | some x, some y => some (y - x).toNat
  | _, _ => match hi with
    | .symi .i64 j => match ng.sdf j with
      | some (.bin .add a (.int .i64 c)) => match sameNum a lo && (decide (0 ≤ c) && decide (c < 9223372036854775808)) with
        | true => some c.toNat
        | false => none
      | _ => none
    | _ => none

/-- how long a string is that is no piece -/
def lenB (ng : Cx) (i : Nat) : Option AVal :=
  match ng.sdf i with
  | some (.text l) => some (.int .i64 l.length)
  | _ => symS ng (.sop .len [.syms i])

/-- how long an unknown string is -/
def lenS (ng : Cx) (i : Nat) : Option AVal :=
  match ng.sdf i with
  | some (.sop .sub [.syms b, lo, hi]) => match lenB ng b with
    | some n => match leqT ng (.int .i64 0) lo && (leqT ng lo hi && leqT ng hi n) with
      | true => match diffS ng lo hi with
        | some k => some (.int .i64 k)
        | none => symS ng (.sop .len [.syms i])
      | false => symS ng (.sop .len [.syms i])
    | none => symS ng (.sop .len [.syms i])
  | _ => lenB ng i

/-- a byte, within its kind -/
def okB (ng : Cx) : AVal → Bool
  | .int .u8 n => decide (0 ≤ n) && decide (n < 256)
  | .symi .u8 i => match ng.kd i with
    | some .u8 => true
    | _ => false
  | _ => false

def strIdx (ng : Cx) (i : Nat) (ix : AVal) : Option AVal :=
  match ng.sdf i, litI64 ix with
  | some (.text l), some n => match decide (0 ≤ n) with
    | true => match l[n.toNat]? with
      | some a => match okB ng a with
        | true => some a
        | false => none
      | none => none
    | false => none
  | _, _ => match lenS ng i with
    | some n => match leqT ng (.int .i64 0) ix && lssT ng ix n with
      | true => symS ng (.sop .at [.syms i, ix])
      | false => none
    | none => none

def strSub (ng : Cx) (i : Nat) (lo hi : Option AVal) : Option AVal :=
  match lenS ng i with
  | some n => match leqT ng (.int .i64 0) (lo.getD (.int .i64 0)) && (leqT ng (lo.getD (.int .i64 0)) (hi.getD n) && leqT ng (hi.getD n) n) with
    | true => match ng.sdf i, litI64 (lo.getD (.int .i64 0)), litI64 (hi.getD n) with
      | some (.text l), some x, some y => symS ng (.text ((l.take y.toNat).drop x.toNat))
      | _, _, _ => symS ng (.sop .sub [.syms i, lo.getD (.int .i64 0), hi.getD n])
    | false => none
  | none => none

def cellsT (ng : Cx) : AVal → Option (List AVal)
  | .str s => some (s.data.toList.map fun b => AVal.int .u8 b.toNat)
  | .syms i => match ng.sdf i with
    | some (.text l) => some l
    | _ => none
  | _ => none

def isStr : AVal → Bool
  | .str _ => true
  | .syms _ => true
  | _ => false

def isCat (op : BinOp) (a : AVal) : Bool :=
  match op with
  | .add => isStr a
  | _ => false

def catS (ng : Cx) (a b : AVal) : Option AVal :=
  match isStr b with
  | true => match cellsT ng a, cellsT ng b with
    | some l, some m => match decide (l.length + m.length ≤ 9223372036854775807) with
      | true => symS ng (.text (l ++ m))
      | false => none
    | _, _ => match symS ng (.sop .cat [a, b]) with
      | some (.syms c) => match symS ng (.sop .len [.syms c]) with
        | some n => match leqT ng n (.int .i64 9223372036854775807) with
          | true => some (.syms c)
          | false => none
        | none => none
      | _ => none
  | false => none

def atsN (ng : Cx) (i : Nat) : Nat → Nat → Option (List AVal)
  | 0, _ => some []
  | n + 1, j => match symS ng (.sop .at [.syms i, .int .i64 j]), atsN ng i n (j + 1) with
    | some a, some l => some (a :: l)
    | _, _ => none

def allB (ng : Cx) : List AVal → Bool
  | [] => true
  | a :: l => okB ng a && allB ng l

/-- the bytes of a string whose length is known -/
def strCells (ng : Cx) (i : Nat) : Option (List AVal) :=
  match ng.sdf i with
  | some (.text l) => match allB ng l with
    | true => some l
    | false => none
  | _ => match lenS ng i with
    | some n => match factV ng n with
      | .int .i64 m => match decide (0 ≤ m) with
        | true => atsN ng i m.toNat 0
        | false => none
      | _ => none
    | none => none

def strLen (P : Program) (ng : Cx) (ts : List TypeId) (i : Nat) : Option AVal :=
  match ts with
  | [t] => match P.underlying t with
    | some .string => lenS ng i
    | _ => none
  | _ => none

def indexA (P : Program) (t : TypeId) (x ix : AVal) : Option AVal :=
  match P.underlying t, x, ix with
  | some (.array n e), .agg cs, .int _ i => match P.underlying e with
    | some _ => if 0 ≤ i ∧ i < (n : Int) then partA P e cs (i.toNat * P.cellsOf e) else none
    | none => none
  | some .string, .str s, .int _ i => if 0 ≤ i then match s[i.toNat]? with
    | some b => some (.int .u8 b.toNat)
    | none => none
    else none
  | _, _, _ => none

/-- A method that is found at once, whose receiver is no nil pointer. -/
def nilAheadOk (P : Program) (t : TypeId) (v : AVal) (name : String) : Bool :=
  match P.info? t with
  | some info => match info.methods.find? (·.name == name) with
    | some m => match m.path.toList with
      | [] => match m.func with
        | some (_, pr) => match pr with
          | true => true
          | false => match P.underlying t with
            | some (.pointer _) => match v with
              | .ptr _ _ => true
              | _ => false
            | some _ => true
            | none => false
        | none => false
      | _ => false
    | none => false
  | none => false

def nilCheckA (P : Program) (x : AVal) : Option AVal :=
  match x with
  | .func (.method name) (.iface t v :: _) _ => match nilAheadOk P t v name with
    | true => some x
    | false => none
  | .ptr _ _ | .slice _ _ _ _ _ | .iface _ _ | .map _ => some x
  | .func (.func _) _ _ => some x
  | .func (.via _ _ _ _) _ _ => some x
  | .func (.methodOf _ _) _ _ => some x
  | .func (.yield _) _ _ => some x
  | _ => none

def capA (P : Program) (ts : List TypeId) (l : List AVal) : Option AVal :=
  match ts, l with
  | [t], [x] => match P.underlying t, x with
    | some (.slice _), .slice _ _ _ cap none => some (.int .i64 cap)
    | some (.slice _), .slice _ _ _ cap (some _) => some (.geq cap)
    | some (.slice _), .nilslice => some (.int .i64 0)
    | _, _ => none
  | _, _ => none

/-- Against a capacity that is no less than a number. -/
def geqA (op : BinOp) (a b : AVal) : Option AVal :=
  match b with
  | .geq n => match op, a with
    | .gtr, .int .i64 x => match decide (x ≤ (n : Int)) with
      | true => some (.bool false)
      | false => none
    | _, _ => none
  | _ => none

def lenA (P : Program) (ts : List TypeId) (l : List AVal) : Option AVal :=
  match ts, l with
  | [t], [x] => match P.underlying t, x with
    | some .string, .str s => some (.int .i64 s.size)
    | some (.array n _), _ => some (.int .i64 n)
    | some (.slice _), .slice _ _ n _ _ => some (.int .i64 n)
    | some (.slice _), .nilslice => some (.int .i64 0)
    | some (.map _ _), .nilmap => some (.int .i64 0)
    | _, _ => none
  | _, _ => none

def binU (P : Program) (ng : Cx) (op : BinOp) (t : TypeId) (a b : AVal) : Option AVal :=
  match unk a || unk b with
  | true => match geqA op a b with
    | some v => some v
    | none => match isCat op a with
      | true => catS ng a b
      | false => symBin P ng op t a b
  | false => match binA P op t a b with
    | some v => some v
    | none => aggU P ng op t a b

def unU (ng : Cx) (op : UnOp) (a : AVal) : Option AVal :=
  match unk a with
  | true => symS ng (.un op a)
  | false => unA op a

def convU (P : Program) (ng : Cx) (src dst : TypeId) (a : AVal) : Option AVal :=
  match unk a with
  | true => match P.underlying src, P.underlying dst with
    | some _, some (.int k) => symS ng (.conv k a)
    | some _, some .string => match a with
      | .syms i => some (.syms i)
      | _ => none
    | _, _ => none
  | false => convA P src dst a

def anyUnk : List AVal → Bool
  | [] => false
  | a :: l => unk a || anyUnk l

def lowU (ng : Cx) (l : List AVal) : Option AVal :=
  match anyUnk l with
  | true => symS ng (.low l)
  | false => minA l

def highU (ng : Cx) (l : List AVal) : Option AVal :=
  match anyUnk l with
  | true => symS ng (.high l)
  | false => maxA l

/-- The methods of an interface that a type has not. -/
def lacksA (want : Array (String × TypeId)) (got : Array Method) : Bool := (lacking want got).isEmpty

def failsA (P : Program) (asserted : TypeId) (ok : Bool) : Option AVal :=
  match ok with
  | true => match zeroA P asserted with
    | some z => some (.tuple [z, .bool false])
    | none => none
  | false => none

def holdsA (x : AVal) (ok : Bool) : AVal :=
  match ok with
  | true => .tuple [x, .bool true]
  | false => x

/-- A type assertion. -/
def assertA (P : Program) (x : AVal) (asserted : TypeId) (ok : Bool) : Option AVal :=
  match P.underlying asserted with
  | some (.interface want) => match x with
    | .niliface => failsA P asserted ok
    | .iface t v => match P.info? t with
      | some i => match lacksA want i.methods with
        | true => some (holdsA (.iface t v) ok)
        | false => failsA P asserted ok
      | none => none
    | _ => none
  | some _ => match x with
    | .niliface => failsA P asserted ok
    | .iface t v => match Nat.beq t asserted with
      | true => some (holdsA v ok)
      | false => failsA P asserted ok
    | _ => none
  | none => none

/-- What an operation gives that touches no memory. -/
def pureA (P : Program) (ng : Cx) (t : Tm) : Op → Option AVal
  | .move x => ev ng t x
  | .assign x => ev ng t x
  | .pick c a b => match ev ng t c with
    | some (.bool c) => pickA c (ev ng t a) (ev ng t b)
    | _ => none
  | .binOp op xt x y _ => match ev ng t x, ev ng t y with
    | some a, some b => match guardA P op xt x y a b with
      | true => binU P ng op xt a b
      | false => none
    | _, _ => none
  | .unOp op _ x => match ev ng t x with
    | some a => unU ng op a
    | none => none
  | .convert src dst x => match ev ng t x with
    | some a => convU P ng src dst a
    | none => none
  | .makeInterface xt x => match ev ng t x with
    | some a => match concreteA P xt with
      | true => some (.iface xt a)
      | false => none
    | none => none
  | .makeFunc fn fs cs => match evL ng t fs.toList, evL ng t cs.toList with
    | some a, some b => some (.func fn a b)
    | _, _ => none
  | .slice ty x lo hi mx => match ev ng t x, evO ng t lo, evO ng t hi, evO ng t mx with
    | some (.row r), some none, some (some h), some none => rowCut P ng ty r h
    | some (.syms i), some l, some h, some none => match P.underlying ty with
      | some .string => strSub ng i l h
      | _ => none
    | some a, some l, some h, some m => sliceA P ty a l h m
    | _, _, _, _ => none
  | .fieldAddr ty x f => match fieldA P ty f, ev ng t x with
    | some fd, some (.ptr b off) => match P.info? fd.type with
      | some i => if i.size = 0 then none else some (.ptr b (off + fd.offset))
      | none => none
    | some fd, some (.rptr r ix j) => match P.info? fd.type with
      | some i => if i.size = 0 then none else some (.rptr r ix (j + fd.offset))
      | none => none
    | _, _ => none
  | .field ty x f => match fieldA P ty f, ev ng t x with
    | some fd, some (.agg cs) => match P.underlying fd.type with
      | some _ => partA P fd.type cs fd.offset
      | none => none
    | _, _ => none
  | .indexAddr ty x ix => match ev ng t x, ev ng t ix with
    | some (.row r), some i => rowAt P ng ty r i
    | some a, some i => indexAddrA P ty a i
    | _, _ => none
  | .index ty x ix => match ev ng t x, ev ng t ix with
    | some (.syms i), some j => match P.underlying ty with
      | some .string => strIdx ng i j
      | _ => none
    | some a, some i => indexA P ty a (factV ng i)
    | _, _ => none
  | .extract x i => match ev ng t x with
    | some (.tuple l) => l[i]?
    | _ => none
  | .build ty parts => match evP ng t parts.toList with
    | some l => buildA P ty l
    | none => none
  | .nilCheck x => match ev ng t x with
    | some a => nilCheckA P a
    | none => none
  | .call c => match c.callee with
    | .builtin .len => match evL ng t c.args.toList with
      | some [.row r] => rowLen P ng c.argTypes.toList r
      | some [.syms i] => strLen P ng c.argTypes.toList i
      | some l => lenA P c.argTypes.toList l
      | none => none
    | .builtin .cap => match evL ng t c.args.toList with
      | some l => capA P c.argTypes.toList l
      | none => none
    | .builtin .min => match evL ng t c.args.toList with
      | some l => lowU ng l
      | none => none
    | .builtin .max => match evL ng t c.args.toList with
      | some l => highU ng l
      | none => none
    | _ => none
  | .typeAssert x _ asserted ok => match ev ng t x with
    | some a => assertA P a asserted ok
    | none => none
  | _ => none

section
variable {P : Program} {g : Inj} {ng : Cx} {t : Tm} {ρ : Operand → Value}

structure ERel (g : Inj) (ng : Cx) (t : Tm) (ρ : Operand → Value) : Prop where
  get : ∀ x v, ev ng t x = some v → VRel g v (ρ x)
  sig : ng.Good g.sig

instance : CoeFun (ERel g ng t ρ) (fun _ => ∀ x v, ev ng t x = some v → VRel g v (ρ x)) := ⟨ERel.get⟩

theorem evL_rel (hρ : ERel g ng t ρ) : ∀ (l : List Operand) (r : List AVal), evL ng t l = some r → LRel g r (l.map ρ)
  | [], r, h => by simp [evL] at h; subst h; exact .nil
  | x :: l, r, h => by
    simp only [evL] at h
    split at h
    · rename_i v s h1 h2
      cases h
      exact .cons _ _ _ _ (hρ x v h1) (evL_rel hρ l s h2)
    · cases h

def ORel (g : Inj) (a : Option AVal) (v : Option Value) : Prop :=
  match a, v with
  | none, none => True
  | some a, some v => VRel g a v
  | _, _ => False

theorem evO_rel (hρ : ERel g ng t ρ) {x : Option Operand} {r : Option AVal} (h : evO ng t x = some r) : ORel g r (x.map ρ) := by
  cases x with
  | none => simp [evO] at h; subst h; trivial
  | some x =>
    simp only [evO] at h
    split at h
    · rename_i v hv; cases h; exact hρ x v hv
    · cases h

theorem run_bndA (w : World) {d top : Nat} {a : Option AVal} {v : Option Value} {n : Nat} (h : bndA d top a = some n) (hr : ORel g a v) (code : BoundsCode) :
    (match v with
      | some v => Instr.sliceBound v top code
      | none => pure d : Sem Nat).run P w = .ok n w := by
  unfold bndA at h
  split at h
  · cases v with
    | none => cases h; simp
    | some v => exact hr.elim
  · split at h
    · rename_i hc
      cases h
      cases v with
      | none => exact hr.elim
      | some v => cases hr; exact run_sliceBound w _ _ _ code hc.1 hc.2
    · cases h
  · cases h

theorem bndA_mono {d top top' n : Nat} {v : AVal} (h : bndA d top (some v) = some n) (hc : top ≤ top') : bndA d top' (some v) = some n := by
  cases v <;> simp only [bndA] at h ⊢
  all_goals first | (cases h; done) | skip
  split at h
  · rename_i hc2
    rw [if_pos ⟨hc2.1, by omega⟩]; exact h
  · cases h

theorem bndA_le {top n : Nat} {a : Option AVal} {d : Nat} (h : bndA d top a = some n) (hd : d ≤ top) : n ≤ top := by
  unfold bndA at h
  split at h
  · cases h; exact hd
  · split at h
    · cases h; omega
    · cases h
  · cases h

theorem bnds_le' {len cap l h m : Nat} {lo hi mx : Option AVal} (he : bndsA len cap lo hi mx = some (l, h, m)) (hlc : hi = none → len ≤ m) : l ≤ m ∧ h ≤ m ∧ l ≤ h := by
  unfold bndsA at he
  split at he
  · split at he
    · rename_i m' hm' h' hh'
      split at he
      · rename_i l' hl'
        cases he
        have h1 : l ≤ h := bndA_le hl' (Nat.zero_le _)
        have h2 : h ≤ m := by
          split at hh'
          · cases hh'
          · cases hi with
            | none => simp only [bndA] at hh'; cases hh'; exact hlc rfl
            | some v =>
              have := bndA_mono hh' (Nat.le_refl _)
              unfold bndA at this
              split at this
              · rename_i e; cases e
              · split at this
                · cases this; omega
                · cases this
              · cases this
        exact ⟨by omega, h2, h1⟩
      · cases he
    · cases he
  · cases he

theorem bnds_lh {len cap l h m : Nat} {lo hi mx : Option AVal} (he : bndsA len cap lo hi mx = some (l, h, m)) : l ≤ h := by
  unfold bndsA at he
  split at he
  · split at he
    · split at he
      · rename_i l' hl'
        cases he
        exact bndA_le hl' (Nat.zero_le _)
      · cases he
    · cases he
  · cases he

theorem bnds_cap {len cap l h m : Nat} {lo hi mx : Option AVal} (he : bndsA len cap lo hi mx = some (l, h, m)) : m ≤ cap := by
  unfold bndsA at he
  split at he
  · rename_i m' hm'
    have := bndA_le hm' (Nat.le_refl _)
    split at he
    · split at he
      · cases he; exact this
      · cases he
    · cases he
  · cases he

/-- where what is left has as much room, or more -/
theorem run_bndsA (w : World) {len cap cap' : Nat} {lo hi mx : Option AVal} {lo' hi' mx' : Option Value} {l h m : Nat} (he : bndsA len cap lo hi mx = some (l, h, m)) (isS : Bool)
    (hl : ORel g lo lo') (hh : ORel g hi hi') (hm : ORel g mx mx') (hc : cap ≤ cap') :
    (Instr.sliceBounds isS len cap' lo' hi' mx').run P w = .ok (l, h, if mx.isSome then m else cap') w ∧ (mx.isSome = false → m = cap) := by
  unfold bndsA at he
  cases mx with
  | none =>
    cases mx' with
    | some v => exact hm.elim
    | none =>
      simp only [show bndA cap cap none = some cap from rfl] at he
      cases hi with
      | none =>
        cases hi' with
        | some v => exact hh.elim
        | none =>
          simp only [show bndA len cap none = some len from rfl] at he
          split at he
          · rename_i l' hl'
            cases he
            have h1 := run_bndA (P := P) w hl' hl (.sliceB)
            simp only [Instr.sliceBounds]
            cases lo' with
            | none => simp at h1; simp [h1]
            | some v => simp at h1; simp [h1]
          · cases he
      | some hv =>
        cases hi' with
        | none => exact hh.elim
        | some v =>
          split at he
          · rename_i h' hh'
            split at he
            · rename_i l' hl'
              cases he
              have hh2 := bndA_mono hh' hc
              have h2 := run_bndA (P := P) w hh2 (v := some v) hh (if isS then .sliceAcap else .sliceAlen)
              have h1 := run_bndA (P := P) w hl' hl (.sliceB)
              simp only [Instr.sliceBounds]
              simp only at h2
              cases lo' with
              | none => simp at h1; simp [h1, h2]
              | some v => simp at h1; simp [h1, h2]
            · cases he
          · cases he
  | some mv =>
    cases mx' with
    | none => exact hm.elim
    | some mv' =>
      split at he
      · rename_i m' hm'
        have hm2 : bndA cap' cap' (some mv) = some m' := by
          have := bndA_mono hm' hc
          cases mv <;> simpa only [bndA] using this
        have h3 := run_bndA (P := P) w hm2 (v := some mv') hm (if isS then .slice3Acap else .slice3Alen)
        cases hi with
        | none => simp at he
        | some hv =>
          cases hi' with
          | none => exact hh.elim
          | some v =>
            simp only at he
            split at he
            · rename_i h' hh'
              split at he
              · rename_i l' hl'
                cases he
                have h2 := run_bndA (P := P) w hh' (v := some v) hh .slice3B
                have h1 := run_bndA (P := P) w hl' hl (.slice3C)
                simp only [Instr.sliceBounds]
                simp only at h2 h3
                cases lo' with
                | none => simp at h1; simp [h1, h2, h3]
                | some v => simp at h1; simp [h1, h2, h3]
              · cases he
            · cases he
      · cases he

theorem addr_add (b o n : Nat) : Addr.add ⟨b, o, none⟩ n = ⟨b, o + n, none⟩ := Addr.add_lit b o n

theorem run_sliceA (w : World) {ty : TypeId} {x r : AVal} {u : Value} {lo hi mx : Option AVal} {lo' hi' mx' : Option Value} (h : sliceA P ty x lo hi mx = some r) (hx : VRel g x u)
    (hl : ORel g lo lo') (hh : ORel g hi hi') (hm : ORel g mx mx') : ∃ v, (Instr.sliceAt ty u lo' hi' mx').run P w = .ok v w ∧ VRel g r v := by
  unfold sliceA at h
  split at h
  · rename_i n e b off hu
    split at h
    · rename_i inf l hh0 m hi0 hb
      cases h
      cases hx with
      | ptr _ _ L hL =>
        have hr := (run_bndsA (P := P) w hb false hl hh hm (Nat.le_refl n))
        have hm' : (if mx.isSome then m else n) = m := by
          cases hmx : mx.isSome with
          | true => simp
          | false => simpa using (hr.2 hmx).symm
        rw [hm'] at hr
        refine ⟨.slice (some (if m = l then ⟨L.blk, L.dl + off, none⟩ else (⟨L.blk, L.dl + off, none⟩ : Addr).add (l * P.cellsOf e))) (hh0 - l) (m - l), ?_, ?_⟩
        · simp [Instr.sliceAt, run_underlying hu, Instr.sureAddr, hr.1, run_sizeOf' w hi0, cellsOf_info hi0]
        · have := VRel.slice (g := g) b (if m = l then off else off + l * P.cellsOf e) (hh0 - l) (m - l) none (if m = l then off else off + l * P.cellsOf e) (m - l) L hL (.inl rfl) (fun _ => rfl) (by simp)
          have e1 : (if m = l then (⟨L.blk, L.dl + off, none⟩ : Addr) else (⟨L.blk, L.dl + off, none⟩ : Addr).add (l * P.cellsOf e)) = ⟨L.blk, L.dl + (if m = l then off else off + l * P.cellsOf e), none⟩ := by
            split
            · rfl
            · rw [addr_add, Nat.add_assoc]
          rw [e1]; exact this
    · cases h
  · rename_i e b off len cap hu
    split at h
    · rename_i inf l hh0 m hi0 hb
      cases h
      cases hx with
      | slice _ _ _ _ _ o' cap' L hL h0 h1 h2 =>
        have hc := h1 rfl
        subst hc
        have ho : o' = off := by rcases h0 with h0 | h0; exact h0; exact absurd rfl h0.2.2
        subst ho
        have hr := (run_bndsA (P := P) w hb true hl hh hm (Nat.le_refl cap'))
        have hm' : (if mx.isSome then m else cap') = m := by
          cases hmx : mx.isSome with
          | true => simp
          | false => simpa using (hr.2 hmx).symm
        rw [hm'] at hr
        refine ⟨.slice (some (if m = l then ⟨L.blk, L.dl + o', none⟩ else (⟨L.blk, L.dl + o', none⟩ : Addr).add (l * P.cellsOf e))) (hh0 - l) (m - l), ?_, ?_⟩
        · simp [Instr.sliceAt, Instr.slice, run_underlying hu, hr.1, run_sizeOf' w hi0, cellsOf_info hi0]
          split <;> simp
        · have := VRel.slice (g := g) b (if m = l then o' else o' + l * P.cellsOf e) (hh0 - l) (m - l) none (if m = l then o' else o' + l * P.cellsOf e) (m - l) L hL (.inl rfl) (fun _ => rfl) (by simp)
          have e1 : (if m = l then (⟨L.blk, L.dl + o', none⟩ : Addr) else (⟨L.blk, L.dl + o', none⟩ : Addr).add (l * P.cellsOf e)) = ⟨L.blk, L.dl + (if m = l then o' else o' + l * P.cellsOf e), none⟩ := by
            split
            · rfl
            · rw [addr_add, Nat.add_assoc]
          rw [e1]; exact this
    · cases h
  · rename_i e b off len cap z hu
    split at h
    · rename_i inf l hh0 m hi0 hb
      cases hx with
      | slice _ _ _ _ _ o' cap' L hL h0 h1 h2 =>
        obtain ⟨hcc, hfit⟩ := h2 z rfl
        have hr := (run_bndsA (P := P) w hb true hl hh hm hcc)
        split at h
        · rename_i hz
          obtain ⟨rfl, hpos, hhm⟩ := hz
          have ho : o' = off := by rcases h0 with h0 | h0; exact h0; omega
          subst ho
          split at h
          · cases h
            rename_i mv
            simp only [Option.isSome_some, if_true] at hr
            refine ⟨.slice (some (if m = l then ⟨L.blk, L.dl + o', none⟩ else (⟨L.blk, L.dl + o', none⟩ : Addr).add (l * P.cellsOf e))) (hh0 - l) (m - l), ?_, ?_⟩
            · simp [Instr.sliceAt, Instr.slice, run_underlying hu, hr.1, run_sizeOf' w hi0, cellsOf_info hi0]
              split <;> simp
            · have := VRel.slice (g := g) b (if m = l then o' else o' + l * P.cellsOf e) (hh0 - l) (m - l) none (if m = l then o' else o' + l * P.cellsOf e) (m - l) L hL (.inl rfl) (fun _ => rfl) (by simp)
              have e1 : (if m = l then (⟨L.blk, L.dl + o', none⟩ : Addr) else (⟨L.blk, L.dl + o', none⟩ : Addr).add (l * P.cellsOf e)) = ⟨L.blk, L.dl + (if m = l then o' else o' + l * P.cellsOf e), none⟩ := by
                split
                · rfl
                · rw [addr_add, Nat.add_assoc]
              rw [e1]; exact this
          · cases h
            simp only [Option.isSome_none, Bool.false_eq_true, if_false] at hr
            have hmc : m = cap := hr.2 trivial
            have hlh : l ≤ hh0 := bnds_lh hb
            refine ⟨.slice (some (if cap' = l then ⟨L.blk, L.dl + o', none⟩ else (⟨L.blk, L.dl + o', none⟩ : Addr).add (l * P.cellsOf e))) (hh0 - l) (cap' - l), ?_, ?_⟩
            · simp [Instr.sliceAt, Instr.slice, run_underlying hu, hr.1, run_sizeOf' w hi0, cellsOf_info hi0]
              split <;> simp
            · by_cases hcl : cap' = l
              · rw [if_pos hcl]
                refine VRel.slice (g := g) b _ (hh0 - l) (m - l) _ o' (cap' - l) L hL (.inr ⟨by omega, by omega, by simp⟩) (by simp) ?_
                intro z hz
                cases hz
                have : (cap' - l) * P.cellsOf e ≤ cap' * P.cellsOf e := Nat.mul_le_mul_right _ (by omega)
                exact ⟨by omega, by omega⟩
              · rw [if_neg hcl, addr_add, Nat.add_assoc]
                refine VRel.slice (g := g) b _ (hh0 - l) (m - l) _ (o' + l * P.cellsOf e) (cap' - l) L hL (.inl rfl) (by simp) ?_
                intro z hz
                cases hz
                have : l * P.cellsOf e + (cap' - l) * P.cellsOf e = cap' * P.cellsOf e := by rw [← Nat.add_mul]; congr 1; omega
                exact ⟨by omega, by omega⟩
        · split at h
          · rename_i hz
            obtain ⟨rfl, rfl, hmx⟩ := hz
            cases h
            cases mx with
            | some _ => simp at hmx
            | none =>
              simp only [Option.isSome_none, Bool.false_eq_true, if_false] at hr
              refine ⟨.slice (some ⟨L.blk, L.dl + o', none⟩) 0 cap', ?_, ?_⟩
              · simp [Instr.sliceAt, Instr.slice, run_underlying hu, hr.1, run_sizeOf' w hi0, Addr.add]
              · exact VRel.slice (g := g) b _ 0 0 _ o' cap' L hL (.inr ⟨rfl, rfl, by simp⟩) (by simp) (fun z hz => by cases hz; exact ⟨Nat.zero_le _, hfit⟩)
          · cases h
    · cases h
  · rename_i e hu
    split at h
    · rename_i inf lhm hi0 hb
      obtain ⟨l, hh0, m⟩ := lhm
      cases h
      cases hx
      have hr := (run_bndsA (P := P) w hb true hl hh hm (Nat.le_refl 0))
      have hle := bnds_le' hb (fun _ => Nat.zero_le _)
      have hle2 := bnds_cap hb
      have hl0 : l = 0 := by omega
      have hh00 : hh0 = 0 := by omega
      have hm0 : m = 0 := by omega
      subst hl0; subst hh00; subst hm0
      refine ⟨.slice none 0 0, ?_, .nilslice⟩
      simp at hr
      simp [Instr.sliceAt, Instr.slice, run_underlying hu, hr, run_sizeOf' w hi0]
    · cases h
  · rename_i s hu
    split at h
    · rename_i l hh0 m hb
      cases h
      cases hx
      cases mx' with
      | some v => exact hm.elim
      | none =>
        have hr := (run_bndsA (P := P) w hb false hl hh (mx' := none) trivial (Nat.le_refl _))
        refine ⟨.string (s.extract l hh0), ?_, .str _⟩
        simp at hr
        simp [Instr.sliceAt, Instr.slice, run_underlying hu, hr]
    · cases h
  · cases h
end
end Go.Ev
