/- The abstract values, blocks and heaps of the evaluator, and how they stand for the model's. -/
import Derived.Orders
import Derived.Eval
import Derived.Laws.CopyOwn
import Derived.Laws.Slices
import Derived.Laws.StructEq
import Derived.Laws.Build
import Derived.Laws.MakeOwn
import Derived.Laws.IdiomStrings
import Derived.Great.BuildSlice
import Derived.ChangeKeysEq
import Derived.MapKept
namespace Go.Ev

/-- A value whose addresses are numbers of abstract blocks. -/
inductive AVal where
  | bool (b : Bool)
  | int (k : IntKind) (n : Int)
  | float (k : FloatKind) (b : Nat)
  | str (s : ByteArray)
  | nilptr
  | ptr (b off : Nat)
  | nilslice
  | slice (b off len cap : Nat) (ex : Option Nat)      -- none: 'cap' is the capacity; some z: it is no less, of elements of z cells
  | nilmap
  | map (b : Nat)
  | nilfunc
  | func (fn : Fn) (first captured : List AVal)
  | niliface
  | iface (t : TypeId) (v : AVal)
  | agg (l : List AVal)
  | tuple (l : List AVal)

instance : Inhabited AVal := ⟨.nilptr⟩

inductive Blk where
  | cells (c : List AVal) (e : TypeId)
  | map (l : List (AVal × AVal))
  | gone

instance : Inhabited Blk := ⟨.gone⟩

/-- Heap, and which blocks were written. -/
structure Hp where
  heap : List Blk
  log : List Nat

abbrev Tm := List (Option AVal)

def undefA : AVal := .tuple []

def ofV0 : Value → Option AVal
  | .bool b => some (.bool b)
  | .int k n => some (.int k n)
  | .float k b => some (.float k b)
  | .string s => some (.str s)
  | .pointer none => some .nilptr
  | .slice none 0 0 => some .nilslice
  | .map none => some .nilmap
  | .nilFunc => some .nilfunc
  | .nilIface => some .niliface
  | .func fn ⟨[]⟩ ⟨[]⟩ => some (.func fn [] [])
  | _ => none

def ofVL : List Value → Option (List AVal)
  | [] => some []
  | v :: l => match ofV0 v with
    | some a => match ofVL l with
      | some r => some (a :: r)
      | none => none
    | none => none

def ofV : Value → Option AVal
  | .agg cs => match ofVL cs.toList with
    | some l => some (.agg l)
    | none => none
  | .tuple cs => match ofVL cs.toList with
    | some l => some (.tuple l)
    | none => none
  | .iface t v => match ofV0 v with
    | some a => some (.iface t a)
    | none => none
  | v => ofV0 v

def ev (ng : Nat) (t : Tm) : Operand → Option AVal
  | .tmp i => match t[i]? with
    | some o => o
    | none => none
  | .const v => ofV v
  | .global g => if g < ng then some (.ptr g 0) else none
  | .func f => some (.func (.func f) [] [])

def acells : AVal → List AVal
  | .agg l => l
  | v => [v]

def scalar : AVal → Bool
  | .agg _ | .tuple _ => false
  | _ => true

/-- Where an abstract block lies: the block, from which cell on, how many cells. -/
structure Loc where
  blk : Nat
  dl : Nat
  n : Nat

abbrev Inj := Nat → Option Loc

mutual
inductive VRel (g : Inj) : AVal → Value → Prop
  | bool (b : Bool) : VRel g (.bool b) (.bool b)
  | int (k : IntKind) (n : Int) : VRel g (.int k n) (.int k n)
  | float (k : FloatKind) (n : Nat) : VRel g (.float k n) (.float k n)
  | str (s : ByteArray) : VRel g (.str s) (.string s)
  | nilptr : VRel g .nilptr (.pointer none)
  | ptr (b off : Nat) (L : Loc) : g b = some L → VRel g (.ptr b off) (.pointer (some ⟨L.blk, L.dl + off, none⟩))
  | nilslice : VRel g .nilslice (.slice none 0 0)
  | slice (b off len cap : Nat) (ex : Option Nat) (o' cap' : Nat) (L : Loc) : g b = some L → (o' = off ∨ (len = 0 ∧ cap = 0 ∧ ex ≠ none)) → (ex = none → cap' = cap) →
      (∀ z, ex = some z → cap ≤ cap' ∧ o' + cap' * z ≤ L.n) → VRel g (.slice b off len cap ex) (.slice (some ⟨L.blk, L.dl + o', none⟩) len cap')
  | nilmap : VRel g .nilmap (.map none)
  | map (b : Nat) (L : Loc) : g b = some L → VRel g (.map b) (.map (some L.blk))
  | nilfunc : VRel g .nilfunc .nilFunc
  | func (fn : Fn) (f c : List AVal) (f' c' : Array Value) : LRel g f f'.toList → LRel g c c'.toList → VRel g (.func fn f c) (.func fn f' c')
  | niliface : VRel g .niliface .nilIface
  | iface (t : TypeId) (v : AVal) (v' : Value) : VRel g v v' → VRel g (.iface t v) (.iface t v')
  | agg (l : List AVal) (l' : Array Value) : LRel g l l'.toList → VRel g (.agg l) (.agg l')
  | tuple (l : List AVal) (l' : Array Value) : LRel g l l'.toList → VRel g (.tuple l) (.tuple l')
inductive LRel (g : Inj) : List AVal → List Value → Prop
  | nil : LRel g [] []
  | cons (a : AVal) (v : Value) (l : List AVal) (m : List Value) : VRel g a v → LRel g l m → LRel g (a :: l) (v :: m)
end

def Sub (g g' : Inj) : Prop := ∀ i L, g i = some L → g' i = some L

theorem Sub.refl (g : Inj) : Sub g g := fun _ _ h => h
theorem Sub.trans {a b c : Inj} (h : Sub a b) (h' : Sub b c) : Sub a c := fun i L hi => h' i L (h i L hi)

mutual
theorem VRel.mono {g g' : Inj} (hs : Sub g g') : ∀ {a : AVal} {v : Value}, VRel g a v → VRel g' a v
  | _, _, .bool b => .bool b
  | _, _, .int k n => .int k n
  | _, _, .float k n => .float k n
  | _, _, .str s => .str s
  | _, _, .nilptr => .nilptr
  | _, _, .ptr b off L h => .ptr b off L (hs _ _ h)
  | _, _, .nilslice => .nilslice
  | _, _, .slice b off len cap ex o' cap' L h h0 h1 h2 => .slice b off len cap ex o' cap' L (hs _ _ h) h0 h1 h2
  | _, _, .nilmap => .nilmap
  | _, _, .map b L h => .map b L (hs _ _ h)
  | _, _, .nilfunc => .nilfunc
  | _, _, .func fn f c f' c' h1 h2 => .func fn f c f' c' (LRel.mono hs h1) (LRel.mono hs h2)
  | _, _, .niliface => .niliface
  | _, _, .iface t v v' h => .iface t v v' (VRel.mono hs h)
  | _, _, .agg l l' h => .agg l l' (LRel.mono hs h)
  | _, _, .tuple l l' h => .tuple l l' (LRel.mono hs h)
theorem LRel.mono {g g' : Inj} (hs : Sub g g') : ∀ {a : List AVal} {v : List Value}, LRel g a v → LRel g' a v
  | _, _, .nil => .nil
  | _, _, .cons a v l m h h' => .cons a v l m (VRel.mono hs h) (LRel.mono hs h')
end

/- What stands for one abstract value under a finer map is what stood for it. -/
mutual
theorem VRel.back' {g g' : Inj} (hs : Sub g g') : ∀ {a : AVal} {v u : Value}, VRel g a v → VRel g' a u → VRel g a u
  | _, _, _, .bool b, .bool _ => .bool b
  | _, _, _, .int k n, .int _ _ => .int k n
  | _, _, _, .float k n, .float _ _ => .float k n
  | _, _, _, .str s, .str _ => .str s
  | _, _, _, .nilptr, .nilptr => .nilptr
  | _, _, _, .ptr b off L h, .ptr _ _ M h' => by
      have : M = L := by have := hs _ _ h; rw [this] at h'; exact (Option.some.inj h').symm
      subst this; exact .ptr b off M h
  | _, _, _, .nilslice, .nilslice => .nilslice
  | _, _, _, .slice b off len cap ex _ _ L h _ _ _, .slice _ _ _ _ _ o'' cap'' M h' h0' h1' h2' => by
      have : M = L := by have := hs _ _ h; rw [this] at h'; exact (Option.some.inj h').symm
      subst this; exact .slice b off len cap ex o'' cap'' M h h0' h1' h2'
  | _, _, _, .nilmap, .nilmap => .nilmap
  | _, _, _, .map b L h, .map _ M h' => by
      have : M = L := by have := hs _ _ h; rw [this] at h'; exact (Option.some.inj h').symm
      subst this; exact .map b M h
  | _, _, _, .nilfunc, .nilfunc => .nilfunc
  | _, _, _, .func fn f c _ _ h1 h2, .func _ _ _ f'' c'' h1' h2' => .func fn f c f'' c'' (LRel.back hs h1 h1') (LRel.back hs h2 h2')
  | _, _, _, .niliface, .niliface => .niliface
  | _, _, _, .iface t v _ h, .iface _ _ u h' => .iface t v u (VRel.back' hs h h')
  | _, _, _, .agg l _ h, .agg _ l'' h' => .agg l l'' (LRel.back hs h h')
  | _, _, _, .tuple l _ h, .tuple _ l'' h' => .tuple l l'' (LRel.back hs h h')
theorem LRel.back {g g' : Inj} (hs : Sub g g') : ∀ {a : List AVal} {v u : List Value}, LRel g a v → LRel g' a u → LRel g a u
  | _, _, _, .nil, .nil => .nil
  | _, _, _, .cons a _ l _ h k, .cons _ v' _ m' h' k' => .cons a v' l m' (VRel.back' hs h h') (LRel.back hs k k')
end

theorem LRel.length {g : Inj} : ∀ {a : List AVal} {v : List Value}, LRel g a v → a.length = v.length
  | _, _, .nil => rfl
  | _, _, .cons _ _ _ _ _ h => by simp [LRel.length h]

theorem LRel.get {g : Inj} : ∀ {l : List AVal} {m : List Value}, LRel g l m → ∀ (i : Nat) (a : AVal), l[i]? = some a → ∃ v, m[i]? = some v ∧ VRel g a v
  | _, _, .cons a v l m h _, 0, b, hb => by simp at hb; subst hb; exact ⟨v, by simp, h⟩
  | _, _, .cons a v l m _ h, i + 1, b, hb => by
    obtain ⟨u, h1, h2⟩ := LRel.get h i b (by simpa using hb)
    exact ⟨u, by simpa using h1, h2⟩

theorem LRel.of_get {g : Inj} : ∀ {l : List AVal} {m : List Value}, l.length = m.length → (∀ (i : Nat) (a : AVal), l[i]? = some a → ∃ v, m[i]? = some v ∧ VRel g a v) → LRel g l m
  | [], [], _, _ => .nil
  | a :: l, v :: m, hl, h => by
    obtain ⟨u, h1, h2⟩ := h 0 a (by simp)
    simp at h1; subst h1
    exact .cons a v l m h2 (LRel.of_get (by simpa using hl) fun i b hb => by simpa using h (i + 1) b (by simpa using hb))

theorem LRel.append {g : Inj} : ∀ {l : List AVal} {m : List Value} {l' : List AVal} {m' : List Value}, LRel g l m → LRel g l' m' → LRel g (l ++ l') (m ++ m')
  | _, _, _, _, .nil, h => h
  | _, _, _, _, .cons a v l m h k, h' => .cons a v _ _ h (LRel.append k h')

theorem LRel.drop {g : Inj} : ∀ {l : List AVal} {m : List Value}, LRel g l m → ∀ n, LRel g (l.drop n) (m.drop n)
  | _, _, h, 0 => by simpa using h
  | _, _, .nil, n + 1 => by simpa using LRel.nil
  | _, _, .cons _ _ _ _ _ h, n + 1 => by simpa using LRel.drop h n

theorem LRel.take {g : Inj} : ∀ {l : List AVal} {m : List Value}, LRel g l m → ∀ n, LRel g (l.take n) (m.take n)
  | _, _, _, 0 => by simpa using LRel.nil
  | _, _, .nil, n + 1 => by simpa using LRel.nil
  | _, _, .cons a v _ _ h k, n + 1 => by simpa using LRel.cons a v _ _ h (LRel.take k n)

theorem VRel.cells {g : Inj} {a : AVal} {v : Value} (h : VRel g a v) : LRel g (acells a) v.cells.toList := by
  cases h <;> first
    | (rename_i h; simpa [acells, Value.cells] using h)
    | (simp only [acells, Value.cells]; refine .cons _ _ _ _ ?_ .nil; constructor <;> assumption)

theorem VRel.scalar {g : Inj} {a : AVal} {v : Value} (h : VRel g a v) (hs : scalar a = true) : v.oneCell' = true := by
  cases h <;> first | rfl | (simp [Ev.scalar] at hs)

theorem ofV0_rel {v : Value} {a : AVal} (h : ofV0 v = some a) (g : Inj) : VRel g a v := by
  unfold ofV0 at h
  split at h <;> first | (injection h with h; subst h; constructor) | cases h
  all_goals constructor

theorem ofVL_rel : ∀ {l : List Value} {r : List AVal}, ofVL l = some r → ∀ (g : Inj), LRel g r l
  | [], r, h, g => by simp [ofVL] at h; subst h; exact .nil
  | v :: l, r, h, g => by
    simp only [ofVL] at h
    cases h0 : ofV0 v with
    | none => simp [h0] at h
    | some a =>
      cases h1 : ofVL l with
      | none => simp [h0, h1] at h
      | some s =>
        simp [h0, h1] at h
        subst h
        exact .cons _ _ _ _ (ofV0_rel h0 g) (ofVL_rel h1 g)

theorem ofV_rel {v : Value} {a : AVal} (h : ofV v = some a) (g : Inj) : VRel g a v := by
  unfold ofV at h
  split at h
  · split at h
    · rename_i hl; cases h; exact .agg _ _ (ofVL_rel hl g)
    · cases h
  · split at h
    · rename_i hl; cases h; exact .tuple _ _ (ofVL_rel hl g)
    · cases h
  · split at h
    · rename_i hl; cases h; exact .iface _ _ _ (ofV0_rel hl g)
    · cases h
  · exact ofV0_rel h g

def Live (H : List Blk) (i : Nat) : Prop := ∃ k, H[i]? = some k ∧ k ≠ .gone

def CRel (g : Inj) (c : List AVal) (C : Array Value) (d : Nat) : Prop :=
  ∀ i a, c[i]? = some a → ∃ v, C[d + i]? = some v ∧ VRel g a v ∧ v.oneCell' = true

/-- The entries of a map. -/
inductive MRel (g : Inj) : List (AVal × AVal) → List MapEntry → Prop
  | nil : MRel g [] []
  | cons (k v : AVal) (e : MapEntry) (l : List (AVal × AVal)) (m : List MapEntry) : VRel g k e.key → VRel g v e.val → MRel g l m → MRel g ((k, v) :: l) (e :: m)

theorem MRel.mono {g g' : Inj} (hs : Sub g g') : ∀ {l : List (AVal × AVal)} {m : List MapEntry}, MRel g l m → MRel g' l m
  | _, _, .nil => .nil
  | _, _, .cons k v e l m h1 h2 h => .cons k v e l m (h1.mono hs) (h2.mono hs) (MRel.mono hs h)

theorem MRel.back {g g' : Inj} (hs : Sub g g') : ∀ {l : List (AVal × AVal)} {m m' : List MapEntry}, MRel g l m → MRel g' l m' → MRel g l m'
  | _, _, _, .nil, .nil => .nil
  | _, _, _, .cons k v _ l _ h1 h2 h, .cons _ _ e _ m' h1' h2' h' => .cons k v e l m' (VRel.back' hs h1 h1') (VRel.back' hs h2 h2') (MRel.back hs h h')

theorem MRel.snoc {g : Inj} {k v : AVal} {e : MapEntry} (h1 : VRel g k e.key) (h2 : VRel g v e.val) : ∀ {l : List (AVal × AVal)} {m : List MapEntry}, MRel g l m → MRel g (l ++ [(k, v)]) (m ++ [e])
  | _, _, .nil => .cons k v e [] [] h1 h2 .nil
  | _, _, .cons k' v' e' l m h1' h2' h => .cons k' v' e' _ _ h1' h2' (MRel.snoc h1 h2 h)

def BRel (g : Inj) (w : World) (k : Blk) (L : Loc) : Prop :=
  match k with
  | .gone => True
  | .map l => ∃ es cl es', w.heap[L.blk]? = some (.map es cl) ∧ es.toList.Perm es' ∧ MRel g l es'
  | .cells c e => ∃ C fr, w.heap[L.blk]? = some (.cells C e fr) ∧ C.size = L.dl + L.n ∧ (∀ k, k < C.size → ¬ (fr.1 ≤ k ∧ k < fr.2)) ∧ c.length ≤ L.n ∧ CRel g c C L.dl

structure HRel (ng : Nat) (g : Inj) (H : List Blk) (w : World) : Prop where
  dom : ∀ i L, g i = some L → i < H.length ∧ L.blk < w.heap.size
  inj : ∀ i j L M, g i = some L → g j = some M → L.blk = M.blk → Live H i → Live H j → i = j
  blk : ∀ i k, H[i]? = some k → k ≠ .gone → ∃ L, g i = some L ∧ BRel g w k L
  glob : ∀ i, i < ng → ∃ L, g i = some L ∧ L.blk = i ∧ L.dl = 0

structure Ext (g : Inj) (H : List Blk) (w : World) (g' : Inj) (H' : List Blk) (w' : World) : Prop where
  sub : Sub g g'
  new : ∀ i L, g' i = some L → g i = none → H.length ≤ i ∧ (w.heap.size ≤ L.blk ∨ ∃ j M, g j = some M ∧ M.blk = L.blk ∧ Live H j)
  len : H.length ≤ H'.length
  live : ∀ i, i < H.length → Live H' i → Live H i
  size : w.heap.size ≤ w'.heap.size
  frame : ∀ b, b < w.heap.size → (∀ i L, g i = some L → Live H i → L.blk ≠ b) → w'.heap[b]? = w.heap[b]?
  os : w'.os = w.os
  tape : w'.tape = w.tape
  output : w'.output = w.output

theorem Ext.refl (g : Inj) (H : List Blk) (w : World) : Ext g H w g H w where
  sub := Sub.refl g
  new := fun i L h h' => by rw [h] at h'; cases h'
  len := Nat.le_refl _
  live := fun _ _ h => h
  size := Nat.le_refl _
  frame := fun _ _ _ => rfl
  os := rfl
  tape := rfl
  output := rfl

theorem Ext.trans {ng : Nat} {g g' g'' : Inj} {H H' H'' : List Blk} {w w' w'' : World} (h0 : HRel ng g H w) (h : Ext g H w g' H' w') (h' : Ext g' H' w' g'' H'' w'') : Ext g H w g'' H'' w'' where
  sub := h.sub.trans h'.sub
  new := by
    intro i L hi hn
    cases hg : g' i with
    | some M =>
      have := h'.sub i M hg
      rw [this] at hi; cases hi
      exact h.new i _ hg hn
    | none =>
      obtain ⟨hl, hb⟩ := h'.new i L hi hg
      refine ⟨Nat.le_trans h.len hl, ?_⟩
      rcases hb with hb | ⟨j, M, hj, hM, hlive⟩
      · exact .inl (Nat.le_trans h.size hb)
      · cases hgj : g j with
        | some N =>
          have := h.sub j N hgj
          rw [this] at hj; cases hj
          exact .inr ⟨j, _, hgj, hM, h.live j (h0.dom j _ hgj).1 hlive⟩
        | none =>
          obtain ⟨_, hb⟩ := h.new j M hj hgj
          rw [← hM]; exact hb
  len := Nat.le_trans h.len h'.len
  live := fun i hi hl => h.live i hi (h'.live i (Nat.lt_of_lt_of_le hi h.len) hl)
  size := Nat.le_trans h.size h'.size
  frame := by
    intro b hb hno
    have h1 := h.frame b hb hno
    refine (h'.frame b (Nat.lt_of_lt_of_le hb h.size) ?_).trans h1
    intro i L hi hl he
    cases hg : g i with
    | some M =>
      have := h.sub i M hg
      rw [this] at hi; cases hi
      exact hno i _ hg (h.live i (h0.dom i _ hg).1 hl) he
    | none =>
      obtain ⟨_, hb'⟩ := h.new i L hi hg
      rcases hb' with hb' | ⟨j, M, hj, hM, hlive⟩
      · omega
      · exact hno j M hj hlive (hM.trans he)
  os := h'.os.trans h.os
  tape := h'.tape.trans h.tape
  output := h'.output.trans h.output

theorem BRel.mono {g g' : Inj} {w : World} {k : Blk} {L : Loc} (hs : Sub g g') (h : BRel g w k L) : BRel g' w k L := by
  cases k with
  | gone => trivial
  | map l =>
    obtain ⟨es, cl, es', h1, h2, h3⟩ := h
    exact ⟨es, cl, es', h1, h2, h3.mono hs⟩
  | cells c e =>
    obtain ⟨C, fr, h1, h2, h4, h5, h6⟩ := h
    exact ⟨C, fr, h1, h2, h4, h5, fun i a hi => let ⟨v, a1, a2, a3⟩ := h6 i a hi; ⟨v, a1, a2.mono hs, a3⟩⟩

theorem BRel.of_same {g : Inj} {w w' : World} {k : Blk} {L : Loc} (hb : w'.heap[L.blk]? = w.heap[L.blk]?) (h : BRel g w k L) : BRel g w' k L := by
  cases k with
  | gone => trivial
  | map l => simpa only [BRel, hb] using h
  | cells c e => simpa only [BRel, hb] using h

def TRel (g : Inj) (t : Tm) (a : Act) : Prop :=
  t.length ≤ a.tmps.size ∧ ∀ (i : Nat) (v : AVal), t[i]? = some (some v) → ∃ u, a.tmps[i]? = some u ∧ VRel g v u

theorem TRel.mono {g g' : Inj} {t : Tm} {a : Act} (hs : Sub g g') (h : TRel g t a) : TRel g' t a :=
  ⟨h.1, fun i v hi => let ⟨u, h1, h2⟩ := h.2 i v hi; ⟨u, h1, h2.mono hs⟩⟩

theorem TRel.eval {g : Inj} {ng : Nat} {t : Tm} {a : Act} (h : TRel g t a) (hG : ∀ i, i < ng → ∃ L, g i = some L ∧ L.blk = i ∧ L.dl = 0) {x : Operand} {v : AVal} (hv : ev ng t x = some v) :
    VRel g v (a.eval x) := by
  cases x with
  | tmp i =>
    simp only [ev] at hv
    split at hv
    · rename_i o ho
      subst hv
      obtain ⟨u, h1, h2⟩ := h.2 i v ho
      simpa [Act.eval, h1] using h2
    · cases hv
  | const c => exact ofV_rel hv g
  | global j =>
    simp only [ev] at hv
    split at hv
    · rename_i hj
      cases hv
      obtain ⟨L, h1, h2, h3⟩ := hG j hj
      have := VRel.ptr j 0 L h1
      simpa [Act.eval, h2, h3] using this
    · cases hv
  | func f =>
    simp only [ev] at hv; cases hv
    exact .func _ _ _ _ _ .nil .nil

end Go.Ev
