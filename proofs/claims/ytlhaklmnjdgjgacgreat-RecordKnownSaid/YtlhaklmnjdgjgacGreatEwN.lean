/- The evaluator: a region that draws its order, and the looks that make each order the same. -/
import Derived.Test.YtlhaklmnjdgjgacGreatEwM
namespace Go.Ev

def onlyL (t : Tm) : List Tmp → List (Nat × AVal)
  | [] => []
  | d :: ds => match t.get d with
    | some v => (d, v) :: onlyL t ds
    | none => onlyL t ds

def only (t : Tm) (ds : List Tmp) : Tm := ⟨t.len, .al (onlyL t ds), []⟩

def maskOf (acc : List Nat) (o : Oper) : Nat :=
  o.after.toList.foldl (fun s e => if Region.binds .any e then s ||| 2 ^ e.on ||| (acc[e.on]?).getD 0 else s) 0

/-- of each operation, those that are ahead of it by its edges, as bits -/
def ancsA (acc : List Nat) : List Oper → List Nat
  | [] => acc
  | o :: l => ancsA (acc ++ [maskOf acc o]) l

def ancB (ms : List Nat) (i j : Nat) : Bool := ((ms[i]?).getD 0).testBit j

def edgeOk : Nat → List Oper → Bool
  | _, [] => true
  | i, o :: l => (o.after.toList.all fun e => !Region.binds .any e || decide (e.on < i)) && edgeOk (i + 1) l

def dstOk : List Oper → Bool
  | [] => true
  | o :: l => (match o.dst with
    | none => true
    | some d => l.all fun q => q.dst != some d) && dstOk l

def readsOk (ops : Array Oper) (ms : List Nat) (all : List (Oper × Nat)) : Bool :=
  all.all fun x => (x.1.looksAt ops).all fun d => all.all fun y => (y.1.dst != some d) || (y.2 == x.2) || ancB ms x.2 y.2 || ancB ms y.2 x.2

def isEffB : DK → Bool
  | .eff _ => true
  | _ => false

def effsOk (ms : List Nat) (ks : List (DK × Nat)) : Bool :=
  ks.all fun x => !isEffB x.1 || ks.all fun y => !isEffB y.1 || !decide (x.2 < y.2) || ancB ms y.2 x.2

def loadsOk (ms : List Nat) (ks : List (DK × Nat)) : Bool :=
  ks.all fun x => match x.1 with
    | .load (some b) => ks.all fun y => match y.1 with
      | .eff pre => ancB ms x.2 y.2 || ancB ms y.2 x.2 || !pre.contains b
      | .mk z => !Nat.beq z b
      | _ => true
    | _ => true

/-- each entry is laid into a map that is ahead of it, and no two have one key -/
def insOk (ms : List Nat) (ks : List (DK × Nat)) : Bool :=
  ks.all fun x => match x.1 with
    | .ins z d k _ => (ks.any fun y => match y.1 with
        | .mk z' => Nat.beq z' z && ancB ms x.2 y.2
        | _ => false) && ks.all fun y => match y.1 with
        | .ins z' _ k' _ => !Nat.beq z' z || Nat.beq x.2 y.2 || ((keyA d k').isSome && !sameA k' k)
        | _ => true
    | _ => true

/-- the slots of new blocks that are not ahead of operation i, and of new maps -/
def maskIds (ms : List Nat) (i : Nat) : Nat → List DK → List Nat
  | _, [] => []
  | j, k :: l => match k with
    | .fresh x _ _ => if ancB ms i j then maskIds ms i (j + 1) l else x :: maskIds ms i (j + 1) l
    | .mk x => x :: maskIds ms i (j + 1) l
    | _ => maskIds ms i (j + 1) l

def maskL : List Nat → List Blk → List Blk
  | [], H => H
  | x :: ids, H => maskL ids (H.set x .gone)

def restL (old : List Blk) : List Nat → List Blk → List Blk
  | [], H => H
  | x :: ids, H => restL old ids (match old[x]? with
    | some k => H.set x k
    | none => H)

/-- What comes of an attempt. -/
inductive Res (α : Type) where
  | ok (a : α)
  | ask (x : Ask)
  | no

def resO {α : Type} (o : Option α) (x : Option Ask) : Res α :=
  match o with
  | some a => .ok a
  | none => match x with
    | some x => .ask x
    | none => .no

theorem resO_ok {α : Type} {o : Option α} {x : Option Ask} {a : α} (h : resO o x = .ok a) : o = some a := by
  unfold resO at h
  split at h
  · cases h; rfl
  · split at h <;> cases h

structure Hq where
  hp : Hp

structure DS where
  t : Tm
  s : Hq
  nx : Nat
  kds : List DK

def isMk (x : Nat) : List DK → Bool
  | [] => false
  | .mk y :: l => Nat.beq y x || isMk x l
  | _ :: l => isMk x l

/-- A new map; an entry of one that is new here. -/
def mapOp (P : Program) (ng : Cx) (t : Tm) (kds : List DK) : Op → Option (Option (Nat × TypeDesc × AVal × AVal))
  | .makeMap _ none => some none
  | .insert ty m k v => match ev ng t m with
    | some (.map x) => match isMk x kds with
      | true => match P.underlying ty with
        | some (.map kt _) => match P.underlying kt with
          | some d => match ev ng t k, ev ng t v with
            | some kv, some vv => match keyA d kv with
              | some _ => some (some (x, d, kv, vv))
              | none => none
            | _, _ => none
          | none => none
        | _ => none
      | false => none
    | _ => none
  | _ => none

abbrev CallR := FuncId → List AVal → Hp → Res (AVal × Hp)

def dstep (P : Program) (ng : Cx) (call : CallR) (ops : Array Oper) (ms : List Nat) (r1 : Nat) (i : Nat) (o : Oper) (d : DS) : Res DS :=
  match wantedA ng ops.toList (only d.t (o.looksAt ops)) o with
  | none => match askW ng ops.toList d.t o with
    | some x => .ask x
    | none => .no
  | some false => .ok ⟨putA d.t o.dst undefA, d.s, d.nx, d.kds ++ [.lite]⟩
  | some true => match isCallA o.op with
    | some c => match resolveA P ng (only d.t (o.looksAt ops)) c with
      | some (f, args) => match call f args ⟨maskL (maskIds ms i 0 d.kds) d.s.hp.heap, []⟩ with
        | .ok (v, h') => .ok ⟨putA d.t o.dst v, ⟨⟨restL d.s.hp.heap (maskIds ms i 0 d.kds) h'.heap, h'.log ++ d.s.hp.log⟩⟩, d.nx, d.kds ++ [.eff h'.log]⟩
        | .ask x => .ask x
        | .no => .no
      | none => .no
    | none => match mapOp P ng (only d.t (o.looksAt ops)) d.kds o.op with
     | some none => match Nat.blt d.nx r1 with
        | true => .ok ⟨putA d.t o.dst (.map d.nx), ⟨⟨d.s.hp.heap.set d.nx (.map []), d.s.hp.log⟩⟩, d.nx + 1, d.kds ++ [.mk d.nx]⟩
        | false => .no
     | some (some (x, dd, k, v)) => match d.s.hp.heap[x]? with
        | some (.map l) => .ok ⟨putA d.t o.dst undefA, ⟨⟨d.s.hp.heap.set x (.map (l ++ [(k, v)])), d.s.hp.log⟩⟩, d.nx, d.kds ++ [.ins x dd k v]⟩
        | _ => .no
     | none => match kindA P o.op with
      | .pure => match resO (pureA P ng (only d.t (o.looksAt ops)) o.op) (askA P ng d.t o.op d.s.hp.heap) with
        | .ok v => .ok ⟨putA d.t o.dst v, d.s, d.nx, d.kds ++ [.lite]⟩
        | .ask x => .ask x
        | .no => .no
      | .load => match resO (loadA P ng (only d.t (o.looksAt ops)) o.op d.s.hp.heap) (askA P ng d.t o.op d.s.hp.heap) with
        | .ok (v, b) => .ok ⟨putA d.t o.dst v, d.s, d.nx, d.kds ++ [.load b]⟩
        | .ask x => .ask x
        | .no => .no
      | .fresh => match resO (freshA P ng (only d.t (o.looksAt ops)) o.op) (askA P ng d.t o.op d.s.hp.heap) with
        | .ok (c, e, m) => match Nat.blt d.nx r1 with
          | true => .ok ⟨putA d.t o.dst (m.val d.nx), ⟨⟨d.s.hp.heap.set d.nx (.cells c e), d.s.hp.log⟩⟩, d.nx + 1, d.kds ++ [.fresh d.nx c e]⟩
          | false => .no
        | .ask x => .ask x
        | .no => .no
      | .eff => match resO (effA P ng (only d.t (o.looksAt ops)) o.op ⟨maskL (maskIds ms i 0 d.kds) d.s.hp.heap, []⟩) (askA P ng d.t o.op d.s.hp.heap) with
        | .ok (v, h') => .ok ⟨putA d.t o.dst v, ⟨⟨restL d.s.hp.heap (maskIds ms i 0 d.kds) h'.heap, h'.log ++ d.s.hp.log⟩⟩, d.nx, d.kds ++ [.eff h'.log]⟩
        | .ask x => .ask x
        | .no => .no

def dops (P : Program) (ng : Cx) (call : CallR) (ops : Array Oper) (ms : List Nat) (r1 : Nat) : Nat → List Oper → DS → Res DS
  | _, [], d => .ok d
  | i, o :: l, d => match dstep P ng call ops ms r1 i o d with
    | .ok d' => dops P ng call ops ms r1 (i + 1) l d'
    | .ask x => .ask x
    | .no => .no

def nFresh (P : Program) : List Oper → Nat
  | [] => 0
  | o :: l => match isCallA o.op with
    | some _ => nFresh P l
    | none => match o.op with
      | .makeMap _ none => nFresh P l + 1
      | _ => match kindA P o.op with
        | .fresh => nFresh P l + 1
        | _ => nFresh P l

def statOk (ops : Array Oper) (ms : List Nat) : Bool := edgeOk 0 ops.toList && dstOk ops.toList && readsOk ops ms ops.toList.zipIdx

def draw1 (P : Program) (ng : Cx) (call : CallR) (ops : Array Oper) (t : Tm) (s : Hp) : Res (Tm × Hp) :=
  match statOk ops (ancsA [] ops.toList) with
  | true => match dops P ng call ops (ancsA [] ops.toList) (s.heap.length + nFresh P ops.toList) 0 ops.toList ⟨t, ⟨⟨s.heap ++ List.replicate (nFresh P ops.toList) .gone, s.log⟩⟩, s.heap.length, []⟩ with
    | .ok d => match effsOk (ancsA [] ops.toList) d.kds.zipIdx && (loadsOk (ancsA [] ops.toList) d.kds.zipIdx && insOk (ancsA [] ops.toList) d.kds.zipIdx) with
      | true => .ok (d.t, d.s.hp)
      | false => .no
    | .ask x => .ask x
    | .no => .no
  | false => .no

/-! ### A region in two: what fills maps, in whatever order; and behind it one operation after the other -/

def coversB (m : Nat) (o : Oper) : Bool := (List.range m).all fun j => o.after.toList.any fun e => Region.binds .any e && Nat.beq e.on j

def chainB : Nat → List Oper → Bool
  | _, [] => true
  | k, o :: l => (o.after.toList.any fun e => Region.binds .any e && Nat.beq e.on k) && chainB (k + 1) l

def guardsB (m : Nat) (l : List Oper) : Bool := l.all fun o => match o.guard with
  | none => true
  | some (j, _) => Nat.blt j m

def isMkOp (o : Oper) : Bool :=
  match o.op with
  | .makeMap _ none => true
  | _ => false

def findSplit : Nat → List Oper → Bool → Option Nat
  | _, [], _ => none
  | i, o :: l, seen => match seen && (Nat.ble i o.after.size && coversB i o) with
    | true => some i
    | false => findSplit (i + 1) l (seen || isMkOp o)

def splitOk (ops : Array Oper) (m : Nat) : Bool :=
  edgeOk 0 ops.toList && (guardsB m (ops.toList.take m) && match ops.toList.drop m with
    | [] => false
    | o :: l => coversB m o && chainB m l)

/-- One operation after the other. -/
def seqS (P : Program) (ng : Cx) (call : CallR) (all : List Oper) : List Oper → Tm → Hp → Res (Tm × Hp)
  | [], t, hp => .ok (t, hp)
  | o :: l, t, hp => match wantedA ng all t o with
    | none => match askW ng all t o with
      | some x => .ask x
      | none => .no
    | some false => seqS P ng call all l (putA t o.dst undefA) hp
    | some true => match isCallA o.op with
      | some c => match resolveA P ng t c with
        | some (f, args) => match call f args hp with
          | .ok (v, h') => seqS P ng call all l (putA t o.dst v) h'
          | .ask x => .ask x
          | .no => .no
        | none => .no
      | none => match resO (opA P ng t o.op hp) (askA P ng t o.op hp.heap) with
        | .ok (v, h') => seqS P ng call all l (putA t o.dst v) h'
        | .ask x => .ask x
        | .no => .no

def drawA (P : Program) (ng : Cx) (call : CallR) (ops : Array Oper) (t : Tm) (s : Hp) : Res (Tm × Hp) :=
  match findSplit 0 ops.toList false with
  | none => draw1 P ng call ops t s
  | some m => match splitOk ops m with
    | true => match draw1 P ng call (ops.toList.take m).toArray t s with
      | .ok (t1, s1) => seqS P ng call ops.toList (ops.toList.drop m) t1 s1
      | .ask x => .ask x
      | .no => .no
    | false => draw1 P ng call ops t s

/-! ### What the looks say -/

theorem onlyL_get (t : Tm) : ∀ (ds : List Tmp) (d : Nat) (v : AVal), alGet (onlyL t ds) d = some v → t.get d = some v ∧ d ∈ ds
  | [], _, _, h => by simp [onlyL, alGet] at h
  | x :: ds, d, v, h => by
    simp only [onlyL] at h
    split at h
    · rename_i u hu
      simp only [alGet] at h
      split at h
      · rename_i hb
        cases h
        have := Nat.eq_of_beq_eq_true hb
        subst this
        exact ⟨hu, by simp⟩
      · obtain ⟨h1, h2⟩ := onlyL_get t ds d v h
        exact ⟨h1, List.mem_cons_of_mem _ h2⟩
    · obtain ⟨h1, h2⟩ := onlyL_get t ds d v h
      exact ⟨h1, List.mem_cons_of_mem _ h2⟩

theorem only_get {t : Tm} {ds : List Tmp} {d : Nat} {v : AVal} (h : (only t ds).get d = some v) : t.get d = some v ∧ d ∈ ds := onlyL_get t ds d v (Tm.get_tr h)

theorem ancsA_append : ∀ (l : List Oper) (acc : List Nat), ∃ r, ancsA acc l = acc ++ r ∧ r.length = l.length
  | [], acc => ⟨[], by simp [ancsA]⟩
  | o :: l, acc => by
    obtain ⟨r, h1, h2⟩ := ancsA_append l (acc ++ [maskOf acc o])
    exact ⟨maskOf acc o :: r, by simp [ancsA, h1], by simp [h2]⟩

theorem ancsA_get : ∀ (l : List Oper) (acc : List Nat) (i : Nat) (o : Oper), l[i]? = some o → (ancsA acc l)[acc.length + i]? = some (maskOf ((ancsA acc l).take (acc.length + i)) o)
  | [], _, _, _, h => by simp at h
  | q :: l, acc, 0, o, h => by
    simp at h; subst h
    simp only [ancsA]
    obtain ⟨r, h1, _⟩ := ancsA_append l (acc ++ [maskOf acc q])
    rw [h1]; simp
  | q :: l, acc, i + 1, o, h => by
    have := ancsA_get l (acc ++ [maskOf acc q]) i o (by simpa using h)
    simp only [ancsA]
    rw [show acc.length + (i + 1) = (acc ++ [maskOf acc q]).length + i by simp; omega]
    exact this

theorem maskOf_bit (acc : List Nat) (o : Oper) (j : Nat) (h : (maskOf acc o).testBit j = true) : ∃ e, e ∈ o.after ∧ Region.binds .any e = true ∧ (e.on = j ∨ ((acc[e.on]?).getD 0).testBit j = true) := by
  unfold maskOf at h
  have key : ∀ (l : List Edge) (s : Nat), (l.foldl (fun s e => if Region.binds .any e then s ||| 2 ^ e.on ||| (acc[e.on]?).getD 0 else s) s).testBit j = true →
      s.testBit j = true ∨ ∃ e, e ∈ l ∧ Region.binds .any e = true ∧ (e.on = j ∨ ((acc[e.on]?).getD 0).testBit j = true) := by
    intro l
    induction l with
    | nil => intro s h; exact .inl h
    | cons e l ih =>
      intro s h
      simp only [List.foldl_cons] at h
      rcases ih _ h with h | ⟨e', h1, h2, h3⟩
      · split at h
        · rename_i hb
          simp only [Nat.testBit_or, Bool.or_eq_true, Nat.testBit_two_pow, decide_eq_true_eq] at h
          rcases h with (h | h) | h
          · exact .inl h
          · exact .inr ⟨e, by simp, hb, .inl h⟩
          · exact .inr ⟨e, by simp, hb, .inr h⟩
        · exact .inl h
      · exact .inr ⟨e', by simp [h1], h2, h3⟩
  rcases key _ _ h with h | ⟨e, h1, h2, h3⟩
  · simp at h
  · exact ⟨e, by simpa using h1, h2, h3⟩

theorem edgeOk_spec : ∀ (l : List Oper) (k : Nat), edgeOk k l = true → ∀ (i : Nat) (o : Oper), l[i]? = some o → ∀ e, e ∈ o.after → Region.binds .any e = true → e.on < k + i
  | [], _, _, i, o, h => by simp at h
  | q :: l, k, hk, 0, o, h => by
    simp at h; subst h
    intro e he hb
    simp only [edgeOk, Bool.and_eq_true, List.all_eq_true] at hk
    have := hk.1 e (by simpa using he)
    simpa [hb] using this
  | q :: l, k, hk, i + 1, o, h => by
    simp only [edgeOk, Bool.and_eq_true] at hk
    intro e he hb
    have := edgeOk_spec l (k + 1) hk.2 i o (by simpa using h) e he hb
    omega

theorem dstOk_spec : ∀ (l : List Oper), dstOk l = true → ∀ (i j : Nat) (x y : Oper) (d : Nat), l[i]? = some x → l[j]? = some y → x.dst = some d → y.dst = some d → i = j
  | [], _, i, _, _, _, _, h => by simp at h
  | q :: l, hk, 0, 0, _, _, _, _ => by intros; rfl
  | q :: l, hk, 0, j + 1, x, y, d, hx => by
    intro hy hxd hyd
    simp at hx; subst hx
    simp only [dstOk, hxd, Bool.and_eq_true, List.all_eq_true] at hk
    have := hk.1 y (List.mem_of_getElem? (by simpa using hy))
    simp [hyd] at this
  | q :: l, hk, i + 1, 0, x, y, d, hx => by
    intro hy hxd hyd
    simp at hy; subst hy
    simp only [dstOk, hyd, Bool.and_eq_true, List.all_eq_true] at hk
    have := hk.1 x (List.mem_of_getElem? (by simpa using hx))
    simp [hxd] at this
  | q :: l, hk, i + 1, j + 1, x, y, d, hx => by
    intro hy hxd hyd
    simp only [dstOk, Bool.and_eq_true] at hk
    have := dstOk_spec l hk.2 i j x y d (by simpa using hx) (by simpa using hy) hxd hyd
    omega

theorem mem_zip {α : Type} {l : List α} {i : Nat} {a : α} (h : l[i]? = some a) : (a, i) ∈ l.zipIdx := by
  rw [List.mem_zipIdx_iff_getElem?]; exact h

theorem readsOk_spec {ops : Array Oper} {ms : List Nat} (h : readsOk ops ms ops.toList.zipIdx = true) (i j : Nat) (x y : Oper) (d : Nat) (hx : ops[i]? = some x) (hy : ops[j]? = some y) (hd : d ∈ x.looksAt ops) (hyd : y.dst = some d) (hji : j ≠ i) :
    ancB ms i j = true ∨ ancB ms j i = true := by
  unfold readsOk at h
  simp only [List.all_eq_true] at h
  have := h (x, i) (mem_zip (by simpa using hx)) d hd (y, j) (mem_zip (by simpa using hy))
  simpa [hyd, hji] using this

theorem effsOk_spec {ms : List Nat} {ks : List DK} (h : effsOk ms ks.zipIdx = true) (i j : Nat) (p q : List Nat) (hij : i < j) (hi : ks[i]? = some (.eff p)) (hj : ks[j]? = some (.eff q)) : ancB ms j i = true := by
  unfold effsOk at h
  simp only [List.all_eq_true] at h
  have h1 := h (.eff p, i) (mem_zip hi)
  simp only [isEffB, Bool.not_true, Bool.false_or, List.all_eq_true] at h1
  have h2 := h1 (.eff q, j) (mem_zip hj)
  simpa [isEffB, hij] using h2

theorem loadsOk_spec {ms : List Nat} {ks : List DK} (h : loadsOk ms ks.zipIdx = true) (i j b : Nat) (pre : List Nat) (hi : ks[i]? = some (.load (some b))) (hj : ks[j]? = some (.eff pre)) (h1 : ¬ ancB ms i j = true) (h2 : ¬ ancB ms j i = true) : b ∉ pre := by
  unfold loadsOk at h
  simp only [List.all_eq_true] at h
  have h3 := h (.load (some b), i) (mem_zip hi)
  simp only [List.all_eq_true] at h3
  have h4 := h3 (.eff pre, j) (mem_zip hj)
  simpa [h1, h2] using h4

theorem loadsOkM_spec {ms : List Nat} {ks : List DK} (h : loadsOk ms ks.zipIdx = true) (i j b : Nat) (hi : ks[i]? = some (.load (some b))) (hj : ks[j]? = some (.mk b)) : False := by
  unfold loadsOk at h
  simp only [List.all_eq_true] at h
  have h3 := h (.load (some b), i) (mem_zip hi)
  simp only [List.all_eq_true] at h3
  have h4 := h3 (.mk b, j) (mem_zip hj)
  simp at h4

theorem insOk_spec {ms : List Nat} {ks : List DK} (h : insOk ms ks.zipIdx = true) (i z : Nat) (d : TypeDesc) (k v : AVal) (hi : ks[i]? = some (.ins z d k v)) :
    (∃ j, ks[j]? = some (.mk z) ∧ ancB ms i j = true) ∧ ∀ j d' k' v', i ≠ j → ks[j]? = some (.ins z d' k' v') → (∃ u, keyA d k' = some u) ∧ sameA k' k = false := by
  unfold insOk at h
  simp only [List.all_eq_true] at h
  have h1 := h (.ins z d k v, i) (mem_zip hi)
  simp only [Bool.and_eq_true, List.any_eq_true, List.all_eq_true] at h1
  obtain ⟨⟨⟨y, j⟩, hy, h2⟩, h3⟩ := h1
  constructor
  · simp only at h2
    split at h2
    · rename_i z' 
      simp only [Bool.and_eq_true] at h2
      have := Nat.eq_of_beq_eq_true h2.1
      subst this
      exact ⟨j, List.mem_zipIdx_iff_getElem?.1 hy, h2.2⟩
    · cases h2
  · intro j d' k' v' hij hj
    have h4 := h3 (.ins z d' k' v', j) (mem_zip hj)
    have e1 : Nat.beq z z = true := Nat.beq_refl z
    have e2 : Nat.beq i j = false := by
      cases hb : Nat.beq i j with
      | false => rfl
      | true => exact absurd (Nat.eq_of_beq_eq_true hb) hij
    simp only [e1, e2, Bool.not_true, Bool.false_or, Bool.and_eq_true, Option.isSome_iff_exists, Bool.not_eq_true'] at h4
    exact h4

theorem maskIds_spec (ms : List Nat) (i x : Nat) : ∀ (l : List DK) (k : Nat), x ∈ maskIds ms i k l ↔ (∃ j c e, l[j]? = some (DK.fresh x c e) ∧ ancB ms i (k + j) = false) ∨ ∃ j : Nat, l[j]? = some (DK.mk x)
  | [], k => by simp [maskIds]
  | q :: l, k => by
    have ih := maskIds_spec ms i x l (k + 1)
    have step : (∃ j c e, l[j]? = some (DK.fresh x c e) ∧ ancB ms i (k + 1 + j) = false) ↔ ∃ j c e, (q :: l)[j + 1]? = some (DK.fresh x c e) ∧ ancB ms i (k + (j + 1)) = false := by
      constructor
      · rintro ⟨j, c, e, h1, h2⟩; exact ⟨j, c, e, by simpa using h1, by rw [show k + (j + 1) = k + 1 + j by omega]; exact h2⟩
      · rintro ⟨j, c, e, h1, h2⟩; exact ⟨j, c, e, by simpa using h1, by rw [show k + 1 + j = k + (j + 1) by omega]; exact h2⟩
    have split0 : (∃ j c e, (q :: l)[j]? = some (DK.fresh x c e) ∧ ancB ms i (k + j) = false) ↔ ((∃ c e, q = DK.fresh x c e ∧ ancB ms i k = false) ∨ ∃ j c e, (q :: l)[j + 1]? = some (DK.fresh x c e) ∧ ancB ms i (k + (j + 1)) = false) := by
      constructor
      · rintro ⟨j, c, e, h1, h2⟩
        cases j with
        | zero => exact .inl ⟨c, e, by simpa using h1, by simpa using h2⟩
        | succ j => exact .inr ⟨j, c, e, h1, h2⟩
      · rintro (⟨c, e, h1, h2⟩ | ⟨j, c, e, h1, h2⟩)
        · exact ⟨0, c, e, by simp [h1], by simpa using h2⟩
        · exact ⟨j + 1, c, e, h1, h2⟩
    have splitM : (∃ j : Nat, (q :: l)[j]? = some (DK.mk x)) ↔ (q = DK.mk x ∨ ∃ j : Nat, l[j]? = some (DK.mk x)) := by
      constructor
      · rintro ⟨j, h1⟩
        cases j with
        | zero => exact .inl (by simpa using h1)
        | succ j => exact .inr ⟨j, by simpa using h1⟩
      · rintro (h1 | ⟨j, h1⟩)
        · exact ⟨0, by simp [h1]⟩
        · exact ⟨j + 1, by simpa using h1⟩
    rw [split0, ← step, splitM]
    have key : ((∃ c e, q = DK.fresh x c e ∧ ancB ms i k = false) ∨ q = DK.mk x ∨ x ∈ maskIds ms i (k + 1) l) ↔ (((∃ c e, q = DK.fresh x c e ∧ ancB ms i k = false) ∨ ∃ j c e, l[j]? = some (DK.fresh x c e) ∧ ancB ms i (k + 1 + j) = false) ∨ (q = DK.mk x ∨ ∃ j : Nat, l[j]? = some (DK.mk x))) := by
      rw [ih]
      constructor
      · rintro (h | h | h | h)
        · exact .inl (.inl h)
        · exact .inr (.inl h)
        · exact .inl (.inr h)
        · exact .inr (.inr h)
      · rintro ((h | h) | (h | h))
        · exact .inl h
        · exact .inr (.inr (.inl h))
        · exact .inr (.inl h)
        · exact .inr (.inr (.inr h))
    rw [← key]
    simp only [maskIds]
    cases q with
    | fresh y c e =>
      simp only
      split
      · rename_i ha
        constructor
        · intro h; exact .inr (.inr h)
        · rintro (⟨c', e', h1, h2⟩ | h | h)
          · rw [ha] at h2; cases h2
          · cases h
          · exact h
      · rename_i ha
        simp only [List.mem_cons]
        constructor
        · rintro (h | h)
          · exact .inl ⟨c, e, by rw [h], by simpa using ha⟩
          · exact .inr (.inr h)
        · rintro (⟨c', e', h1, h2⟩ | h | h)
          · cases h1; exact .inl rfl
          · cases h
          · exact .inr h
    | lite => simp
    | load b => simp
    | eff p => simp
    | ins z d k v => simp
    | mk y =>
      simp only [List.mem_cons]
      constructor
      · rintro (h | h)
        · exact .inr (.inl (by rw [h]))
        · exact .inr (.inr h)
      · rintro (⟨c', e', h1, _⟩ | h1 | h)
        · cases h1
        · cases h1; exact .inl rfl
        · exact .inr h

theorem maskL_length : ∀ (ids : List Nat) (H : List Blk), (maskL ids H).length = H.length
  | [], _ => rfl
  | x :: ids, H => by simp [maskL, maskL_length ids]

theorem maskL_out : ∀ (ids : List Nat) (H : List Blk) (x : Nat), x ∉ ids → (maskL ids H)[x]? = H[x]?
  | [], _, _, _ => rfl
  | y :: ids, H, x, h => by
    simp only [List.mem_cons, not_or] at h
    simp only [maskL]
    rw [maskL_out ids _ x h.2, List.getElem?_set_ne (fun e => h.1 e.symm)]

theorem maskL_in : ∀ (ids : List Nat) (H : List Blk) (x : Nat), x ∈ ids → x < H.length → (maskL ids H)[x]? = some .gone
  | y :: ids, H, x, h, hl => by
    simp only [maskL]
    by_cases hx : x ∈ ids
    · exact maskL_in ids _ x hx (by simpa using hl)
    · have : y = x := by rcases List.mem_cons.1 h with h | h; exact h.symm; exact absurd h hx
      subst this
      rw [maskL_out ids _ y hx]
      simp [hl]

theorem restL_length (old : List Blk) : ∀ (ids : List Nat) (H : List Blk), (restL old ids H).length = H.length
  | [], _ => rfl
  | x :: ids, H => by
    simp only [restL]
    rw [restL_length old ids]
    split <;> simp

theorem restL_out (old : List Blk) : ∀ (ids : List Nat) (H : List Blk) (x : Nat), x ∉ ids → (restL old ids H)[x]? = H[x]?
  | [], _, _, _ => rfl
  | y :: ids, H, x, h => by
    simp only [List.mem_cons, not_or] at h
    simp only [restL]
    rw [restL_out old ids _ x h.2]
    split
    · rw [List.getElem?_set_ne (fun e => h.1 e.symm)]
    · rfl

theorem restL_in (old : List Blk) : ∀ (ids : List Nat) (H : List Blk) (x : Nat), x ∈ ids → x < old.length → old.length ≤ H.length → (restL old ids H)[x]? = old[x]?
  | y :: ids, H, x, h, hl, hH => by
    simp only [restL]
    by_cases hx : x ∈ ids
    · refine restL_in old ids _ x hx hl ?_
      split <;> simpa using hH
    · have : y = x := by rcases List.mem_cons.1 h with h | h; exact h.symm; exact absurd h hx
      subst this
      rw [restL_out old ids _ y hx]
      have hy : old[y]? = some old[y] := by simp [hl]
      rw [hy]
      have : y < H.length := by omega
      simp [this]

end Go.Ev
