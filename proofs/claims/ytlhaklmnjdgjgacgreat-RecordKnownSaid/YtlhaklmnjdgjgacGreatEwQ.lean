/- Code, calls, ranges over functions: what is reckoned, and that it is the model's. -/
import Derived.Test.YtlhaklmnjdgjgacGreatEwP
import Derived.LoopN
import Derived.Below
namespace Go.Ev

/-! ### Merging, as code and calls do it -/

/-- Two heaps that came of one; where nothing was written and nothing is new, that one. -/
def mgHq (ng : Cx) (i : Nat) (h0 a b : Hp) : Hp :=
  match Nat.beq a.log.length h0.log.length && (Nat.beq b.log.length h0.log.length && (Nat.beq a.heap.length h0.heap.length && Nat.beq b.heap.length h0.heap.length)) with
  | true => h0
  | false => mgHp ng i h0 a b

theorem touch_none {h0 a : Hp} (ta : Touch h0 a) (h1 : a.log.length = h0.log.length) (h2 : a.heap.length = h0.heap.length) : a.heap = h0.heap := by
  obtain ⟨pa, ea, fa⟩ := ta.log
  have : pa = [] := by
    rw [ea, List.length_append] at h1
    exact List.length_eq_zero_iff.1 (by omega)
  subst this
  apply List.ext_getElem? 
  intro j
  rcases Nat.lt_or_ge j h0.heap.length with h9 | h9
  · exact fa j h9 (by simp)
  · rw [List.getElem?_eq_none h9, List.getElem?_eq_none (by omega)]

theorem mgHq_touch {ng : Cx} {i : Nat} {h0 a b : Hp} (ta : Touch h0 a) (tb : Touch h0 b) : Touch h0 (mgHq ng i h0 a b) := by
  unfold mgHq
  split
  · exact Touch.refl _
  · exact mgHp_touch ta tb

theorem mgHq_rel {ng : Cx} {i : Nat} {h0 a b : Hp} (ta : Touch h0 a) (tb : Touch h0 b) {g0 g : Inj} {w0 w : World} :
    (g.sig.bval i = true → HRel ng g a.heap w → Ext g0 h0.heap w0 g a.heap w → HRel ng g (mgHq ng i h0 a b).heap w ∧ Ext g0 h0.heap w0 g (mgHq ng i h0 a b).heap w) ∧
    (g.sig.bval i = false → HRel ng g b.heap w → Ext g0 h0.heap w0 g b.heap w → HRel ng g (mgHq ng i h0 a b).heap w ∧ Ext g0 h0.heap w0 g (mgHq ng i h0 a b).heap w) := by
  unfold mgHq
  split
  · rename_i hh
    simp only [Bool.and_eq_true, Nat.beq_eq] at hh
    obtain ⟨h1, h2, h3, h4⟩ := hh
    have ea := touch_none ta h1 h3
    have eb := touch_none tb h2 h4
    exact ⟨fun _ h k => ⟨by rw [← ea]; exact h, by rw [← ea]; rw [ea] at k ⊢; exact k⟩, fun _ h k => ⟨by rw [← eb]; exact h, by rw [eb] at k; exact k⟩⟩
  · exact mgHp_rel ta tb

def sameEx : Ex → Ex → Bool
  | .normal, .normal => true
  | .exit i, .exit j => Nat.beq i j
  | .ret, .ret => true
  | _, _ => false

theorem sameEx_eq {x y : Ex} (h : sameEx x y = true) : x = y := by
  unfold sameEx at h
  split at h
  · rfl
  · rw [Nat.eq_of_beq_eq_true h]
  · rfl
  · cases h

/-- Values of which no one is lost, if they come to one. -/
def scal (a : AVal) : Bool :=
  match skOf a with
  | some _ => true
  | none => false

mutual
def mgOk : AVal → AVal → Bool
  | .agg l, .agg m => mgOks l m
  | .tuple l, .tuple m => mgOks l m
  | .iface t v, .iface t' v' => Nat.beq t t' && mgOk v v'
  | a, b => match scal a with
    | true => scal b
    | false => eqV a b
def mgOks : List AVal → List AVal → Bool
  | [], [] => true
  | a :: l, b :: m => mgOk a b && mgOks l m
  | _, _ => false
end

def mgOkO : Option AVal → Option AVal → Bool
  | some (.ptr _ _), some (.ptr _ _) => true      -- an address is soon reckoned again
  | some (.tuple []), _ => true      -- nothing yet
  | _, some (.tuple []) => true
  | some a, some b => mgOk a b
  | _, _ => true

def mgOkT : TT → TT → Bool
  | .n l v r, .n l' v' r' => mgOkO v v' && (mgOkT l l' && mgOkT r r')
  | _, _ => true

def mgOkB : Option Blk → Option Blk → Bool
  | some (.cells c e), some (.cells c' e') => Nat.beq e e' && mgOks c c'
  | some (.map l), some (.map m) => eqM l m
  | some (.loop _), some (.loop _) => true
  | some .dfr, some .dfr => true
  | some .gone, _ => true
  | _, some .gone => true
  | _, _ => false

def mgOkH (n : Nat) (A B : List Blk) : List Nat → Bool
  | [] => true
  | j :: ids => (match Nat.blt j n with
    | true => mgOkB (A[j]?) (B[j]?)
    | false => true) && mgOkH n A B ids

def mgO (ng : Cx) (h0 : Hp) (i : Nat) (x y : Out × Hp) : Option (Out × Hp) :=
  match mgOkH h0.heap.length x.2.heap y.2.heap (x.2.log.take (x.2.log.length - h0.log.length) ++ y.2.log.take (y.2.log.length - h0.log.length)) with
  | true => match x.1, y.1 with
    | .val v, .val u => match mgV ng i v u with
      | some r => some (.val r, mgHq ng i h0 x.2 y.2)
      | none => none
    | _, _ => none
  | false => none

/-- Two ends that are the same. -/
def mgOr (h0 : Hp) (x y : Out × Hp) : Option (Out × Hp) :=
  match x.1, y.1 with
  | .val v, .val u => match eqV v u && (Nat.beq x.2.log.length h0.log.length && (Nat.beq y.2.log.length h0.log.length && (Nat.beq x.2.heap.length h0.heap.length && Nat.beq y.2.heap.length h0.heap.length))) with
    | true => some (.val v, h0)
    | false => none
  | _, _ => none

theorem touch_same {h0 a : Hp} (ta : Touch h0 a) (h1 : a.log.length = h0.log.length) (h2 : a.heap.length = h0.heap.length) : a = h0 := by
  have e1 := touch_none ta h1 h2
  obtain ⟨pa, ea, _⟩ := ta.log
  have : pa = [] := by
    rw [ea, List.length_append] at h1
    exact List.length_eq_zero_iff.1 (by omega)
  rw [this, List.nil_append] at ea
  cases a; cases h0
  simp only at e1 ea
  subst e1; subst ea; rfl

theorem mgOr_eq {h0 : Hp} {x y z : Out × Hp} (tx : Touch h0 x.2) (ty : Touch h0 y.2) (h : mgOr h0 x y = some z) : x = z ∧ y = z := by
  obtain ⟨x, hx⟩ := x
  obtain ⟨y, hy⟩ := y
  unfold mgOr at h
  simp only at h tx ty
  split at h
  · rename_i v u
    split at h
    · rename_i hc
      simp only [Bool.and_eq_true, Nat.beq_eq] at hc
      obtain ⟨h1, h2, h3, h4, h5⟩ := hc
      cases h
      rw [touch_same tx h2 h4, touch_same ty h3 h5, eqV_eq _ _ h1]
      exact ⟨rfl, rfl⟩
    · cases h
  · cases h

def mgC (ng : Cx) (h0 : Hp) (i : Nat) (x y : Ex × Tm × Hp) : Option (Ex × Tm × Hp) :=
  match sameEx x.1 y.1 && (mgOkT x.2.1.tr y.2.1.tr && mgOkH h0.heap.length x.2.2.heap y.2.2.heap (x.2.2.log.take (x.2.2.log.length - h0.log.length) ++ y.2.2.log.take (y.2.2.log.length - h0.log.length))) with
  | true => match mgTm ng i x.2.1 y.2.1 with
    | some t => some (x.1, t, mgHq ng i h0 x.2.2 y.2.2)
    | none => none
  | false => none

/-- What may be said of the second may be said of the first, of a call. -/
def WO (ng : Cx) (h0 : Hp) (g0 : Inj) (w0 : World) (x y : Out × Hp) : Prop := ∀ e w, OutQ ng h0 g0 w0 x.1 x.2 e w → OutQ ng h0 g0 w0 y.1 y.2 e w
def WC (ng : Cx) (h0 : Hp) (g0 : Inj) (w0 : World) (a0 : Act) (x y : Ex × Tm × Hp) : Prop := ∀ e a w, CodeQ ng h0 g0 w0 a0 x e a w → CodeQ ng h0 g0 w0 a0 y e a w

theorem mgO_sound {ng : Cx} {h0 : Hp} {i : Nat} {x y z : Out × Hp} (tx : Touch h0 x.2) (ty : Touch h0 y.2) (h : mgO ng h0 i x y = some z) : Touch h0 z.2 ∧ ∀ (g0 : Inj) (w0 : World), (g0.sig.bval i = true → WO ng h0 g0 w0 x z) ∧ (g0.sig.bval i = false → WO ng h0 g0 w0 y z) := by
  obtain ⟨xo, xh⟩ := x
  obtain ⟨yo, yh⟩ := y
  unfold mgO at h
  simp only at h tx ty
  split at h
  rotate_left
  · cases h
  split at h
  · rename_i v u
    split at h
    · rename_i r hr
      cases h
      refine ⟨mgHq_touch tx ty, fun g0 w0 => ⟨?_, ?_⟩⟩
      · rintro hb e w ⟨_, g', ⟨q, rfl, hq⟩, hH, hE⟩
        have hb' : g'.sig.bval i = true := by rw [hE.sub.sig]; exact hb
        obtain ⟨k1, k2⟩ := (mgHq_rel (ng := ng) (i := i) tx ty).1 hb' hH hE
        exact ⟨mgHq_touch tx ty, g', ⟨q, rfl, (mgV_sound v u r hr g' hH.sig q).1 hb' hq⟩, k1, k2⟩
      · rintro hb e w ⟨_, g', ⟨q, rfl, hq⟩, hH, hE⟩
        have hb' : g'.sig.bval i = false := by rw [hE.sub.sig]; exact hb
        obtain ⟨k1, k2⟩ := (mgHq_rel (ng := ng) (i := i) tx ty).2 hb' hH hE
        exact ⟨mgHq_touch tx ty, g', ⟨q, rfl, (mgV_sound v u r hr g' hH.sig q).2 hb' hq⟩, k1, k2⟩
    · cases h
  · cases h

theorem mgC_sound {ng : Cx} {h0 : Hp} {i : Nat} {x y z : Ex × Tm × Hp} (tx : Touch h0 x.2.2) (ty : Touch h0 y.2.2) (h : mgC ng h0 i x y = some z) : Touch h0 z.2.2 ∧ ∀ (g0 : Inj) (w0 : World) (a0 : Act), (g0.sig.bval i = true → WC ng h0 g0 w0 a0 x z) ∧ (g0.sig.bval i = false → WC ng h0 g0 w0 a0 y z) := by
  obtain ⟨xe, xt, xh⟩ := x
  obtain ⟨ye, yt, yh⟩ := y
  unfold mgC at h
  simp only at h tx ty
  split at h
  · rename_i he
    simp only [Bool.and_eq_true] at he
    have he := sameEx_eq he.1
    subst he
    split at h
    · rename_i t hr
      cases h
      refine ⟨mgHq_touch tx ty, fun g0 w0 a0 => ⟨?_, ?_⟩⟩
      · rintro hb e a w ⟨_, g', h1, hH, hE, h2, h3⟩
        have hb' : g'.sig.bval i = true := by rw [hE.sub.sig]; exact hb
        obtain ⟨k1, k2⟩ := (mgHq_rel (ng := ng) (i := i) tx ty).1 hb' hH hE
        exact ⟨mgHq_touch tx ty, g', h1, k1, k2, (mgTm_sound hr g' hH.sig a).1 hb' h2, h3⟩
      · rintro hb e a w ⟨_, g', h1, hH, hE, h2, h3⟩
        have hb' : g'.sig.bval i = false := by rw [hE.sub.sig]; exact hb
        obtain ⟨k1, k2⟩ := (mgHq_rel (ng := ng) (i := i) tx ty).2 hb' hH hE
        exact ⟨mgHq_touch tx ty, g', h1, k1, k2, (mgTm_sound hr g' hH.sig a).2 hb' h2, h3⟩
    · cases h
  · cases h

/-- the truth that a number is this one -/
def eqOf (ng : Cx) (i : Nat) (k : Int) : Option Nat :=
  match symS ng (.bin .eql (.symi .i64 i) (.int .i64 k)) with
  | some (.symb j) => some j
  | _ => none

theorem eqOf_spec {ng : Cx} {σ : Sig} (hg : ng.Good σ) {i j : Nat} {k : Int} (h : eqOf ng i k = some j) : σ.bval j = decide (σ.ival i = k) := by
  unfold eqOf at h
  split at h
  · rename_i j' hs
    cases h
    obtain ⟨q, h1, h2⟩ := symS_sound (g := ⟨fun _ => none, σ, fun _ => none⟩) hg hs
    simp only [evalS, den, binS, intA, if_true, Option.some.injEq] at h1
    subst h1
    have := h2 _ (.bool _)
    generalize hv : Value.bool (σ.ival i == k) = v at this
    cases this
    simp only [Value.bool.injEq] at hv
    rw [← hv]
    rfl
  · cases h

def mgOP (ng : Cx) (h0 : Hp) (i : Nat) (k : Int) (x y : Out × Hp) : Option (Out × Hp) :=
  match eqOf ng i k with
  | some j => mgO ng h0 j x y
  | none => none

def mgCP (ng : Cx) (h0 : Hp) (i : Nat) (k : Int) (x y : Ex × Tm × Hp) : Option (Ex × Tm × Hp) :=
  match eqOf ng i k with
  | some j => mgC ng h0 j x y
  | none => none

theorem mgOP_sound {ng : Cx} {h0 : Hp} {i : Nat} {k : Int} {x y z : Out × Hp} (tx : Touch h0 x.2) (ty : Touch h0 y.2) (h : mgOP ng h0 i k x y = some z) : Touch h0 z.2 ∧ ∀ (g0 : Inj) (w0 : World), (g0.sig.ival i = k → WO ng h0 g0 w0 x z) ∧ (g0.sig.ival i ≠ k → WO ng h0 g0 w0 y z) := by
  unfold mgOP at h
  split at h
  · rename_i j hj
    obtain ⟨t, hw⟩ := mgO_sound tx ty h
    refine ⟨t, fun g0 w0 => ⟨fun e en w hq => ?_, fun e en w hq => ?_⟩⟩
    · have hq' := hq
      obtain ⟨_, g', _, hH, hE⟩ := hq
      have := eqOf_spec hH.sig hj
      rw [hE.sub.sig] at this
      exact (hw g0 w0).1 (by rw [this]; exact decide_eq_true e) en w hq'
    · have hq' := hq
      obtain ⟨_, g', _, hH, hE⟩ := hq
      have := eqOf_spec hH.sig hj
      rw [hE.sub.sig] at this
      exact (hw g0 w0).2 (by rw [this]; exact decide_eq_false e) en w hq'
  · cases h

theorem mgCP_sound {ng : Cx} {h0 : Hp} {i : Nat} {k : Int} {x y z : Ex × Tm × Hp} (tx : Touch h0 x.2.2) (ty : Touch h0 y.2.2) (h : mgCP ng h0 i k x y = some z) : Touch h0 z.2.2 ∧ ∀ (g0 : Inj) (w0 : World) (a0 : Act), (g0.sig.ival i = k → WC ng h0 g0 w0 a0 x z) ∧ (g0.sig.ival i ≠ k → WC ng h0 g0 w0 a0 y z) := by
  unfold mgCP at h
  split at h
  · rename_i j hj
    obtain ⟨t, hw⟩ := mgC_sound tx ty h
    refine ⟨t, fun g0 w0 a0 => ⟨fun e en a w hq => ?_, fun e en a w hq => ?_⟩⟩
    · have hq' := hq
      obtain ⟨_, g', _, hH, hE, _⟩ := hq
      have := eqOf_spec hH.sig hj
      rw [hE.sub.sig] at this
      exact (hw g0 w0 a0).1 (by rw [this]; exact decide_eq_true e) en a w hq'
    · have hq' := hq
      obtain ⟨_, g', _, hH, hE, _⟩ := hq
      have := eqOf_spec hH.sig hj
      rw [hE.sub.sig] at this
      exact (hw g0 w0 a0).2 (by rw [this]; exact decide_eq_false e) en a w hq'
  · cases h

/-! ### Code -/

def loopT (body : List Fact → Tm → Hp → Tree (Ex × Tm × Hp)) : Nat → List Fact → Tm → Hp → Tree (Ex × Tm × Hp)
  | 0, _, _, _ => .dead
  | n + 1, F, t, hp => bindT F (body F t hp) fun F' x => match x with
    | (.normal, t', hp') => loopT body n F' t' hp'
    | x => .leaf x

def callR (C : CxF) (call : CallF) (F : List Fact) : CallR := fun f args hp =>
  match (C F).hook f args with
  | some v => .ok (v, hp)
  | none => match (C F).mhook f args hp with
   | some x => .ok x
   | none => match call F f args hp with
    | .leaf (.val v, hp') => .ok (v, hp')
    | .node i _ _ => .ask (.tru i)
    | .pick i c _ _ => .ask (.non i c)
    | .req o _ => match o with
      | .node i _ _ => .ask (.tru i)
      | .pick i c _ _ => .ask (.non i c)
      | _ => .no
    | _ => .no

def drawT (P : Program) (C : CxF) (call : CallF) (ops : Array Oper) : Nat → List Fact → Tm → Hp → Tree (Ex × Tm × Hp)
  | 0, _, _, _ => .dead
  | n + 1, F, t, hp => match drawA P (C F) (callR C call F) ops t hp with
    | .ok (t', hp') => .leaf (.normal, t', hp')
    | .ask x => splitT (fun F => drawT P C call ops n F t hp) F (some x)
    | .no => .dead

def blockX (id : Nat) (x : Ex × Tm × Hp) : Ex × Tm × Hp :=
  match x with
  | (.exit i, t, hp) => match Nat.beq i id with
    | true => (.normal, t, hp)
    | false => (.exit i, t, hp)
  | x => x

/-- what follows a range over a function whose blocks are n, n + 1 -/
def endRange (n : Nat) (t : Tm) (r : Out × Hp) : Tree (Ex × Tm × Hp) :=
  match r with
  | (.val _, hp) => match hp.heap[n + 1]? with
    | some (.loop la) => match la.st with
      | .busy => .dead
      | _ => match la.pend with
        | none => .leaf (.normal, ⟨t.len, t.tr, .mark n :: t.df⟩, ⟨hp.heap.set (n + 1) (.loop ⟨.exhausted, la.pend, la.t, la.params, la.assign, la.body, la.dfr⟩), (n + 1) :: hp.log⟩)
        | some .ret => .leaf (.ret, ⟨t.len, t.tr, .mark n :: t.df⟩, ⟨hp.heap.set (n + 1) (.loop ⟨.exhausted, la.pend, la.t, la.params, la.assign, la.body, la.dfr⟩), (n + 1) :: hp.log⟩)
        | some (.exit i) => .leaf (.exit i, ⟨t.len, t.tr, .mark n :: t.df⟩, ⟨hp.heap.set (n + 1) (.loop ⟨.exhausted, la.pend, la.t, la.params, la.assign, la.body, la.dfr⟩), (n + 1) :: hp.log⟩)
        | _ => .dead
    | _ => .dead
  | (.pan v, hp) => .leaf (.pan v, ⟨t.len, t.tr, .mark n :: t.df⟩, hp)

def rangeT (P : Program) (C : CxF) (call : CallF) (f : Operand) (ps : Array Tmp) (asg body : Code) (F : List Fact) (t : Tm) (hp : Hp) : Tree (Ex × Tm × Hp) :=
  match ev (C F) t f with
  | some (.func (.func k) first cap) => match enterA P k (first ++ [.yield (hp.heap.length + 1)] ++ cap) with
    | some (k', args) => bindT F (call F k' args ⟨hp.heap ++ [.dfr, .loop ⟨.ready, none, ⟨t.len, t.tr, []⟩, ps, asg, body, hp.heap.length⟩], hp.log⟩) fun _ r => endRange hp.heap.length t r
    | none => .dead
  | _ => .dead

def regionT (P : Program) (C : CxF) (call : CallF) (round : RoundF) (inr : Bool) (ops : Array Oper) (draw : Bool) (F : List Fact) (t : Tm) (hp : Hp) : Tree (Ex × Tm × Hp) :=
  match draw with
  | false => opsT P C call round inr ops.toList ops.toList F t hp
  | true => drawT P C call ops 12 F t hp

def codeT (P : Program) (C : CxF) (mb : Bool) (fuel : Nat) (call : CallF) (round : RoundF) (inr : Bool) : Code → List Fact → Tm → Hp → Tree (Ex × Tm × Hp)
  | .skip, _, t, hp => .leaf (.normal, t, hp)
  | .label _, _, t, hp => .leaf (.normal, t, hp)
  | .region _ ops draw, F, t, hp => match Nat.beq (fuel % 2) 1 with      -- with odd fuel the ways of a region come to one
    | true => mgT (mgC (C F) hp) (mgCP (C F) hp) (fun _ _ => none) (regionT P C call round inr ops draw F t hp)
    | false => regionT P C call round inr ops draw F t hp
  | .seq a b, F, t, hp => bindT F (codeT P C mb fuel call round inr a F t hp) fun F' x => match x with
    | (.normal, t', hp') => codeT P C mb fuel call round inr b F' t' hp'
    | x => .leaf x
  | .cond c a b, F, t, hp => match ev (C F) t c with
    | some (.bool v) => match v with
      | true => codeT P C mb fuel call round inr a F t hp
      | false => codeT P C mb fuel call round inr b F t hp
    | some (.symb i) => .node i (codeT P C mb fuel call round inr a (.tru i true :: F) t hp) (codeT P C mb fuel call round inr b (.tru i false :: F) t hp)
    | _ => .dead
  | .block id c, F, t, hp => match mb with
    | true => mgT (mgC (C F) hp) (mgCP (C F) hp) (fun _ _ => none) (bindT F (codeT P C mb fuel call round inr c F t hp) fun _ x => .leaf (blockX id x))
    | false => bindT F (codeT P C mb fuel call round inr c F t hp) fun _ x => .leaf (blockX id x)
  | .loop c, F, t, hp => loopT (codeT P C mb fuel call round inr c) fuel F t hp
  | .exit i, _, t, hp => .leaf (.exit i, t, hp)
  | .ret, _, t, hp => .leaf (.ret, t, hp)
  | .rangeFunc f ps asg body, F, t, hp => match inr with
    | true => .dead
    | false => rangeT P C call f ps asg body F t hp
  | _, _, _, _ => .dead

structure CodeOk (P : Program) (C : CxF) (inr : Bool) (c : Code) (run : List Fact → Tm → Hp → Tree (Ex × Tm × Hp)) : Prop where
  touch : ∀ F t hp, AllT (fun x => Touch hp x.2.2) (run F t hp)
  wp : ∀ F t hp (Q : Ex × Tm × Hp → Prop) (r : Option Nat) g w a, (inr = false → r = none) → HRel (C F) g hp.heap w → FRel g t a → Sat g.sig Q (run F t hp) →
    c.wpIn (FR r) 0 P (fun e a' w' => ∃ x, Q x ∧ CodeQ (C F) hp g w a x e a' w') a w

def CallTouch (call : CallF) : Prop := ∀ F f args hp, AllT (fun x => Touch hp x.2) (call F f args hp)
def RoundTouch (round : RoundF) : Prop := ∀ F f args hp, AllT (fun x => Touch hp x.2) (round F f args hp)

/-- What is known of calls and rounds. -/
structure Env (P : Program) (C : CxF) (call : CallF) (round : RoundF) : Prop where
  mixed : P.follows .mixedOrders = true
  ok : CtxOk C
  hooks : ∀ F, Hooks P (C F)
  callT : CallTouch call
  roundT : RoundTouch round
  call : CallSound P C call
  round : RoundSound P C round

section
variable {P : Program} {C : CxF} {call : CallF} {round : RoundF}

theorem split_all {α : Type} {Q : α → Prop} {k : List Fact → Tree α} (hk : ∀ F, AllT Q (k F)) (F : List Fact) (x : Option Ask) : AllT Q (splitT k F x) := by
  have key : ∀ (i : Nat) (l : List Int) (F : List Fact), AllT Q (splitT.picks k i l F) := by
    intro i l
    induction l with
    | nil => intro F; trivial
    | cons c l ih => intro F; exact ⟨hk _, ih _⟩
  unfold splitT
  split
  · exact ⟨hk _, hk _⟩
  · exact key _ _ F
  · exact ⟨hk _, hk _⟩
  · trivial

theorem hand_touch {q x : Nat} {all : List (AVal × AVal)} {hp : Hp} {x0 : Nat} {l0 : List (AVal × AVal)} {cur : Option (AVal × AVal)} (hb : hp.heap[q]? = some (.iter x0 l0 cur)) :
    ∀ (l : List (AVal × AVal)) (i : Nat), AllT (fun y => Touch hp y.2) (handT q x all hp i l)
  | [], _ => trivial
  | [p], i => set_touchK ⟨_, hb, by simp⟩ (fun la h => by cases h)
  | p :: p' :: l, i => ⟨set_touchK ⟨_, hb, by simp⟩ (fun la h => by cases h), hand_touch hb (p' :: l) (i + 1)⟩

theorem next_touch {q x : Nat} {hp : Hp} {x0 : Nat} {l0 : List (AVal × AVal)} {cur : Option (AVal × AVal)} (hb : hp.heap[q]? = some (.iter x0 l0 cur)) (l : List (AVal × AVal)) : AllT (fun y => Touch hp y.2) (nextT q x hp l) := by
  cases l with
  | nil => exact Touch.refl _
  | cons p l => exact hand_touch hb _ _

theorem forkT_touch {hp : Hp} {b z : Nat} {T1 T2 : Tree (Out × Hp)} (hb : ∃ c e, hp.heap[b]? = some (.cells c e)) (h1 : AllT (fun x => Touch hp x.2) T1) (h2 : AllT (fun x => Touch hp x.2) T2) : AllT (fun x => Touch hp x.2) (forkT hp b z T1 T2) := by
  obtain ⟨c, e, hb⟩ := hb
  unfold forkT
  split
  · split
    · split
      · exact goneSnoc_touch ⟨_, hb, by simp⟩
      · exact ⟨h1, h2⟩
    · exact ⟨h1, h2⟩
  · exact ⟨h1, h2⟩

theorem doneT_touch (E : Env P C call round) {all : List Oper} {o : Oper} : ∀ (n : Nat) (F : List Fact) (t : Tm) (hp : Hp), AllT (fun x => Touch hp x.2) (doneT P C call round all o n F t hp)
  | 0, _, _, _ => trivial
  | n + 1, F, t, hp => by
    simp only [doneT]
    split
    · exact split_all (fun F => doneT_touch E n F t hp) _ _
    · exact Touch.refl _
    · rename_i hw
      split
      · split
        · exact E.roundT _ _ _ _
        · split
          · split
            · exact Touch.refl _
            · split
              · rename_i hv
                exact ((E.hooks F).mem _ _ _ _ _ hv).touch
              · split
                · rename_i hfc
                  exact forkT_touch (forkC_touch hfc).2 (E.callT _ _ _ _) ((E.callT _ _ _ _).mono fun x hx => (forkC_touch hfc).1.trans hx)
                · exact E.callT _ _ _ _
          · split
            · rename_i hat
              exact atomA_touch hat
            split
            · exact ⟨Touch.refl _, Touch.refl _⟩
            · trivial
      · split
        · rename_i v hp' ho
          exact (opA_step hw ho).touch
        · split
          · split
            · split
              · exact Touch.refl _
              · trivial
            · trivial
          · split
            · split
              · split
                · rename_i x l cur hb
                  exact next_touch hb l
                · trivial
              · trivial
            · trivial
          · exact split_all (fun F => doneT_touch E n F t hp) _ _

theorem opsT_touch (E : Env P C call round) {inr : Bool} {all : List Oper} : ∀ (rest : List Oper) (F : List Fact) (t : Tm) (hp : Hp), AllT (fun x => Touch hp x.2.2) (opsT P C call round inr all rest F t hp)
  | [], _, _, _ => Touch.refl _
  | o :: rest, F, t, hp => by
    simp only [opsT]
    split
    · refine all_bind (Q := fun x => Touch hp x.2) ?_ (doneT_touch E 12 F t hp)
      rintro F' ⟨x, hp'⟩ hx
      cases x with
      | val v => exact (opsT_touch E rest F' _ hp').mono fun y hy => hx.trans hy
      | pan v => exact hx
    · split
      · trivial
      · split
        · exact opsT_touch E rest F _ hp
        · trivial

theorem callR_sound (E : Env P C call round) (F : List Fact) : CallRSound P (C F) (callR C call F) := by
  intro f args hp v hp' h
  unfold callR at h
  split at h
  · rename_i u hu
    cases h
    exact (E.hooks F).val f args _ hu hp
  · split at h
    · rename_i x hx
      cases h
      exact (E.hooks F).mem f args hp _ _ hx
    split at h
    · rename_i u h' hl
      cases h
      have ht := E.callT F f args hp
      rw [hl] at ht
      refine ⟨ht, fun g w args' hH ha => ?_⟩
      refine (E.call F f args hp (fun x => x = (.val v, hp')) g w args' hH ha (by rw [hl]; exact rfl)).mono ?_
      rintro e w' ⟨x, rfl, _, g', h1, h2, h3⟩
      exact ⟨g', h1, h2, h3⟩
    · cases h
    · cases h
    · split at h <;> cases h
    · cases h

theorem drawT_sound (E : Env P C call round) {ops : Array Oper} {id : Nat} {inr : Bool} : ∀ n, CodeOk P C inr (.region id ops true) (drawT P C call ops n)
  | 0 => ⟨fun _ _ _ => trivial, fun _ _ _ _ _ _ _ _ _ _ _ h => h.elim⟩
  | n + 1 => by
    have ih := drawT_sound E (ops := ops) (id := id) (inr := inr) n
    constructor
    · intro F t hp
      simp only [drawT]
      split
      · rename_i t' hp' h
        exact (drawA_sound (r := none) E.mixed (callR_sound E F) h).1
      · exact split_all (fun F => ih.touch F t hp) _ _
      · trivial
    · intro F t hp Q r g w a hr hH ht hs
      simp only [drawT] at hs
      split at hs
      · rename_i t' hp' h
        exact wpIn_mono ((drawA_sound (r := r) E.mixed (callR_sound E F) h).2 id g w a hH ht) fun e a' w' hq => ⟨_, hs, hq⟩
      · obtain ⟨F', hF', h'⟩ := sat_split (E.ok.facts hH) hs
        refine wpIn_mono (ih.wp F' t hp Q r g w a hr (E.ok.move hH hF') ht h') fun e a' w' ⟨x, hx, hq⟩ => ⟨x, hx, hq.move E.ok (E.ok.facts hH)⟩
      · exact hs.elim

theorem loopT_sound (E : Env P C call round) {c : Code} {run : List Fact → Tm → Hp → Tree (Ex × Tm × Hp)} {inr : Bool} (hc : CodeOk P C inr c run) : ∀ (n : Nat),
    (∀ F t hp, AllT (fun x => Touch hp x.2.2) (loopT run n F t hp)) ∧ ∀ F t hp (Q : Ex × Tm × Hp → Prop) (r : Option Nat) g w a, (inr = false → r = none) → HRel (C F) g hp.heap w → FRel g t a → Sat g.sig Q (loopT run n F t hp) →
    Code.roundsIn (FR r) 0 P c (fun e a' w' => ∃ x, Q x ∧ CodeQ (C F) hp g w a x e a' w') n a w
  | 0 => ⟨fun _ _ _ => trivial, fun _ _ _ _ _ _ _ _ _ _ _ h => h.elim⟩
  | n + 1 => by
    obtain ⟨i1, i2⟩ := loopT_sound E hc n
    constructor
    · intro F t hp
      simp only [loopT]
      refine all_bind (Q := fun x => Touch hp x.2.2) ?_ (hc.touch F t hp)
      rintro F' ⟨x, t', hp'⟩ hx
      cases x with
      | normal => exact (i1 F' t' hp').mono fun y hy => hx.trans hy
      | _ => exact hx
    · intro F t hp Q r g w a hr hH ht hs
      simp only [loopT] at hs
      have hs := sat_bind (E.ok.facts hH) hs
      refine wpIn_mono (hc.wp F t hp _ r g w a hr hH ht hs) ?_
      rintro e a' w' ⟨⟨x, t', hp'⟩, ⟨F', hF', q⟩, hq⟩
      cases x with
      | normal =>
        obtain ⟨h0, g', h1, h2, h3, h4, h5⟩ := hq
        cases e <;> simp only [ExRel] at h1
        have hF0 : Holds g'.sig F := by rw [h3.sub.sig]; exact E.ok.facts hH
        have := i2 F' t' hp' Q r g' w' a' hr (E.ok.move h2 (by rw [h3.sub.sig]; exact hF')) h4 (by rw [h3.sub.sig]; exact q)
        have key : ∀ (m : Nat) (Q1 Q2 : Exit → Act → World → Prop) b v, (∀ e a w, Q1 e a w → Q2 e a w) → Code.roundsIn (FR r) 0 P c Q1 m b v → Code.roundsIn (FR r) 0 P c Q2 m b v := by
          intro m
          induction m with
          | zero => intro _ _ _ _ _ h; exact h
          | succ m ihm =>
            intro Q1 Q2 b v hq h
            rw [roundsIn_succ] at h ⊢
            exact wpIn_mono h fun e a w h => by
              cases e with
              | normal => exact ihm Q1 Q2 a w hq h
              | _ => exact hq _ _ _ h
        exact key n _ _ a' w' (fun e a w ⟨x, hx, hq⟩ => ⟨x, hx, (hq.move E.ok hF0).trans hH h0 h3 h5⟩) this
      | _ =>
        obtain ⟨h0, g', h1, h2, h3, h4, h5⟩ := hq
        cases e <;> simp only [ExRel] at h1 <;> exact ⟨_, q, h0, g', h1, h2, h3, h4, h5⟩

end
end Go.Ev
