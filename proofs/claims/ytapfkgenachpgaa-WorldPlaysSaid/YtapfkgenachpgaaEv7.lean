/- The evaluator, part 7. -/
import Derived.LoopN
import Derived.Below
import Derived.Test.YtapfkgenachpgaaEv6
namespace Go.Ev
def mgHq (ng : Cx) (i : Nat) (h0 a b : Hp) : Hp :=
  match Nat.beq a.log.length h0.log.length && (Nat.beq b.log.length h0.log.length && (Nat.beq a.heap.length h0.heap.length && Nat.beq b.heap.length h0.heap.length)) with
  | true => h0
  | false => mgHp ng i h0 a b
theorem touch_none {h0 a : Hp} (ta : Touch h0 a) (h1 : a.log.length = h0.log.length) (h2 : a.heap.length = h0.heap.length) : a.heap = h0.heap := by
  obtain ⟨pa, ea, fa⟩ := ta.log
  have : pa = [] := by
    rw [ea, List.length_append] at h1
    exact List.length_eq_zero_iff.1 (by omega)
  subst this
  apply List.ext_getElem? 
  intro j
  rcases Nat.lt_or_ge j h0.heap.length with h9 | h9
  · exact fa j h9 (by simp)
  · rw [List.getElem?_eq_none h9, List.getElem?_eq_none (by omega)]
theorem mgHq_touch {ng : Cx} {i : Nat} {h0 a b : Hp} (ta : Touch h0 a) (tb : Touch h0 b) : Touch h0 (mgHq ng i h0 a b) := by
  unfold mgHq
  split
  · exact Touch.refl _
  · exact mgHp_touch ta tb
theorem mgHq_rel {ng : Cx} {i : Nat} {h0 a b : Hp} (ta : Touch h0 a) (tb : Touch h0 b) {g0 g : Inj} {w0 w : World} :
    (g.sig.bval i = true → HRel ng g a.heap w → Ext g0 h0.heap w0 g a.heap w → HRel ng g (mgHq ng i h0 a b).heap w ∧ Ext g0 h0.heap w0 g (mgHq ng i h0 a b).heap w) ∧
    (g.sig.bval i = false → HRel ng g b.heap w → Ext g0 h0.heap w0 g b.heap w → HRel ng g (mgHq ng i h0 a b).heap w ∧ Ext g0 h0.heap w0 g (mgHq ng i h0 a b).heap w) := by
  unfold mgHq
  split
  · rename_i hh
    simp only [Bool.and_eq_true, Nat.beq_eq] at hh
    obtain ⟨h1, h2, h3, h4⟩ := hh
    have ea := touch_none ta h1 h3
    have eb := touch_none tb h2 h4
    exact ⟨fun _ h k => ⟨by rw [← ea]; exact h, by rw [← ea]; rw [ea] at k ⊢; exact k⟩, fun _ h k => ⟨by rw [← eb]; exact h, by rw [eb] at k; exact k⟩⟩
  · exact mgHp_rel ta tb
def sameEx : Ex → Ex → Bool
  | .normal, .normal => true
  | .exit i, .exit j => Nat.beq i j
  | .ret, .ret => true
  | _, _ => false
theorem sameEx_eq {x y : Ex} (h : sameEx x y = true) : x = y := by
  unfold sameEx at h
  split at h
  · rfl
  · rw [Nat.eq_of_beq_eq_true h]
  · rfl
  · cases h
def scal (a : AVal) : Bool :=
  match skOf a with
  | some _ => true
  | none => false
mutual
def mgOk : AVal → AVal → Bool
  | .agg l, .agg m => mgOks l m
  | .tuple l, .tuple m => mgOks l m
  | .iface t v, .iface t' v' => Nat.beq t t' && mgOk v v'
  | a, b => match scal a with
    | true => scal b
    | false => eqV a b
def mgOks : List AVal → List AVal → Bool
  | [], [] => true
  | a :: l, b :: m => mgOk a b && mgOks l m
  | _, _ => false
end
def mgOkO : Option AVal → Option AVal → Bool
  | some (.ptr _ _), some (.ptr _ _) => true
  | some (.tuple []), _ => true
  | _, some (.tuple []) => true
  | some a, some b => mgOk a b
  | _, _ => true
def mgOkT : TT → TT → Bool
  | .n l v r, .n l' v' r' => mgOkO v v' && (mgOkT l l' && mgOkT r r')
  | _, _ => true
def mgOkB : Option Blk → Option Blk → Bool
  | some (.cells c e), some (.cells c' e') => Nat.beq e e' && mgOks c c'
  | some (.map l), some (.map m) => eqM l m
  | some (.loop _), some (.loop _) => true
  | some .dfr, some .dfr => true
  | some .gone, _ => true
  | _, some .gone => true
  | _, _ => false
def mgOkH (n : Nat) (A B : List Blk) : List Nat → Bool
  | [] => true
  | j :: ids => (match Nat.blt j n with
    | true => mgOkB (A[j]?) (B[j]?)
    | false => true) && mgOkH n A B ids
def mgO (ng : Cx) (h0 : Hp) (i : Nat) (x y : Out × Hp) : Option (Out × Hp) :=
  match mgOkH h0.heap.length x.2.heap y.2.heap (x.2.log.take (x.2.log.length - h0.log.length) ++ y.2.log.take (y.2.log.length - h0.log.length)) with
  | true => match x.1, y.1 with
    | .val v, .val u => match mgV ng i v u with
      | some r => some (.val r, mgHq ng i h0 x.2 y.2)
      | none => none
    | _, _ => none
  | false => none
def mgOr (h0 : Hp) (x y : Out × Hp) : Option (Out × Hp) :=
  match x.1, y.1 with
  | .val v, .val u => match eqV v u && (Nat.beq x.2.log.length h0.log.length && (Nat.beq y.2.log.length h0.log.length && (Nat.beq x.2.heap.length h0.heap.length && Nat.beq y.2.heap.length h0.heap.length))) with
    | true => some (.val v, h0)
    | false => none
  | _, _ => none
theorem touch_same {h0 a : Hp} (ta : Touch h0 a) (h1 : a.log.length = h0.log.length) (h2 : a.heap.length = h0.heap.length) : a = h0 := by
  have e1 := touch_none ta h1 h2
  obtain ⟨pa, ea, _⟩ := ta.log
  have : pa = [] := by
    rw [ea, List.length_append] at h1
    exact List.length_eq_zero_iff.1 (by omega)
  rw [this, List.nil_append] at ea
  cases a; cases h0
  simp only at e1 ea
  subst e1; subst ea; rfl
theorem mgOr_eq {h0 : Hp} {x y z : Out × Hp} (tx : Touch h0 x.2) (ty : Touch h0 y.2) (h : mgOr h0 x y = some z) : x = z ∧ y = z := by
  obtain ⟨x, hx⟩ := x
  obtain ⟨y, hy⟩ := y
  unfold mgOr at h
  simp only at h tx ty
  split at h
  · rename_i v u
    split at h
    · rename_i hc
      simp only [Bool.and_eq_true, Nat.beq_eq] at hc
      obtain ⟨h1, h2, h3, h4, h5⟩ := hc
      cases h
      rw [touch_same tx h2 h4, touch_same ty h3 h5, eqV_eq _ _ h1]
      exact ⟨rfl, rfl⟩
    · cases h
  · cases h
def mgC (ng : Cx) (h0 : Hp) (i : Nat) (x y : Ex × Tm × Hp) : Option (Ex × Tm × Hp) :=
  match sameEx x.1 y.1 && (mgOkT x.2.1.tr y.2.1.tr && mgOkH h0.heap.length x.2.2.heap y.2.2.heap (x.2.2.log.take (x.2.2.log.length - h0.log.length) ++ y.2.2.log.take (y.2.2.log.length - h0.log.length))) with
  | true => match mgTm ng i x.2.1 y.2.1 with
    | some t => some (x.1, t, mgHq ng i h0 x.2.2 y.2.2)
    | none => none
  | false => none
def WO (ng : Cx) (h0 : Hp) (g0 : Inj) (w0 : World) (x y : Out × Hp) : Prop := ∀ e w, OutQ ng h0 g0 w0 x.1 x.2 e w → OutQ ng h0 g0 w0 y.1 y.2 e w
def WC (ng : Cx) (h0 : Hp) (g0 : Inj) (w0 : World) (a0 : Act) (x y : Ex × Tm × Hp) : Prop := ∀ e a w, CodeQ ng h0 g0 w0 a0 x e a w → CodeQ ng h0 g0 w0 a0 y e a w
theorem mgO_sound {ng : Cx} {h0 : Hp} {i : Nat} {x y z : Out × Hp} (tx : Touch h0 x.2) (ty : Touch h0 y.2) (h : mgO ng h0 i x y = some z) : Touch h0 z.2 ∧ ∀ (g0 : Inj) (w0 : World), (g0.sig.bval i = true → WO ng h0 g0 w0 x z) ∧ (g0.sig.bval i = false → WO ng h0 g0 w0 y z) := by
  obtain ⟨xo, xh⟩ := x
  obtain ⟨yo, yh⟩ := y
  unfold mgO at h
  simp only at h tx ty
  split at h
  rotate_left
  · cases h
  split at h
  · rename_i v u
    split at h
    · rename_i r hr
      cases h
      refine ⟨mgHq_touch tx ty, fun g0 w0 => ⟨?_, ?_⟩⟩
      · rintro hb e w ⟨_, g', ⟨q, rfl, hq⟩, hH, hE⟩
        have hb' : g'.sig.bval i = true := by rw [hE.sub.sig]; exact hb
        obtain ⟨k1, k2⟩ := (mgHq_rel (ng := ng) (i := i) tx ty).1 hb' hH hE
        exact ⟨mgHq_touch tx ty, g', ⟨q, rfl, (mgV_sound v u r hr g' hH.sig q).1 hb' hq⟩, k1, k2⟩
      · rintro hb e w ⟨_, g', ⟨q, rfl, hq⟩, hH, hE⟩
        have hb' : g'.sig.bval i = false := by rw [hE.sub.sig]; exact hb
        obtain ⟨k1, k2⟩ := (mgHq_rel (ng := ng) (i := i) tx ty).2 hb' hH hE
        exact ⟨mgHq_touch tx ty, g', ⟨q, rfl, (mgV_sound v u r hr g' hH.sig q).2 hb' hq⟩, k1, k2⟩
    · cases h
  · cases h
theorem mgC_sound {ng : Cx} {h0 : Hp} {i : Nat} {x y z : Ex × Tm × Hp} (tx : Touch h0 x.2.2) (ty : Touch h0 y.2.2) (h : mgC ng h0 i x y = some z) : Touch h0 z.2.2 ∧ ∀ (g0 : Inj) (w0 : World) (a0 : Act), (g0.sig.bval i = true → WC ng h0 g0 w0 a0 x z) ∧ (g0.sig.bval i = false → WC ng h0 g0 w0 a0 y z) := by
  obtain ⟨xe, xt, xh⟩ := x
  obtain ⟨ye, yt, yh⟩ := y
  unfold mgC at h
  simp only at h tx ty
  split at h
  · rename_i he
    simp only [Bool.and_eq_true] at he
    have he := sameEx_eq he.1
    subst he
    split at h
    · rename_i t hr
      cases h
      refine ⟨mgHq_touch tx ty, fun g0 w0 a0 => ⟨?_, ?_⟩⟩
      · rintro hb e a w ⟨_, g', h1, hH, hE, h2, h3⟩
        have hb' : g'.sig.bval i = true := by rw [hE.sub.sig]; exact hb
        obtain ⟨k1, k2⟩ := (mgHq_rel (ng := ng) (i := i) tx ty).1 hb' hH hE
        exact ⟨mgHq_touch tx ty, g', h1, k1, k2, (mgTm_sound hr g' hH.sig a).1 hb' h2, h3⟩
      · rintro hb e a w ⟨_, g', h1, hH, hE, h2, h3⟩
        have hb' : g'.sig.bval i = false := by rw [hE.sub.sig]; exact hb
        obtain ⟨k1, k2⟩ := (mgHq_rel (ng := ng) (i := i) tx ty).2 hb' hH hE
        exact ⟨mgHq_touch tx ty, g', h1, k1, k2, (mgTm_sound hr g' hH.sig a).2 hb' h2, h3⟩
    · cases h
  · cases h
def eqOf (ng : Cx) (i : Nat) (k : Int) : Option Nat :=
  match symS ng (.bin .eql (.symi .i64 i) (.int .i64 k)) with
  | some (.symb j) => some j
  | _ => none
theorem eqOf_spec {ng : Cx} {σ : Sig} (hg : ng.Good σ) {i j : Nat} {k : Int} (h : eqOf ng i k = some j) : σ.bval j = decide (σ.ival i = k) := by
  unfold eqOf at h
  split at h
  · rename_i j' hs
    cases h
    obtain ⟨q, h1, h2⟩ := symS_sound (g := ⟨fun _ => none, σ, fun _ => none⟩) hg hs
    simp only [evalS, den, binS, intA, if_true, Option.some.injEq] at h1
    subst h1
    have := h2 _ (.bool _)
    generalize hv : Value.bool (σ.ival i == k) = v at this
    cases this
    simp only [Value.bool.injEq] at hv
    rw [← hv]
    rfl
  · cases h
def mgOP (ng : Cx) (h0 : Hp) (i : Nat) (k : Int) (x y : Out × Hp) : Option (Out × Hp) :=
  match eqOf ng i k with
  | some j => mgO ng h0 j x y
  | none => none
def mgCP (ng : Cx) (h0 : Hp) (i : Nat) (k : Int) (x y : Ex × Tm × Hp) : Option (Ex × Tm × Hp) :=
  match eqOf ng i k with
  | some j => mgC ng h0 j x y
  | none => none
theorem mgOP_sound {ng : Cx} {h0 : Hp} {i : Nat} {k : Int} {x y z : Out × Hp} (tx : Touch h0 x.2) (ty : Touch h0 y.2) (h : mgOP ng h0 i k x y = some z) : Touch h0 z.2 ∧ ∀ (g0 : Inj) (w0 : World), (g0.sig.ival i = k → WO ng h0 g0 w0 x z) ∧ (g0.sig.ival i ≠ k → WO ng h0 g0 w0 y z) := by
  unfold mgOP at h
  split at h
  · rename_i j hj
    obtain ⟨t, hw⟩ := mgO_sound tx ty h
    refine ⟨t, fun g0 w0 => ⟨fun e en w hq => ?_, fun e en w hq => ?_⟩⟩
    · have hq' := hq
      obtain ⟨_, g', _, hH, hE⟩ := hq
      have := eqOf_spec hH.sig hj
      rw [hE.sub.sig] at this
      exact (hw g0 w0).1 (by rw [this]; exact decide_eq_true e) en w hq'
    · have hq' := hq
      obtain ⟨_, g', _, hH, hE⟩ := hq
      have := eqOf_spec hH.sig hj
      rw [hE.sub.sig] at this
      exact (hw g0 w0).2 (by rw [this]; exact decide_eq_false e) en w hq'
  · cases h
theorem mgCP_sound {ng : Cx} {h0 : Hp} {i : Nat} {k : Int} {x y z : Ex × Tm × Hp} (tx : Touch h0 x.2.2) (ty : Touch h0 y.2.2) (h : mgCP ng h0 i k x y = some z) : Touch h0 z.2.2 ∧ ∀ (g0 : Inj) (w0 : World) (a0 : Act), (g0.sig.ival i = k → WC ng h0 g0 w0 a0 x z) ∧ (g0.sig.ival i ≠ k → WC ng h0 g0 w0 a0 y z) := by
  unfold mgCP at h
  split at h
  · rename_i j hj
    obtain ⟨t, hw⟩ := mgC_sound tx ty h
    refine ⟨t, fun g0 w0 a0 => ⟨fun e en a w hq => ?_, fun e en a w hq => ?_⟩⟩
    · have hq' := hq
      obtain ⟨_, g', _, hH, hE, _⟩ := hq
      have := eqOf_spec hH.sig hj
      rw [hE.sub.sig] at this
      exact (hw g0 w0 a0).1 (by rw [this]; exact decide_eq_true e) en a w hq'
    · have hq' := hq
      obtain ⟨_, g', _, hH, hE, _⟩ := hq
      have := eqOf_spec hH.sig hj
      rw [hE.sub.sig] at this
      exact (hw g0 w0 a0).2 (by rw [this]; exact decide_eq_false e) en a w hq'
  · cases h
def loopT (body : List Fact → Tm → Hp → Tree (Ex × Tm × Hp)) : Nat → List Fact → Tm → Hp → Tree (Ex × Tm × Hp)
  | 0, _, _, _ => .dead
  | n + 1, F, t, hp => bindT F (body F t hp) fun F' x => match x with
    | (.normal, t', hp') => loopT body n F' t' hp'
    | x => .leaf x
def callR (C : CxF) (call : CallF) (F : List Fact) : CallR := fun f args hp =>
  match (C F).hook f args with
  | some v => .ok (v, hp)
  | none => match (C F).mhook f args hp with
   | some x => .ok x
   | none => match call F f args hp with
    | .leaf (.val v, hp') => .ok (v, hp')
    | .node i _ _ => .ask (.tru i)
    | .pick i c _ _ => .ask (.non i c)
    | .req o _ => match o with
      | .node i _ _ => .ask (.tru i)
      | .pick i c _ _ => .ask (.non i c)
      | _ => .no
    | _ => .no
def tailT (P : Program) (C : CxF) (call : CallF) (round : RoundF) (inr : Bool) (ops : Array Oper) (m : Nat) : Nat → List Fact → Tm → Hp → Tree (Ex × Tm × Hp)
  | 0, _, _, _ => .dead
  | n + 1, F, t, hp => match splitOk ops m with
    | true => match draw1 P (C F) (callR C call F) (ops.toList.take m).toArray t hp with
      | .ok (t', hp') => opsT P C call round inr ops.toList (ops.toList.drop m) F t' hp'
      | .ask x => splitT (fun F => tailT P C call round inr ops m n F t hp) F (some x)
      | .no => .dead
    | false => .dead
def quietA (P : Program) (ng : Cx) (all : List Oper) (t : Tm) (o : Oper) (hp : Hp) : Option AVal :=
  match wantedA ng all t o with
  | some false => some undefA
  | some true => match isCallA o.op with
    | some _ => none
    | none => match kindA P o.op with
      | .pure => pureA P ng t o.op
      | .load => match loadA P ng t o.op hp.heap with
        | some x => some x.1
        | none => none
      | _ => none
  | none => none
def isNoneV (vs : List (Option AVal)) (j : Nat) : Bool :=
  match vs[j]? with
  | some (some _) => false
  | _ => true
def waitsV (vs : List (Option AVal)) (o : Oper) : Bool := o.after.toList.any fun e => Region.binds .any e && isNoneV vs e.on
def panV (P : Program) (ng : Cx) (ops : Array Oper) (hp : Hp) : Nat → List Oper → Tm → List (Option AVal) → Option Nat → List (Option AVal) × Option Nat
  | _, [], _, vs, r => (vs, r)
  | i, o :: l, t, vs, r => match waitsV vs o with
    | true => panV P ng ops hp (i + 1) l t (vs ++ [none]) r
    | false => match quietA P ng ops.toList (only t (o.looksAt ops)) o hp with
      | some v => panV P ng ops hp (i + 1) l (putA t o.dst v) (vs ++ [some v]) r
      | none => panV P ng ops hp (i + 1) l t (vs ++ [none]) (match r with
        | some k => some k
        | none => some i)
def accT (t : Tm) : List Oper → List (Option AVal) → Nat → Tm
  | o :: l, v :: vs, i + 1 => match v with
    | some v => accT (putA t o.dst v) l vs i
    | none => accT t l vs i
  | _, _, _ => t
def okPan (P : Program) (ng : Cx) (ops : Array Oper) (t : Tm) (hp : Hp) (vs : List (Option AVal)) (k : Nat) : Nat → Bool
  | 0 => true
  | i + 1 => okPan P ng ops t hp vs k i && match ops[i]? with
    | some o => match vs[i]? with
      | some (some v) => match quietA P ng ops.toList (only (accT t ops.toList vs i) (o.looksAt ops)) o hp with
        | some v' => eqV v v'
        | none => false
      | some none => Nat.beq i k || waitsV vs o
      | none => false
    | none => false
def keepL (t : Tm) (ops : List Oper) : Nat → List (Nat × AVal)
  | 0 => []
  | d + 1 => match ops.any fun o => o.dst == some d with
    | true => keepL t ops d
    | false => match t.get d with
      | some v => (d, v) :: keepL t ops d
      | none => keepL t ops d
def panF (P : Program) (C : CxF) (call : CallF) (round : RoundF) (ops : Array Oper) (F : List Fact) (t : Tm) (hp : Hp) : Option (Tm × AVal × Hp) :=
  match statOk ops (ancsA [] ops.toList) with
  | true => match panV P (C F) ops hp 0 ops.toList t [] none with
    | (vs, some k) => match okPan P (C F) ops t hp vs k ops.size && isNoneV vs k with
      | true => match ops[k]? with
        | some o => match doneT P C call round ops.toList o 12 F (only (accT t ops.toList vs k) (o.looksAt ops)) hp with
          | .leaf x => match x.1 with
            | .pan v => some (⟨t.len, .al (keepL t ops.toList t.len), t.df⟩, v, x.2)
            | _ => none
          | _ => none
        | none => none
      | false => none
    | _ => none
  | false => none
def drawT (P : Program) (C : CxF) (call : CallF) (round : RoundF) (inr : Bool) (ops : Array Oper) : Nat → List Fact → Tm → Hp → Tree (Ex × Tm × Hp)
  | 0, _, _, _ => .dead
  | n + 1, F, t, hp => match drawA P (C F) (callR C call F) ops t hp with
    | .ok (t', hp') => .leaf (.normal, t', hp')
    | .ask x => splitT (fun F => drawT P C call round inr ops n F t hp) F (some x)
    | .no => match panF P C call round ops F t hp with
      | some x => .leaf (.pan x.2.1, x.1, x.2.2)
      | none => match lateSplit ops ops.size 1 with
        | some m => tailT P C call round inr ops m 12 F t hp
        | none => .dead
def blockX (id : Nat) (x : Ex × Tm × Hp) : Ex × Tm × Hp :=
  match x with
  | (.exit i, t, hp) => match Nat.beq i id with
    | true => (.normal, t, hp)
    | false => (.exit i, t, hp)
  | x => x
def endRange (n : Nat) (t : Tm) (r : Out × Hp) : Tree (Ex × Tm × Hp) :=
  match r with
  | (.val _, hp) => match hp.heap[n + 1]? with
    | some (.loop la) => match la.st with
      | .busy => .dead
      | _ => match la.pend with
        | none => .leaf (.normal, ⟨t.len, t.tr, .mark n :: t.df⟩, ⟨hp.heap.set (n + 1) (.loop ⟨.exhausted, la.pend, la.t, la.params, la.assign, la.body, la.dfr⟩), (n + 1) :: hp.log⟩)
        | some .ret => .leaf (.ret, ⟨t.len, t.tr, .mark n :: t.df⟩, ⟨hp.heap.set (n + 1) (.loop ⟨.exhausted, la.pend, la.t, la.params, la.assign, la.body, la.dfr⟩), (n + 1) :: hp.log⟩)
        | some (.exit i) => .leaf (.exit i, ⟨t.len, t.tr, .mark n :: t.df⟩, ⟨hp.heap.set (n + 1) (.loop ⟨.exhausted, la.pend, la.t, la.params, la.assign, la.body, la.dfr⟩), (n + 1) :: hp.log⟩)
        | _ => .dead
    | _ => .dead
  | (.pan v, hp) => .leaf (.pan v, ⟨t.len, t.tr, .mark n :: t.df⟩, hp)
def rangeT (P : Program) (C : CxF) (call : CallF) (f : Operand) (ps : Array Tmp) (asg body : Code) (F : List Fact) (t : Tm) (hp : Hp) : Tree (Ex × Tm × Hp) :=
  match ev (C F) t f with
  | some (.func (.func k) first cap) => match enterA P k (first ++ [.yield (hp.heap.length + 1)] ++ cap) with
    | some (k', args) => bindT F (call F k' args ⟨hp.heap ++ [.dfr, .loop ⟨.ready, none, ⟨t.len, t.tr, []⟩, ps, asg, body, hp.heap.length⟩], hp.log⟩) fun _ r => endRange hp.heap.length t r
    | none => .dead
  | _ => .dead
def regionT (P : Program) (C : CxF) (call : CallF) (round : RoundF) (inr : Bool) (ops : Array Oper) (draw : Bool) (F : List Fact) (t : Tm) (hp : Hp) : Tree (Ex × Tm × Hp) :=
  match draw with
  | false => opsT P C call round inr ops.toList ops.toList F t hp
  | true => drawT P C call round inr ops 12 F t hp
def codeT (P : Program) (C : CxF) (mb : Bool) (fuel : Nat) (call : CallF) (round : RoundF) (inr : Bool) : Code → List Fact → Tm → Hp → Tree (Ex × Tm × Hp)
  | .skip, _, t, hp => .leaf (.normal, t, hp)
  | .label _, _, t, hp => .leaf (.normal, t, hp)
  | .region _ ops draw, F, t, hp => match Nat.beq (fuel % 2) 1 with
    | true => mgT (mgC (C F) hp) (mgCP (C F) hp) (fun _ _ => none) (regionT P C call round inr ops draw F t hp)
    | false => regionT P C call round inr ops draw F t hp
  | .seq a b, F, t, hp => bindT F (codeT P C mb fuel call round inr a F t hp) fun F' x => match x with
    | (.normal, t', hp') => codeT P C mb fuel call round inr b F' t' hp'
    | x => .leaf x
  | .cond c a b, F, t, hp => match ev (C F) t c with
    | some (.bool v) => match v with
      | true => codeT P C mb fuel call round inr a F t hp
      | false => codeT P C mb fuel call round inr b F t hp
    | some (.symb i) => .node i (codeT P C mb fuel call round inr a (.tru i true :: F) t hp) (codeT P C mb fuel call round inr b (.tru i false :: F) t hp)
    | _ => .dead
  | .block id c, F, t, hp => match mb with
    | true => mgT (mgC (C F) hp) (mgCP (C F) hp) (fun _ _ => none) (bindT F (codeT P C mb fuel call round inr c F t hp) fun _ x => .leaf (blockX id x))
    | false => bindT F (codeT P C mb fuel call round inr c F t hp) fun _ x => .leaf (blockX id x)
  | .loop c, F, t, hp => loopT (codeT P C mb fuel call round inr c) fuel F t hp
  | .exit i, _, t, hp => .leaf (.exit i, t, hp)
  | .ret, _, t, hp => .leaf (.ret, t, hp)
  | .rangeFunc f ps asg body, F, t, hp => match inr with
    | true => .dead
    | false => rangeT P C call f ps asg body F t hp
  | _, _, _, _ => .dead
structure CodeOk (P : Program) (C : CxF) (inr : Bool) (c : Code) (run : List Fact → Tm → Hp → Tree (Ex × Tm × Hp)) : Prop where
  touch : ∀ F t hp, AllT (fun x => Touch hp x.2.2) (run F t hp)
  wp : ∀ F t hp (Q : Ex × Tm × Hp → Prop) (r : Option Nat) g w a, (inr = false → r = none) → HRel (C F) g hp.heap w → FRel g t a → Sat g.sig Q (run F t hp) →
    c.wpIn (FR r) 0 P (fun e a' w' => ∃ x, Q x ∧ CodeQ (C F) hp g w a x e a' w') a w
def CallTouch (call : CallF) : Prop := ∀ F f args hp, AllT (fun x => Touch hp x.2) (call F f args hp)
def RoundTouch (round : RoundF) : Prop := ∀ F f args hp, AllT (fun x => Touch hp x.2) (round F f args hp)
structure Env (P : Program) (C : CxF) (call : CallF) (round : RoundF) : Prop where
  mixed : P.follows .mixedOrders = true
  ok : CtxOk C
  hooks : ∀ F, Hooks P (C F)
  callT : CallTouch call
  roundT : RoundTouch round
  call : CallSound P C call
  round : RoundSound P C round
section
variable {P : Program} {C : CxF} {call : CallF} {round : RoundF}
theorem split_all {α : Type} {Q : α → Prop} {k : List Fact → Tree α} (hk : ∀ F, AllT Q (k F)) (F : List Fact) (x : Option Ask) : AllT Q (splitT k F x) := by
  have key : ∀ (i : Nat) (l : List Int) (F : List Fact), AllT Q (splitT.picks k i l F) := by
    intro i l
    induction l with
    | nil => intro F; trivial
    | cons c l ih => intro F; exact ⟨hk _, ih _⟩
  unfold splitT
  split
  · exact ⟨hk _, hk _⟩
  · exact key _ _ F
  · exact ⟨hk _, hk _⟩
  · trivial
theorem hand_touch {q x : Nat} {all : List (AVal × AVal)} {hp : Hp} {x0 : Nat} {l0 : List (AVal × AVal)} {cur : Option (AVal × AVal)} (hb : hp.heap[q]? = some (.iter x0 l0 cur)) :
    ∀ (l : List (AVal × AVal)) (i : Nat), AllT (fun y => Touch hp y.2) (handT q x all hp i l)
  | [], _ => trivial
  | [p], i => set_touchK ⟨_, hb, by simp⟩ (fun la h => by cases h)
  | p :: p' :: l, i => ⟨set_touchK ⟨_, hb, by simp⟩ (fun la h => by cases h), hand_touch hb (p' :: l) (i + 1)⟩
theorem next_touch {q x : Nat} {hp : Hp} {x0 : Nat} {l0 : List (AVal × AVal)} {cur : Option (AVal × AVal)} (hb : hp.heap[q]? = some (.iter x0 l0 cur)) (l : List (AVal × AVal)) : AllT (fun y => Touch hp y.2) (nextT q x hp l) := by
  cases l with
  | nil => exact Touch.refl _
  | cons p l => exact hand_touch hb _ _
theorem forkT_touch {hp : Hp} {b z : Nat} {T1 T2 : Tree (Out × Hp)} (hb : ∃ c e, hp.heap[b]? = some (.cells c e)) (h1 : AllT (fun x => Touch hp x.2) T1) (h2 : AllT (fun x => Touch hp x.2) T2) : AllT (fun x => Touch hp x.2) (forkT hp b z T1 T2) := by
  obtain ⟨c, e, hb⟩ := hb
  unfold forkT
  split
  · split
    · split
      · exact goneSnoc_touch ⟨_, hb, by simp⟩
      · exact ⟨h1, h2⟩
    · exact ⟨h1, h2⟩
  · exact ⟨h1, h2⟩
theorem doneT_touch (E : Env P C call round) {all : List Oper} {o : Oper} : ∀ (n : Nat) (F : List Fact) (t : Tm) (hp : Hp), AllT (fun x => Touch hp x.2) (doneT P C call round all o n F t hp)
  | 0, _, _, _ => trivial
  | n + 1, F, t, hp => by
    simp only [doneT]
    split
    · exact split_all (fun F => doneT_touch E n F t hp) _ _
    · exact Touch.refl _
    · rename_i hw
      split
      · split
        · exact E.roundT _ _ _ _
        · split
          · split
            · exact Touch.refl _
            · split
              · rename_i hv
                exact ((E.hooks F).mem _ _ _ _ _ hv).touch
              · split
                · rename_i hfc
                  exact forkT_touch (forkC_touch hfc).2 (E.callT _ _ _ _) ((E.callT _ _ _ _).mono fun x hx => (forkC_touch hfc).1.trans hx)
                · exact E.callT _ _ _ _
          · split
            · rename_i hat
              exact atomA_touch hat
            split
            · exact ⟨Touch.refl _, Touch.refl _⟩
            · trivial
      · split
        · rename_i v hp' ho
          exact (opA_step hw ho).touch
        · split
          · split
            · split
              · exact Touch.refl _
              · trivial
            · trivial
          · split
            · split
              · split
                · rename_i x l cur hb
                  exact next_touch hb l
                · trivial
              · trivial
            · trivial
          · exact split_all (fun F => doneT_touch E n F t hp) _ _
theorem opsT_touch (E : Env P C call round) {inr : Bool} {all : List Oper} : ∀ (rest : List Oper) (F : List Fact) (t : Tm) (hp : Hp), AllT (fun x => Touch hp x.2.2) (opsT P C call round inr all rest F t hp)
  | [], _, _, _ => Touch.refl _
  | o :: rest, F, t, hp => by
    simp only [opsT]
    split
    · refine all_bind (Q := fun x => Touch hp x.2) ?_ (doneT_touch E 12 F t hp)
      rintro F' ⟨x, hp'⟩ hx
      cases x with
      | val v => exact (opsT_touch E rest F' _ hp').mono fun y hy => hx.trans hy
      | pan v => exact hx
    · split
      · trivial
      · split
        · exact opsT_touch E rest F _ hp
        · trivial
theorem callR_sound (E : Env P C call round) (F : List Fact) : CallRSound P (C F) (callR C call F) := by
  intro f args hp v hp' h
  unfold callR at h
  split at h
  · rename_i u hu
    cases h
    exact (E.hooks F).val f args _ hu hp
  · split at h
    · rename_i x hx
      cases h
      exact (E.hooks F).mem f args hp _ _ hx
    split at h
    · rename_i u h' hl
      cases h
      have ht := E.callT F f args hp
      rw [hl] at ht
      refine ⟨ht, fun g w args' hH ha => ?_⟩
      refine (E.call F f args hp (fun x => x = (.val v, hp')) g w args' hH ha (by rw [hl]; exact rfl)).mono ?_
      rintro e w' ⟨x, rfl, _, g', h1, h2, h3⟩
      exact ⟨g', h1, h2, h3⟩
    · cases h
    · cases h
    · split at h <;> cases h
    · cases h
theorem tailT_sound (E : Env P C call round) {ops : Array Oper} {id m : Nat} {inr : Bool} : ∀ n, CodeOk P C inr (.region id ops true) (tailT P C call round inr ops m n)
  | 0 => ⟨fun _ _ _ => trivial, fun _ _ _ _ _ _ _ _ _ _ _ h => h.elim⟩
  | n + 1 => by
    have ih := tailT_sound E (ops := ops) (id := id) (m := m) (inr := inr) n
    constructor
    · intro F t hp
      simp only [tailT]
      split
      · split
        · rename_i t' hp' h
          exact (opsT_touch E _ F t' hp').mono fun x hx => (draw1_any (r := none) (callR_sound E F) h).1.trans hx
        · exact split_all (fun F => ih.touch F t hp) _ _
        · trivial
      · trivial
    · intro F t hp Q r g w a hr hH ht hs
      simp only [tailT] at hs
      split at hs
      · rename_i hok
        have K := splitOk_spec hok
        split at hs
        · rename_i t1 s1 h1
          obtain ⟨a1, a2⟩ := draw1_any (r := r) (callR_sound E F) h1
          refine wpIn_region_any E.mixed ?_
          have hsz : (ops.toList.take m).toArray.size = m := by have := K.lt; simp; omega
          have hA := a2 g w a (fun e a' w' => e = .normal ∧ CodeQ (C F) hp g w a (.normal, t1, s1) .normal a' w') hH ht (fun a' w' q => ⟨rfl, q⟩)
          rw [hsz] at hA
          have key := any_split K.weak (F := FR r) (n := 0) (P := P) (Q := fun e a' w' => ∃ x, Q x ∧ CodeQ (C F) hp g w a x e a' w') (QA := fun e a' w' => e = .normal ∧ CodeQ (C F) hp g w a (.normal, t1, s1) .normal a' w') (fun e a w hne h => absurd h.1 hne)
            (fun listed a' w' hu h => any_seq K (ops.size - m) m (by have := K.lt; omega) (Nat.le_refl _) listed a' w' hu (by
              obtain ⟨_, k0, g', k1, k2, k3, k4, k5⟩ := h
              exact wpListIn_mono (fun e a'' w'' ⟨x, hx, q⟩ => ⟨x, hx, CodeQ.trans hH a1 k3 k5 q⟩) _ _ _ (opsT_sound E.ok E.hooks E.call E.round hr _ F t1 s1 Q g' w' a' k2 k4 (by rw [k3.sub.sig]; exact hs)))) m (Array.replicate m false) (Array.replicate ops.size false) a w.drew (by simp) (by simp)
            (fun i => by unfold Ls; simp [Array.getElem?_replicate]; split <;> split <;> simp) (fun i o _ hi => absurd hi (ls_none m i)) ?_ hA
          · rw [show m + (ops.size - m) = ops.size by have := K.lt; omega] at key
            exact key
          · unfold left
            have : ((List.range m).countP fun i => !(Array.replicate m false).getD i false) = (List.range m).length := by
              rw [List.countP_eq_length]
              intro i hi
              simp [List.mem_range.1 hi]
            rw [this]; simp
        · obtain ⟨F', hF', h'⟩ := sat_split (E.ok.facts hH) hs
          refine wpIn_mono (ih.wp F' t hp Q r g w a hr (E.ok.move hH hF') ht h') fun e a' w' ⟨x, hx, hq⟩ => ⟨x, hx, hq.move E.ok (E.ok.facts hH)⟩
        · exact hs.elim
      · exact hs.elim
theorem quiet_step {ng : Cx} {all : List Oper} {t : Tm} {o : Oper} {hp : Hp} {v : AVal} (h : quietA P ng all t o hp = some v) : Step P ng all o t hp v hp := by
  unfold quietA at h
  split at h
  · rename_i hw; cases h; exact .skip hw
  · rename_i hw
    split at h
    · cases h
    · split at h
      · exact .pure v hw h
      · split at h
        · rename_i x hx; cases h; exact .load x.1 x.2 hw hx
        · cases h
      · cases h
  · cases h
theorem accT_get : ∀ (l : List Oper) (vs : List (Option AVal)) (i : Nat) (t : Tm) (d : Nat) (v : AVal), (accT t l vs i).get d = some v →
    (∃ (j : Nat) (y : Oper), j < i ∧ l[j]? = some y ∧ y.dst = some d ∧ vs[j]? = some (some v)) ∨ (t.get d = some v ∧ ∀ (j : Nat) (y : Oper) (u : AVal), j < i → l[j]? = some y → y.dst = some d → vs[j]? ≠ some (some u))
  | [], vs, i, t, d, v, h => by
    rw [show accT t [] vs i = t by unfold accT; rfl] at h
    exact .inr ⟨h, fun j y u _ hy => by simp at hy⟩
  | o :: l, [], i, t, d, v, h => by
    rw [show accT t (o :: l) [] i = t by unfold accT; rfl] at h
    exact .inr ⟨h, fun j y u _ _ _ hv => by simp at hv⟩
  | o :: l, w :: vs, 0, t, d, v, h => by
    rw [show accT t (o :: l) (w :: vs) 0 = t by unfold accT; rfl] at h
    exact .inr ⟨h, fun j y u hj => by omega⟩
  | o :: l, none :: vs, i + 1, t, d, v, h => by
    simp only [accT] at h
    rcases accT_get l vs i t d v h with ⟨j, y, h1, h2, h3, h4⟩ | ⟨h1, h2⟩
    · exact .inl ⟨j + 1, y, by omega, by simpa using h2, h3, by simpa using h4⟩
    · refine .inr ⟨h1, fun j y u hj hy hd => ?_⟩
      cases j with
      | zero => simp
      | succ j => simpa using h2 j y u (by omega) (by simpa using hy) hd
  | o :: l, some w :: vs, i + 1, t, d, v, h => by
    simp only [accT] at h
    rcases accT_get l vs i _ d v h with ⟨j, y, h1, h2, h3, h4⟩ | ⟨h1, h2⟩
    · exact .inl ⟨j + 1, y, by omega, by simpa using h2, h3, by simpa using h4⟩
    · obtain ⟨n, tr, df⟩ := t
      cases ho : o.dst with
      | none =>
        rw [ho] at h1
        refine .inr ⟨h1, fun j y u hj hy hd => ?_⟩
        cases j with
        | zero => simp at hy; subst hy; rw [ho] at hd; cases hd
        | succ j => simpa using h2 j y u (by omega) (by simpa using hy) hd
      | some d0 =>
        rw [ho] at h1
        have h3 := Tm.get_tr h1
        have hlt := Tm.get_lt h1
        simp only [putA] at h3 hlt
        rcases TT.get_put tr d0 d w v h3 with ⟨rfl, rfl⟩ | ⟨hne, h4⟩
        · exact .inl ⟨0, o, by omega, by simp, ho, by simp⟩
        · refine .inr ⟨Tm.get_of h4 hlt, fun j y u hj hy hd => ?_⟩
          cases j with
          | zero => simp at hy; subst hy; rw [ho] at hd; simp at hd; exact absurd hd.symm hne
          | succ j => simpa using h2 j y u (by omega) (by simpa using hy) hd
theorem accT_len : ∀ (l : List Oper) (vs : List (Option AVal)) (i : Nat) (t : Tm), (accT t l vs i).len = t.len
  | [], vs, i, t => by unfold accT; rfl
  | o :: l, [], i, t => by unfold accT; rfl
  | o :: l, w :: vs, 0, t => by unfold accT; rfl
  | o :: l, none :: vs, i + 1, t => by simp only [accT]; exact accT_len l vs i t
  | o :: l, some w :: vs, i + 1, t => by
    simp only [accT]
    rw [accT_len l vs i]
    obtain ⟨n, tr, df⟩ := t
    cases o.dst <;> rfl
theorem keepL_get (t : Tm) (ops : List Oper) : ∀ (n d : Nat) (v : AVal), alGet (keepL t ops n) d = some v → t.get d = some v ∧ ∀ o, o ∈ ops → o.dst ≠ some d
  | 0, d, v, h => by simp [keepL, alGet] at h
  | n + 1, d, v, h => by
    simp only [keepL] at h
    split at h
    · exact keepL_get t ops n d v h
    · rename_i hno
      split at h
      · rename_i u hu
        simp only [alGet] at h
        split at h
        · rename_i hb
          have := Nat.eq_of_beq_eq_true hb
          cases h; subst this
          refine ⟨hu, fun o ho hd => ?_⟩
          have h9 := List.any_eq_false.1 hno o ho
          rw [hd] at h9; simp at h9
        · exact keepL_get t ops n d v h
      · exact keepL_get t ops n d v h
theorem okPan_get {P : Program} {ng : Cx} {ops : Array Oper} {t : Tm} {hp : Hp} {vs : List (Option AVal)} {k : Nat} : ∀ {n : Nat}, okPan P ng ops t hp vs k n = true → ∀ (i : Nat) (o : Oper), i < n → ops[i]? = some o →
    (∃ v, vs[i]? = some (some v) ∧ quietA P ng ops.toList (only (accT t ops.toList vs i) (o.looksAt ops)) o hp = some v) ∨ (vs[i]? = some none ∧ (i = k ∨ waitsV vs o = true))
  | 0, _, i, o, hi, _ => by omega
  | n + 1, h, i, o, hi, ho => by
    simp only [okPan, Bool.and_eq_true] at h
    obtain ⟨h1, h2⟩ := h
    rcases Nat.lt_or_ge i n with h9 | h9
    · exact okPan_get h1 i o h9 ho
    · have : i = n := by omega
      subst this
      rw [ho] at h2
      simp only at h2
      split at h2
      · rename_i v hv
        split at h2
        · rename_i v' hq
          rw [eqV_eq _ _ h2] at hv
          exact .inl ⟨v', hv, hq⟩
        · cases h2
      · rename_i hv
        rw [Bool.or_eq_true] at h2
        exact .inr ⟨hv, h2.imp Nat.eq_of_beq_eq_true id⟩
      · cases h2
theorem waitsV_spec {vs : List (Option AVal)} {o : Oper} (h : waitsV vs o = true) : ∃ e, e ∈ o.after ∧ Region.binds .any e = true ∧ ∀ v, vs[e.on]? ≠ some (some v) := by
  unfold waitsV at h
  rw [List.any_eq_true] at h
  obtain ⟨e, h1, h2⟩ := h
  simp only [Bool.and_eq_true] at h2
  refine ⟨e, by simpa using h1, h2.1, fun v hv => ?_⟩
  have h3 := h2.2
  unfold isNoneV at h3
  rw [hv] at h3; cases h3
theorem anc_lt' {ops : Array Oper} (he : ∀ (i : Nat) (o : Oper), ops[i]? = some o → ∀ e, e ∈ o.after → Region.binds .any e = true → e.on < i) : ∀ {i j : Nat}, Anc ops i j → j < i
  | _, _, .one i j o e ho h1 h2 h3 => h3 ▸ he i o ho e h1 h2
  | _, _, .more i j o e ho h1 h2 h3 => Nat.lt_trans (anc_lt' he h3) (he i o ho e h1 h2)
theorem panF_sound (E : Env P C call round) {ops : Array Oper} {F : List Fact} {t t' : Tm} {hp hp' : Hp} {v : AVal} (h : panF P C call round ops F t hp = some (t', v, hp')) :
    Touch hp hp' ∧ ∀ (id : Nat) (r : Option Nat) g w a, HRel (C F) g hp.heap w → FRel g t a → (Code.region id ops true).wpIn (FR r) 0 P (CodeQ (C F) hp g w a (.pan v, t', hp')) a w := by
  unfold panF at h
  split at h
  · rename_i hst
    split at h
    · rename_i vs k hv
      split at h
      · rename_i hok
        split at h
        · rename_i ok hk
          split at h
          · rename_i x hx
            split at h
            · rename_i v0 hx1
              cases h
              simp only [Bool.and_eq_true] at hok
              obtain ⟨hok, hkn⟩ := hok
              unfold statOk at hst
              simp only [Bool.and_eq_true] at hst
              obtain ⟨⟨s1, s2⟩, s3⟩ := hst
              have edge : ∀ (i : Nat) (o : Oper), ops[i]? = some o → ∀ e, e ∈ o.after → Region.binds .any e = true → e.on < i := by
                intro i o ho e he hb
                have := edgeOk_spec ops.toList 0 s1 i o (by simpa using ho) e he hb
                omega
              have hkv : ∀ u, vs[k]? ≠ some (some u) := by
                intro u hu
                unfold isNoneV at hkn
                rw [hu] at hkn; cases hkn
              have hxe : x = (.pan v, x.2) := by rw [← hx1]
              have hT := doneT_touch E (all := ops.toList) (o := ok) 12 F (only (accT t ops.toList vs k) (ok.looksAt ops)) hp
              rw [hx] at hT
              refine ⟨hT, fun id r g w a hH ht => ?_⟩
              refine wpIn_region_any E.mixed ?_
              have key : ∀ (n : Nat) (listed : Array Bool) (a' : Act) (w' : World) (g' : Inj), listed.size = ops.size → left ops.size listed ≤ n →
                  (∀ i o, ops[i]? = some o → Ls listed i → ∀ e, e ∈ o.after → Region.binds .any e = true → Ls listed e.on) →
                  (∀ j, Ls listed j → ∃ u, vs[j]? = some (some u)) →
                  HRel (C F) g' hp.heap w' → Ext g hp.heap w g' hp.heap w' → a'.tmps.size = a.tmps.size → a'.defers = a.defers →
                  (∀ (j : Nat) (y : Oper) (d : Nat) (u : AVal), ops[j]? = some y → y.dst = some d → Ls listed j → vs[j]? = some (some u) → d < t.len → ∃ z, a'.tmps[d]? = some z ∧ VRel g' u z) →
                  (∀ (d : Nat), (∀ (j : Nat) (y : Oper), ops[j]? = some y → Ls listed j → y.dst ≠ some d) → a'.tmps[d]? = a.tmps[d]?) →
                  wpAnyIn (FR r) 0 P .any ops (CodeQ (C F) hp g w a (.pan v, ⟨t.len, .al (keepL t ops.toList t.len), t.df⟩, x.2)) n listed a' w' := by
                intro n
                induction n with
                | zero =>
                  intro listed a' w' g' hsz hl hcl hso hH' hE hasz hadf t1 t2
                  exfalso
                  have : Ls listed k := by
                    have h0 : left ops.size listed = 0 := by omega
                    unfold left at h0
                    rw [List.countP_eq_zero] at h0
                    have := h0 k (List.mem_range.2 (Array.getElem?_eq_some_iff.1 hk).1)
                    simpa [Ls] using this
                  obtain ⟨u, hu⟩ := hso k this
                  exact hkv u hu
                | succ n ih =>
                  intro listed a' w' g' hsz hl hcl hso hH' hE hasz hadf t1 t2
                  have hnk : ¬ Ls listed k := fun hk' => by
                    obtain ⟨u, hu⟩ := hso k hk'
                    exact hkv u hu
                  refine ⟨fun hnil => ?_, fun i hi => ?_⟩
                  · exfalso
                    obtain ⟨j, hj, hnj, hmin⟩ : ∃ j, j ≤ k ∧ ¬ Ls listed j ∧ ∀ i, i < j → Ls listed i := by
                      have : ∀ m, m ≤ k → ¬ Ls listed m → ∃ j, j ≤ k ∧ ¬ Ls listed j ∧ ∀ i, i < j → Ls listed i := by
                        intro m
                        induction m using Nat.strongRecOn with
                        | _ m ihm =>
                          intro hm hnm
                          by_cases hc : ∃ i, i < m ∧ ¬ Ls listed i
                          · obtain ⟨i, q1, q2⟩ := hc
                            exact ihm i q1 (by omega) q2
                          · exact ⟨m, hm, hnm, fun i hi => Classical.byContradiction fun h => hc ⟨i, hi, h⟩⟩
                      exact this k (Nat.le_refl _) hnk
                    have hkl := (Array.getElem?_eq_some_iff.1 hk).1
                    have hjn : j < ops.size := by omega
                    have ho : ops[j]? = some ops[j] := by simp [hjn]
                    have hin : j ∈ Region.ready .any ops listed := by
                      unfold Region.ready
                      simp only [List.mem_filter, List.mem_range, Bool.and_eq_true, Bool.not_eq_true']
                      refine ⟨hjn, ?_, ?_⟩
                      · unfold Ls at hnj
                        simp [show j < listed.size by omega] at hnj ⊢
                        exact hnj
                      · rw [ho]
                        simp only [Option.map_some, Option.getD_some, Array.all_eq_true_iff_forall_mem]
                        intro e he
                        by_cases hb : Region.binds .any e = true
                        · have := hmin e.on (edge j _ ho e he hb)
                          unfold Ls at this
                          simp [this]
                        · simp [hb]
                    rw [hnil] at hin; cases hin
                  · obtain ⟨o, hr⟩ := mem_ready hsz hi
                    have hin := rdy_lt hr
                    have hanc : ∀ j, Anc ops i j → Ls listed j := fun j hj => anc_listed hcl hj fun o' ho' e e1 e2 => by
                      rw [hr.op] at ho'; cases ho'
                      exact hr.edges e e1 e2
                    have htr : TRel g' (only (accT t ops.toList vs i) (o.looksAt ops)) a' := by
                      refine ⟨by show (accT t ops.toList vs i).len ≤ _; rw [accT_len, hasz]; exact ht.1.1, fun d u hd => ?_⟩
                      obtain ⟨h1, h2⟩ := only_get hd
                      have hdl : d < t.len := by have := Tm.get_lt h1; rwa [accT_len] at this
                      rcases accT_get _ _ _ _ _ _ h1 with ⟨j, y, q1, q2, q3, q4⟩ | ⟨q1, q2⟩
                      · rcases readsOk_spec s3 i j o y d hr.op (by simpa using q2) h2 q3 (by omega) with h9 | h9
                        · exact t1 j y d u (by simpa using q2) q3 (hanc j (anc_bit ops i j h9)) q4 hdl
                        · have := anc_lt' edge (anc_bit ops j i h9)
                          omega
                      · rw [t2 d (fun j y hy hl hyd => ?_)]
                        · obtain ⟨z, z1, z2⟩ := ht.1.2 d u q1
                          exact ⟨z, z1, z2.mono hE.sub⟩
                        · obtain ⟨u', hu'⟩ := hso j hl
                          have hji : j ≠ i := fun e => hr.no (e ▸ hl)
                          have hge : ¬ j < i := fun hlt => q2 j y u' hlt (by simpa using hy) hyd hu'
                          rcases readsOk_spec s3 i j o y d hr.op hy h2 hyd hji with h9 | h9
                          · have := anc_lt' edge (anc_bit ops i j h9)
                            omega
                          · refine hr.no (anc_listed hcl (anc_bit ops j i h9) fun o' ho' e e1 e2 => hcl j o' ho' hl e e1 e2)
                    unfold wpOpIn
                    rw [hr.op]
                    simp only
                    by_cases hik : i = k
                    · subst hik
                      have hoe := hr.op
                      rw [hk] at hoe
                      cases hoe
                      refine doneT_sound E.ok E.hooks E.call E.round 12 F (only (accT t ops.toList vs i) (ok.looksAt ops)) hp (fun y => y = x) g' w' a' _ _ hH' htr (by rw [hx]; rfl) ?_ ?_
                      · intro v1 hp1 g1 u1 w1 he
                        rw [hxe] at he; cases he
                      · intro v1 hp1 g1 u1 w1 he hto hv1 hH1 hE1
                        rw [hxe] at he; cases he
                        refine ⟨hT, g1, ⟨u1, rfl, hv1⟩, hH1, hE.trans hH hE1, ⟨⟨by show t.len ≤ _; rw [hasz]; exact ht.1.1, fun d u hd => ?_⟩, by rw [hadf]; exact ht.2.mono (hE.trans hH hE1).sub⟩, hasz⟩
                        have hd2 := Tm.get_tr hd
                        simp only [TT.get] at hd2
                        obtain ⟨q1, q2⟩ := keepL_get _ _ _ _ _ hd2
                        obtain ⟨z, z1, z2⟩ := ht.1.2 d u q1
                        refine ⟨z, ?_, z2.mono (hE.trans hH hE1).sub⟩
                        rw [t2 d fun j y hy _ hyd => q2 y (List.mem_of_getElem? (i := j) (by simpa using hy)) hyd]
                        exact z1
                    · rcases okPan_get hok i o hin hr.op with ⟨u, hu, hq⟩ | ⟨hu, h9⟩
                      · refine (quiet_step hq).wp hH' htr ?_
                        intro g1 z w1 hv1 hH1 hE1
                        have hil : i < listed.size := by omega
                        refine ih (listed.setIfInBounds i true) _ w1 g1 (by simp [hsz]) ?_ ?_ ?_ hH1 (hE.trans hH hE1) (by rw [(put_size a' o.dst z).1, hasz]) (by rw [(put_size a' o.dst z).2, hadf]) ?_ ?_
                        · have := left_set hin hsz hr.no
                          omega
                        · intro j y hy hl e he hb
                          rw [ls_set listed i _ hil] at hl ⊢
                          rcases hl with rfl | hl
                          · rw [hr.op] at hy; cases hy
                            exact .inr (hr.edges e he hb)
                          · exact .inr (hcl j y hy hl e he hb)
                        · intro j hl
                          rw [ls_set listed i _ hil] at hl
                          rcases hl with rfl | hl
                          · exact ⟨u, hu⟩
                          · exact hso j hl
                        · intro j y d u' hy hyd hl hvj hdl
                          rw [ls_set listed i _ hil] at hl
                          by_cases hji : j = i
                          · subst hji
                            rw [hr.op] at hy; cases hy
                            rw [hu] at hvj; cases hvj
                            refine ⟨z, ?_, hv1⟩
                            have : d < a'.tmps.size := by rw [hasz]; have := ht.1.1; omega
                            simp [Act.put, hyd, this]
                          · have hl : Ls listed j := hl.resolve_left hji
                            obtain ⟨z', z1, z2⟩ := t1 j y d u' hy hyd hl hvj hdl
                            refine ⟨z', ?_, z2.mono hE1.sub⟩
                            cases hod : o.dst with
                            | none => simpa [Act.put] using z1
                            | some d' =>
                              simp only [Act.put]
                              rw [Array.getElem?_setIfInBounds_ne]
                              · exact z1
                              · intro he
                                subst he
                                exact hji (dstOk_spec ops.toList s2 j i y o d' (by simpa using hy) (by simpa using hr.op) hyd hod)
                        · intro d hno
                          have hod := hno i o hr.op ((ls_set listed i i hil).2 (.inl rfl))
                          rw [← t2 d fun j y hy hl => hno j y hy ((ls_set listed i j hil).2 (.inr hl))]
                          cases ho : o.dst with
                          | none => simp [Act.put]
                          | some d' =>
                            simp only [Act.put]
                            rw [Array.getElem?_setIfInBounds_ne (fun he => hod (by rw [ho, he]))]
                      · exfalso
                        rcases h9 with h9 | h9
                        · exact hik h9
                        · obtain ⟨e, e1, e2, e3⟩ := waitsV_spec h9
                          obtain ⟨u, hu'⟩ := hso e.on (hr.edges e e1 e2)
                          exact e3 u hu'
              have hwd : HRel (C F) g hp.heap w.drew ∧ Ext g hp.heap w g hp.heap w.drew := by
                refine ⟨⟨hH.dom, hH.inj, fun i k hi hk => ?_, hH.glob, hH.sig, hH.frz.to rfl rfl (Nat.le_refl _) fun b hb q2 => ⟨rfl, q2⟩⟩,
                  ⟨Sub.refl g, (fun i L hi hn => by rw [hn] at hi; cases hi), (fun i L hi hn => by rw [hn] at hi; cases hi), Nat.le_refl _, fun _ _ hl => hl, Nat.le_refl _, fun _ _ _ => rfl, rfl, rfl, rfl⟩⟩
                rcases hH.blk0 i k hi hk with hz | ⟨L, hL, hB⟩
                · exact .inl hz
                · exact .inr ⟨L, hL, hB.of_same rfl⟩
              refine key ops.size (Array.replicate ops.size false) a w.drew g (by simp) ?_ (fun i o _ hi => absurd hi (ls_none _ i)) (fun j hi => absurd hi (ls_none _ j)) hwd.1 hwd.2 rfl rfl (fun j y d u _ _ hl => absurd hl (ls_none _ j)) (fun d _ => rfl)
              unfold left
              have : ((List.range ops.size).countP fun i => !(Array.replicate ops.size false).getD i false) ≤ (List.range ops.size).length := List.countP_le_length
              simpa using this
            · cases h
          · cases h
        · cases h
      · cases h
    · cases h
  · cases h
theorem drawT_sound (E : Env P C call round) {ops : Array Oper} {id : Nat} {inr : Bool} : ∀ n, CodeOk P C inr (.region id ops true) (drawT P C call round inr ops n)
  | 0 => ⟨fun _ _ _ => trivial, fun _ _ _ _ _ _ _ _ _ _ _ h => h.elim⟩
  | n + 1 => by
    have ih := drawT_sound E (ops := ops) (id := id) (inr := inr) n
    constructor
    · intro F t hp
      simp only [drawT]
      split
      · rename_i t' hp' h
        exact (drawA_sound (r := none) E.mixed (callR_sound E F) h).1
      · exact split_all (fun F => ih.touch F t hp) _ _
      · split
        · rename_i x hx
          exact (panF_sound E (t' := x.1) (v := x.2.1) (hp' := x.2.2) hx).1
        · split
          · exact (tailT_sound E (id := id) 12).touch F t hp
          · trivial
    · intro F t hp Q r g w a hr hH ht hs
      simp only [drawT] at hs
      split at hs
      · rename_i t' hp' h
        exact wpIn_mono ((drawA_sound (r := r) E.mixed (callR_sound E F) h).2 id g w a hH ht) fun e a' w' hq => ⟨_, hs, hq⟩
      · obtain ⟨F', hF', h'⟩ := sat_split (E.ok.facts hH) hs
        refine wpIn_mono (ih.wp F' t hp Q r g w a hr (E.ok.move hH hF') ht h') fun e a' w' ⟨x, hx, hq⟩ => ⟨x, hx, hq.move E.ok (E.ok.facts hH)⟩
      · split at hs
        · rename_i x hx
          exact wpIn_mono ((panF_sound E (t' := x.1) (v := x.2.1) (hp' := x.2.2) hx).2 id r g w a hH ht) fun e a' w' hq => ⟨_, hs, hq⟩
        · split at hs
          · exact (tailT_sound E (id := id) 12).wp F t hp Q r g w a hr hH ht hs
          · exact hs.elim
theorem loopT_sound (E : Env P C call round) {c : Code} {run : List Fact → Tm → Hp → Tree (Ex × Tm × Hp)} {inr : Bool} (hc : CodeOk P C inr c run) : ∀ (n : Nat),
    (∀ F t hp, AllT (fun x => Touch hp x.2.2) (loopT run n F t hp)) ∧ ∀ F t hp (Q : Ex × Tm × Hp → Prop) (r : Option Nat) g w a, (inr = false → r = none) → HRel (C F) g hp.heap w → FRel g t a → Sat g.sig Q (loopT run n F t hp) →
    Code.roundsIn (FR r) 0 P c (fun e a' w' => ∃ x, Q x ∧ CodeQ (C F) hp g w a x e a' w') n a w
  | 0 => ⟨fun _ _ _ => trivial, fun _ _ _ _ _ _ _ _ _ _ _ h => h.elim⟩
  | n + 1 => by
    obtain ⟨i1, i2⟩ := loopT_sound E hc n
    constructor
    · intro F t hp
      simp only [loopT]
      refine all_bind (Q := fun x => Touch hp x.2.2) ?_ (hc.touch F t hp)
      rintro F' ⟨x, t', hp'⟩ hx
      cases x with
      | normal => exact (i1 F' t' hp').mono fun y hy => hx.trans hy
      | _ => exact hx
    · intro F t hp Q r g w a hr hH ht hs
      simp only [loopT] at hs
      have hs := sat_bind (E.ok.facts hH) hs
      refine wpIn_mono (hc.wp F t hp _ r g w a hr hH ht hs) ?_
      rintro e a' w' ⟨⟨x, t', hp'⟩, ⟨F', hF', q⟩, hq⟩
      cases x with
      | normal =>
        obtain ⟨h0, g', h1, h2, h3, h4, h5⟩ := hq
        cases e <;> simp only [ExRel] at h1
        have hF0 : Holds g'.sig F := by rw [h3.sub.sig]; exact E.ok.facts hH
        have := i2 F' t' hp' Q r g' w' a' hr (E.ok.move h2 (by rw [h3.sub.sig]; exact hF')) h4 (by rw [h3.sub.sig]; exact q)
        have key : ∀ (m : Nat) (Q1 Q2 : Exit → Act → World → Prop) b v, (∀ e a w, Q1 e a w → Q2 e a w) → Code.roundsIn (FR r) 0 P c Q1 m b v → Code.roundsIn (FR r) 0 P c Q2 m b v := by
          intro m
          induction m with
          | zero => intro _ _ _ _ _ h; exact h
          | succ m ihm =>
            intro Q1 Q2 b v hq h
            rw [roundsIn_succ] at h ⊢
            exact wpIn_mono h fun e a w h => by
              cases e with
              | normal => exact ihm Q1 Q2 a w hq h
              | _ => exact hq _ _ _ h
        exact key n _ _ a' w' (fun e a w ⟨x, hx, hq⟩ => ⟨x, hx, (hq.move E.ok hF0).trans hH h0 h3 h5⟩) this
      | _ =>
        obtain ⟨h0, g', h1, h2, h3, h4, h5⟩ := hq
        cases e <;> simp only [ExRel] at h1 <;> exact ⟨_, q, h0, g', h1, h2, h3, h4, h5⟩
end
end Go.Ev
namespace Go.Ev
section
variable {P : Program} {C : CxF} {call : CallF} {round : RoundF}
def setW (w : World) (r : Nat) (o : Obj) : World := { w with heap := w.heap.setIfInBounds r o }
theorem run_getLoop {w : World} {r : Nat} {o : Loop} (h : w.heap[r]? = some (.loop o)) : (getObj r).run P w = .ok (.loop o) w := by
  simp [getObj, Sem.run, h]
theorem run_setLoop {w : World} {r : Nat} {o : Loop} (x : Obj) (h : w.heap[r]? = some (.loop o)) : (setObj r x).run P w = .ok () (setW w r x) := by
  simp [setObj, Sem.run, h, setW]
theorem new_none {ng : Cx} {g : Inj} {H : List Blk} {w : World} (h : HRel ng g H w) : g H.length = none ∧ ng.n ≤ H.length := by
  have hid : g H.length = none := by
    cases hg : g H.length with
    | none => rfl
    | some M => have := (h.dom _ M hg).1; omega
  refine ⟨hid, ?_⟩
  rcases Nat.lt_or_ge H.length ng.n with h9 | h9
  · obtain ⟨L, hL, _⟩ := h.glob _ h9
    rw [hid] at hL; cases hL
  · exact h9
theorem app_other {H : List Blk} {k : Blk} : ∀ j, j ≠ H.length → (H ++ [k])[j]? = H[j]? := by
  intro j hj
  rcases Nat.lt_or_ge j H.length with h9 | h9
  · rw [List.getElem?_append_left h9]
  · rw [List.getElem?_append_right h9, List.getElem?_eq_none h9]
    have : j - H.length ≠ 0 := by omega
    simp [this]
theorem HRel.new {ng : Cx} {g : Inj} {H : List Blk} {w : World} (h : HRel ng g H w) (k : Blk) (O : Obj)
    (hB : (w.alloc O).heap[w.heap.size]? = some O → BRel (upd g H.length ⟨w.heap.size, 0, 0⟩) (w.alloc O) k ⟨w.heap.size, 0, 0⟩) :
    HRel ng (upd g H.length ⟨w.heap.size, 0, 0⟩) (H ++ [k]) (w.alloc O) ∧ Ext g H w (upd g H.length ⟨w.heap.size, 0, 0⟩) (H ++ [k]) (w.alloc O) := by
  obtain ⟨h1, h2⟩ := new_none h
  have := HRel.allocK h (w0 := w) (H' := H ++ [k]) (k := k) (O := O) (n := 0) h1 h2 rfl rfl rfl rfl (by simp) app_other (by simp) (.inl (Nat.le_refl _)) hB
  exact ⟨this.1, this.2 (Nat.le_refl _)⟩
theorem setW_wr (w : World) (r : Nat) (o : Obj) : Wr r w (setW w r o) := by
  refine ⟨by simp [setW], fun k hk => ?_, rfl, rfl, rfl⟩
  simp only [setW]
  exact Array.getElem?_setIfInBounds_ne (Ne.symm hk)
theorem setW_at {w : World} {r : Nat} {o o' : Obj} (h : w.heap[r]? = some o') : (setW w r o).heap[r]? = some o := by
  have hlt := (Array.getElem?_eq_some_iff.1 h).1
  simp [setW, hlt]
theorem loop_at_block {ng : Cx} {g : Inj} {H : List Blk} {w : World} {b : Nat} {la : LoopA} {L : Loc} (h : HRel ng g H w) (hb : H[b]? = some (.loop la)) (hL : g b = some L) : ∃ r : Loop, w.heap[L.blk]? = some (.loop r) ∧ r.state = la.st ∧ r.pending = la.pend ∧ TmRel g la.t r.tmps ∧ r.params = la.params ∧ r.assign = la.assign ∧ r.body = la.body ∧
    ∃ D, g la.dfr = some D ∧ r.defers = D.blk := by
  obtain ⟨L', hL', hB⟩ := h.blk b _ hb (by simp)
  rw [hL] at hL'; cases hL'
  exact hB
theorem loop_set {ng : Cx} {g : Inj} {hp : Hp} {w : World} {b : Nat} {la : LoopA} {L : Loc} {r : Loop} (h : HRel ng g hp.heap w) (hb : hp.heap[b]? = some (.loop la)) (hL : g b = some L) (hr : w.heap[L.blk]? = some (.loop r)) (st : LoopState) (pend : Option Code)
    (hB : TmRel g la.t r.tmps ∧ r.params = la.params ∧ r.assign = la.assign ∧ r.body = la.body ∧ ∃ D, g la.dfr = some D ∧ r.defers = D.blk) :
    HRel ng g (hp.heap.set b (.loop ⟨st, pend, la.t, la.params, la.assign, la.body, la.dfr⟩)) (setW w L.blk (.loop { r with state := st, pending := pend })) ∧
    Ext g hp.heap w g (hp.heap.set b (.loop ⟨st, pend, la.t, la.params, la.assign, la.body, la.dfr⟩)) (setW w L.blk (.loop { r with state := st, pending := pend })) ∧
    Touch hp ⟨hp.heap.set b (.loop ⟨st, pend, la.t, la.params, la.assign, la.body, la.dfr⟩), b :: hp.log⟩ := by
  obtain ⟨h1, h2, h3, h4, D, h5, h6⟩ := hB
  have := HRel.writeK h (k' := .loop ⟨st, pend, la.t, la.params, la.assign, la.body, la.dfr⟩) ⟨_, hb, by simp⟩ hL (setW_wr w L.blk (.loop { r with state := st, pending := pend }))
    ⟨{ r with state := st, pending := pend }, setW_at hr, rfl, rfl, h1, h2, h3, h4, D, h5, h6⟩
  exact ⟨this.1, this.2, set_touchK ⟨_, hb, by simp⟩ (fun l e => by cases e; exact ⟨la, hb, rfl, rfl, rfl, rfl, rfl⟩)⟩
theorem endRange_touch {h0 : Hp} {t : Tm} (n : Nat) (r : Out × Hp) (hr : Touch h0 r.2) : AllT (fun x => Touch h0 x.2.2) (endRange n t r) := by
  obtain ⟨o, hp⟩ := r
  unfold endRange
  simp only at hr
  split
  · rename_i v hp' he
    cases he
    split
    · rename_i la hl
      have ht : Touch h0 ⟨hp.heap.set (n + 1) (.loop ⟨.exhausted, la.pend, la.t, la.params, la.assign, la.body, la.dfr⟩), (n + 1) :: hp.log⟩ :=
        hr.trans (set_touchK ⟨_, hl, by simp⟩ (fun l e => by cases e; exact ⟨la, hl, rfl, rfl, rfl, rfl, rfl⟩))
      split
      · trivial
      · split
        · exact ht
        · exact ht
        · exact ht
        · trivial
    · trivial
  · rename_i v hp' he
    cases he
    exact hr
theorem app2_touch {hp : Hp} {a b : Blk} : Touch hp ⟨hp.heap ++ [a, b], hp.log⟩ := by
  have h1 : Touch hp ⟨hp.heap ++ [a], hp.log⟩ := app_touch
  have h2 : Touch ⟨hp.heap ++ [a], hp.log⟩ ⟨(hp.heap ++ [a]) ++ [b], hp.log⟩ := app_touch
  have := h1.trans h2
  simpa using this
theorem range_start {ng : Cx} {g : Inj} {H : List Blk} {w : World} (hH : HRel ng g H w) {t : Tm} {a : Act} (ht : TRel g t a) (fn : FuncId) (ps : Array Tmp) (asg body : Code) :
    ∃ (g2 : Inj) (w2 : World) (D l : Nat), (Instr.enterLoop fn a.tmps ps asg body (FR none).round).run P w = .ok (l, [{ target := .collected D, args := #[] }]) w2 ∧ g2 H.length = some ⟨D, 0, 0⟩ ∧ g2 (H.length + 1) = some ⟨l, 0, 0⟩ ∧
      HRel ng g2 (H ++ [.dfr, .loop ⟨.ready, none, ⟨t.len, t.tr, []⟩, ps, asg, body, H.length⟩]) w2 ∧ Ext g H w g2 (H ++ [.dfr, .loop ⟨.ready, none, ⟨t.len, t.tr, []⟩, ps, asg, body, H.length⟩]) w2 := by
  obtain ⟨k1, k2⟩ := hH.new .dfr (.deferred (some [])) (fun h => h)
  have ht1 := ht.mono k2.sub
  generalize hw1 : w.alloc (.deferred (some [])) = w1 at k1 k2
  generalize hg1 : upd g H.length ⟨w.heap.size, 0, 0⟩ = g1 at k1 k2 ht1
  have h1D : g1 H.length = some ⟨w.heap.size, 0, 0⟩ := by rw [← hg1]; exact upd_same _ _ _
  obtain ⟨k3, k4⟩ := k1.new (.loop ⟨.ready, none, ⟨t.len, t.tr, []⟩, ps, asg, body, H.length⟩) (.loop { state := .ready, pending := none, fn := fn, tmps := a.tmps, params := ps, assign := asg, body := body, defers := w.heap.size }) (fun h => by
    have hs := (new_none k1).1
    refine ⟨_, h, rfl, rfl, ht1.mono (upd_sub (⟨w1.heap.size, 0, 0⟩ : Loc) hs), rfl, rfl, rfl, ⟨w.heap.size, 0, 0⟩, ?_, rfl⟩
    rw [upd_other _ _ (by simp)]
    exact h1D)
  have hlen1 : (H ++ [Blk.dfr]).length = H.length + 1 := by simp
  rw [hlen1] at k3 k4
  have happ : H ++ [Blk.dfr] ++ [Blk.loop ⟨.ready, none, ⟨t.len, t.tr, []⟩, ps, asg, body, H.length⟩] = H ++ [.dfr, .loop ⟨.ready, none, ⟨t.len, t.tr, []⟩, ps, asg, body, H.length⟩] := by simp
  rw [happ] at k3 k4
  refine ⟨_, _, w.heap.size, w1.heap.size, ?_, ?_, upd_same _ _ _, k3, k2.trans hH k4⟩
  · rw [← hw1]; simp [Instr.enterLoop, FR]
  · rw [upd_other _ _ (by simp)]; exact h1D
theorem rangeT_sound (E : Env P C call round) {f : Operand} {ps : Array Tmp} {asg body : Code} : CodeOk P C false (.rangeFunc f ps asg body) (rangeT P C call f ps asg body) := by
  constructor
  · intro F t hp
    unfold rangeT
    split
    · split
      · refine all_bind (Q := fun x => Touch hp x.2) (fun F' r hr => endRange_touch _ r hr) ?_
        exact (E.callT _ _ _ _).mono fun x hx => app2_touch.trans hx
      · trivial
    · trivial
  · intro F t hp Q r g w a hr hH ht hs
    have hr := hr rfl
    subst hr
    unfold rangeT at hs
    split at hs
    · rename_i k first cap hf
      split at hs
      · rename_i k' args hen
        have hρ : VRel g (.func (.func k) first cap) (a.eval f) := ht.1.eval hH.sig hH.glob hf
        have hh : ∃ fs cs : Array Value, a.eval f = .func (.func k) fs cs ∧ LRel g first fs.toList ∧ LRel g cap cs.toList := by
          generalize a.eval f = u at hρ
          cases hρ with
          | func _ _ _ fs cs h1 h2 => exact ⟨fs, cs, rfl, h1, h2⟩
        obtain ⟨fs, cs, hfv, hfs, hcs⟩ := hh
        refine wpIn_rangeFunc fun fn _ => ?_
        obtain ⟨g2, w2, D, l, henter, hg2D, hg2L, k3, hE2⟩ := range_start (P := P) hH ht.1 fn ps asg body
        have hargs : ∀ (args' : Array Value), args'.toList = (fs.toList ++ [Value.func (.yield l) #[] #[]]) ++ cs.toList → LRel g2 args args'.toList := by
          intro args' he
          obtain ⟨_, e2⟩ := enterA_run (P := P) (w := w) hen args'
          rw [e2, he]
          exact ((hfs.mono hE2.sub).append (.cons _ _ _ _ (.yield _ _ hg2L) .nil)).append (hcs.mono hE2.sub)
        refine ⟨l, [{ target := .collected D, args := #[] }], w2, ⟨.fn (.func k) cs, fs ++ #[.func (.yield l) #[] #[]]⟩, w2, k', fs ++ #[.func (.yield l) #[] #[]] ++ cs, w2, ?_, ?_, fun _ _ => trivial, ?_, fun h => (by cases h), ?_⟩
        · exact henter
        · simp [resolve, hfv, Deferred.ofValue]; rfl
        · obtain ⟨e1, _⟩ := enterA_run (P := P) (w := w2) hen (fs ++ #[.func (.yield l) #[] #[]] ++ cs)
          simpa [invoke] using e1
        · have hs := sat_bind (E.ok.facts hH) hs
          have hc := E.call F k' args ⟨hp.heap ++ [.dfr, .loop ⟨.ready, none, ⟨t.len, t.tr, []⟩, ps, asg, body, hp.heap.length⟩], hp.log⟩ (fun x => ∃ F', Holds g.sig F' ∧ Sat g.sig Q (endRange hp.heap.length t x)) g2 w2 (fs ++ #[.func (.yield l) #[] #[]] ++ cs) k3 (hargs _ (by simp)) (by rw [hE2.sub.sig]; exact hs)
          refine callsIn_FR (Calls.mono hc ?_)
          rintro e w3 ⟨⟨o, hp3⟩, ⟨F', hF', q⟩, ht3, g3, ho, hH3, hE3⟩
          have hE13 : Ext g hp.heap w g3 hp3.heap w3 := hE2.trans hH hE3
          have ht13 : Touch hp hp3 := app2_touch.trans ht3
          have hfr : FRel g3 ⟨t.len, t.tr, .mark hp.heap.length :: t.df⟩ { a with defers := [{ target := .collected D, args := #[] }] ++ a.defers } := by
            refine ⟨(ht.1.mono hE13.sub), ?_⟩
            exact .mark _ ⟨D, 0, 0⟩ _ _ (hE3.sub _ _ hg2D) (ht.2.mono hE13.sub)
          simp only [endRange] at q
          cases o with
          | pan v =>
            obtain ⟨u, rfl, hu⟩ := ho
            exact ⟨_, q, ht13, g3, ⟨u, rfl, hu⟩, hH3, hE13, hfr, rfl⟩
          | val v =>
            obtain ⟨u, rfl, hu⟩ := ho
            simp only at q
            split at q
            · rename_i la hla
              have hL3 : g3 (hp.heap.length + 1) = some ⟨l, 0, 0⟩ := hE3.sub _ _ hg2L
              obtain ⟨rr, r1, r2, r3, r4, r5, r6, r7, r8⟩ := loop_at_block hH3 hla hL3
              simp only at r1
              have hset := loop_set hH3 hla hL3 r1 .exhausted la.pend ⟨r4, r5, r6, r7, r8⟩
              obtain ⟨s1, s2, s3⟩ := hset
              have hend : ¬ la.st = .busy → (Instr.endLoop l).run P w3 = .ok rr.pending (setW w3 l (.loop { rr with state := .exhausted })) := by
                intro hb
                have hb' : (rr.state == LoopState.busy) = false := by
                  rw [r2]
                  cases hst : la.st <;> first | rfl | (exact absurd hst hb)
                have hg := run_getLoop (P := P) r1
                have hlt := (Array.getElem?_eq_some_iff.1 r1).1
                simp only [Instr.endLoop, Instr.getLoop, Sem.run_bind, hg, Result.andThen_ok, Sem.run_pure, hb']
                have hs2 := run_setLoop (P := P) (.loop { rr with state := .exhausted }) r1
                simp [hs2]
              have hpend : ({ rr with state := LoopState.exhausted, pending := la.pend } : Loop) = { rr with state := .exhausted } := by rw [← r3]
              rw [hpend] at s1 s2
              split at q
              · exact q.elim
              · rename_i hst
                have hend := hend (fun e => hst e)
                have fin : ∀ x e, x.2.1 = (⟨t.len, t.tr, .mark hp.heap.length :: t.df⟩ : Tm) → x.2.2 = (⟨hp3.heap.set (hp.heap.length + 1) (.loop ⟨.exhausted, la.pend, la.t, la.params, la.assign, la.body, la.dfr⟩), (hp.heap.length + 1) :: hp3.log⟩ : Hp) → ExRel g3 x.1 e → Q x →
                    ∃ x, Q x ∧ CodeQ (C F) hp g w a x e { a with defers := [{ target := .collected D, args := #[] }] ++ a.defers } (setW w3 l (.loop { rr with state := .exhausted })) := by
                  rintro ⟨x1, x2, x3⟩ e rfl rfl he hq
                  exact ⟨_, hq, ht13.trans s3, g3, he, s1, hE13.trans hH s2, hfr, rfl⟩
                split at q
                · rename_i hp0
                  refine ⟨none, _, by rw [← hp0, ← r3]; exact hend, ?_⟩
                  exact fin (.normal, _, _) .normal rfl (by rw [hp0]) trivial q
                · rename_i hp0
                  refine ⟨some .ret, _, by rw [← hp0, ← r3]; exact hend, ?_⟩
                  exact wpIn_ret (fin (.ret, _, _) .ret rfl (by rw [hp0]) trivial q)
                · rename_i i hp0
                  refine ⟨some (.exit i), _, by rw [← hp0, ← r3]; exact hend, ?_⟩
                  exact wpIn_exit (fin (.exit i, _, _) (.exit i) rfl (by rw [hp0]) rfl q)
                · exact q.elim
            · exact q.elim
      · exact hs.elim
    · exact hs.elim
end
end Go.Ev
namespace Go.Ev
def putsA (t : Tm) : List Nat → List AVal → Tm
  | d :: ds, v :: vs => putsA (putA t (some d) v) ds vs
  | _, _ => t
def endRound (b : Nat) (x : Ex × Tm × Hp) : Tree (Out × Hp) :=
  match x.2.2.heap[b]? with
  | some (.loop l) => match x.1 with
    | .normal => .leaf (.val (.bool true), ⟨x.2.2.heap.set b (.loop ⟨.ready, none, l.t, l.params, l.assign, l.body, l.dfr⟩), b :: x.2.2.log⟩)
    | .ret => .leaf (.val (.bool false), ⟨x.2.2.heap.set b (.loop ⟨.done, some .ret, l.t, l.params, l.assign, l.body, l.dfr⟩), b :: x.2.2.log⟩)
    | .exit i => .leaf (.val (.bool false), ⟨x.2.2.heap.set b (.loop ⟨.done, some (.exit i), l.t, l.params, l.assign, l.body, l.dfr⟩), b :: x.2.2.log⟩)
    | .pan _ => .dead
  | _ => .dead
def roundB (P : Program) (C : CxF) (mb : Bool) (fuel : Nat) (call : CallF) (round : RoundF) : RoundF := fun F b args hp =>
  match hp.heap[b]? with
  | some (.loop la) => match Nat.beq la.params.size args.length with
    | true => bindT F (codeT P C mb fuel call round true la.assign F (putsA ⟨la.t.len, la.t.tr, []⟩ la.params.toList args) hp) fun F1 x => match x with
      | (.normal, t2, hp2) => match hp2.heap[b]? with
        | some (.loop l2) => match l2.st with
          | .ready => bindT F1 (codeT P C mb fuel call round true l2.body F1 t2 ⟨hp2.heap.set b (.loop ⟨.busy, l2.pend, l2.t, l2.params, l2.assign, l2.body, l2.dfr⟩), b :: hp2.log⟩) fun _ y => endRound b y
          | _ => .dead
        | _ => .dead
      | _ => .dead
    | false => .dead
  | _ => .dead
def resA (P : Program) (t : Tm) (H : List Blk) : List ResultVar → Option (List AVal)
  | [] => some []
  | r :: l => match (match r with
      | .tmp i => t.get i
      | .cell i ty => match t.get i with
        | some x => loadV P ty x H
        | _ => none : Option AVal) with
    | some v => match resA P t H l with
      | some vs => some (v :: vs)
      | none => none
    | none => none
mutual
def idFree : AVal → Bool
  | .bool _ => true
  | .int _ _ => true
  | .float _ _ => true
  | .str _ => true
  | .nilptr => true
  | .nilslice => true
  | .nilmap => true
  | .nilfunc => true
  | .niliface => true
  | .symi _ _ => true
  | .symb _ => true
  | .syms _ => true
  | .func _ f c => idFreeL f && idFreeL c
  | .iface _ v => idFree v
  | .agg l => idFreeL l
  | .tuple l => idFreeL l
  | _ => false
def idFreeL : List AVal → Bool
  | [] => true
  | v :: l => idFree v && idFreeL l
end
def oldOnly (n : Nat) : List Nat → Bool
  | [] => true
  | i :: l => Nat.ble n i && oldOnly n l
def packA : List AVal → AVal
  | [v] => v
  | vs => .tuple vs
def leaveA (v : AVal) (s s' : Hp) : Out × Hp :=
  match idFree v && oldOnly s.heap.length s'.log with
  | true => (.val v, s)
  | false => (.val v, ⟨s'.heap, s'.log ++ s.log⟩)
inductive AMode where
  | ret
  | pan (v : AVal) (rec : Bool)
def settleA : AMode → AMode
  | .pan v r => match r with
    | true => .ret
    | false => .pan v false
  | .ret => .ret
def isRec : Op → Bool
  | .call c => match c.callee with
    | .builtin b => match b with
      | .recover => true
      | _ => false
    | _ => false
  | _ => false
def hasRec : List Oper → Bool
  | [] => false
  | o :: l => match isRec o.op with
    | true => true
    | false => hasRec l
def opsS (P : Program) (ng : Cx) (ops : Array Oper) : List Nat → Tm → AMode → Option (Tm × AMode)
  | [], t, m => some (t, m)
  | i :: l, t, m => match ops[i]? with
    | none => none
    | some o => match o.guard with
      | some _ => none
      | none => match isRec o.op with
        | true => match m with
          | .pan v r => match r with
            | false => opsS P ng ops l (putA t o.dst v) (.pan v true)
            | true => opsS P ng ops l (putA t o.dst .niliface) m
          | .ret => opsS P ng ops l (putA t o.dst .niliface) m
        | false => match pureA P ng t o.op with
          | some r => opsS P ng ops l (putA t o.dst r) m
          | none => none
def codeS (P : Program) (C : CxF) (mb : Bool) (fuel : Nat) (call : CallF) (round : RoundF) : Code → List Fact → Tm → Hp → AMode → Tree ((Ex × Tm × Hp) × AMode)
  | .seq a b, F, t, hp, m => bindT F (codeS P C mb fuel call round a F t hp m) fun F' x => match x with
    | ((.normal, t', hp'), m') => codeS P C mb fuel call round b F' t' hp' m'
    | x => .leaf x
  | .cond c a b, F, t, hp, m => match ev (C F) t c with
    | some (.bool v) => match v with
      | true => codeS P C mb fuel call round a F t hp m
      | false => codeS P C mb fuel call round b F t hp m
    | _ => .dead
  | .block id c, F, t, hp, m => bindT F (codeS P C mb fuel call round c F t hp m) fun _ x => .leaf (blockX id x.1, x.2)
  | .region id ops draw, F, t, hp, m => match hasRec ops.toList with
    | true => match draw with
      | false => match opsS P (C F) ops (List.range ops.size) t m with
        | some (t', m') => .leaf ((.normal, t', hp), m')
        | none => .dead
      | true => .dead
    | false => bindT F (codeT P C mb fuel call round false (.region id ops draw) F t hp) fun _ x => .leaf (x, m)
  | c, F, t, hp, m => bindT F (codeT P C mb fuel call round false c F t hp) fun _ x => .leaf (x, m)
def entryA (args : List AVal) (n : Nat) : Tm := ⟨n, TT.mk args n undefA 12 0 1, []⟩
def dcall (P : Program) (C : CxF) (mb : Bool) (fuel : Nat) (call : CallF) (round : RoundF) (F : List Fact) (f : FuncId) (args : List AVal) (m : AMode) (hp : Hp) : Tree (AMode × Hp) :=
  match P.funcs[f]? with
  | some fn => match fn.body with
    | some c => bindT F (codeS P C mb fuel call round c F (entryA args fn.ntmps) hp m) fun _ x => match x.1.2.1.df with
      | [] => match x.1.1 with
        | .normal => match resA P x.1.2.1 x.1.2.2.heap fn.results.toList with
          | some _ => .leaf (x.2, x.1.2.2)
          | none => .dead
        | .ret => match resA P x.1.2.1 x.1.2.2.heap fn.results.toList with
          | some _ => .leaf (x.2, x.1.2.2)
          | none => .dead
        | _ => .dead
      | _ => .dead
    | none => .dead
  | none => .dead
def leaveT (P : Program) (C : CxF) (mb : Bool) (fuel : Nat) (call : CallF) (round : RoundF) : List ADef → List Fact → AMode → Hp → Tree (AMode × Hp)
  | [], _, m, hp => .leaf (m, hp)
  | .mark b :: l, F, m, hp => match hp.heap[b]? with
    | some .dfr => leaveT P C mb fuel call round l F m ⟨hp.heap.set b .gone, b :: hp.log⟩
    | _ => .dead
  | .fn fv cap args :: l, F, m, hp => match fv with
    | .func f => match enterA P f (args ++ cap) with
      | some _ => bindT F (dcall P C mb fuel call round F f (args ++ cap) m hp) fun F' x => leaveT P C mb fuel call round l F' (settleA x.1) x.2
      | none => .dead
    | _ => .dead
def exMode : Ex → Option AMode
  | .pan v => some (.pan v false)
  | .exit _ => none
  | .normal => some .ret
  | .ret => some .ret
def endOut (P : Program) (fn : Func) (t : Tm) (s : Hp) (y : AMode × Hp) : Tree (Out × Hp) :=
  match y.1 with
  | .pan v r => match r with
    | false => .leaf (.pan v, ⟨y.2.heap, y.2.log ++ s.log⟩)
    | true => .dead
  | .ret => match resA P t y.2.heap fn.results.toList with
    | some vs => .leaf (leaveA (packA vs) s y.2)
    | none => .dead
def endCall (P : Program) (C : CxF) (mb : Bool) (fuel : Nat) (call : CallF) (round : RoundF) (F : List Fact) (fn : Func) (s : Hp) (x : Ex × Tm × Hp) : Tree (Out × Hp) :=
  match exMode x.1 with
  | some m => bindT F (leaveT P C mb fuel call round x.2.1.df F m x.2.2) fun _ y => endOut P fn x.2.1 s y
  | none => .dead
def callB (P : Program) (C : CxF) (mb : Bool) (fuel : Nat) (call : CallF) (round : RoundF) : CallF := fun F f args hp =>
  match P.funcs[f]? with
  | some fn => match fn.body with
    | some c => mgT (mgO (C F) hp) (mgOP (C F) hp) (mgOr hp) (bindT F (codeT P C mb fuel call round false c F (entryA args fn.ntmps) ⟨hp.heap, []⟩) fun F' x => endCall P C mb fuel call round F' fn hp x)
    | none => .dead
  | none => .dead
def evD (P : Program) (C : CxF) (mb : Bool) (fuel : Nat) : Nat → CallF × RoundF
  | 0 => (fun _ _ _ _ => .dead, fun _ _ _ _ => .dead)
  | d + 1 => (callB P C mb fuel (evD P C mb fuel d).1 (evD P C mb fuel d).2, roundB P C mb fuel (evD P C mb fuel d).1 (evD P C mb fuel d).2)
section
variable {P : Program} {C : CxF} {call : CallF} {round : RoundF} {mb : Bool} {fuel : Nat}
theorem seq_touch {α : Type} {hp hp' : Hp} {f : α → Hp} {T : Tree α} (h : Touch hp hp') (ht : AllT (fun x => Touch hp' (f x)) T) : AllT (fun x => Touch hp (f x)) T := ht.mono fun _ hx => h.trans hx
theorem mgC_all (F : List Fact) (hp : Hp) (g : Inj) (w : World) (a : Act) (T : Tree (Ex × Tm × Hp)) (Q : Ex × Tm × Hp → Prop) (hT : AllT (fun x => Touch hp x.2.2) T) :
    AllT (fun x => Touch hp x.2.2) (mgT (mgC (C F) hp) (mgCP (C F) hp) (fun _ _ => none) T) ∧ (Sat g.sig Q (mgT (mgC (C F) hp) (mgCP (C F) hp) (fun _ _ => none) T) → Sat g.sig (fun x => ∃ y, Q y ∧ WC (C F) hp g w a x y) T) := by
  have := sat_mg (σ := g.sig) (W := WC (C F) hp g w a) (S := fun x => Touch hp x.2.2) (f := mgC (C F) hp) (fp := mgCP (C F) hp) (fo := fun _ _ => none) (fun _ _ _ _ h => h) (fun _ _ _ h k e a w q => k e a w (h e a w q))
    (fun i x y z sx sy h => ⟨(mgC_sound sx sy h).1, ((mgC_sound sx sy h).2 g w a).1, ((mgC_sound sx sy h).2 g w a).2⟩)
    (fun i k x y z sx sy h => ⟨(mgCP_sound sx sy h).1, ((mgCP_sound sx sy h).2 g w a).1, ((mgCP_sound sx sy h).2 g w a).2⟩)
    (fun x y z _ _ h => by cases h) hT
  exact ⟨this.1, this.2 Q⟩
theorem regionT_sound (E : Env P C call round) {id : Nat} {ops : Array Oper} {draw inr : Bool} : CodeOk P C inr (.region id ops draw) (regionT P C call round inr ops draw) := by
  cases draw with
  | false => exact ⟨fun F t hp => opsT_touch E _ F t hp, fun F t hp Q r g w a hr hH ht hs => wpIn_region_list (opsT_sound E.ok E.hooks E.call E.round hr ops.toList F t hp Q g w a hH ht hs)⟩
  | true => exact drawT_sound E 12
theorem codeT_sound (E : Env P C call round) : ∀ (c : Code) (inr : Bool), CodeOk P C inr c (codeT P C mb fuel call round inr c)
  | .skip, inr => ⟨fun _ _ _ => Touch.refl _, fun F t hp Q r g w a _ hH ht hs => wpIn_skip ⟨_, hs, Touch.refl _, g, trivial, hH, Ext.refl _ _ _, ht, rfl⟩⟩
  | .label l, inr => ⟨fun _ _ _ => Touch.refl _, fun F t hp Q r g w a _ hH ht hs => wpIn_label ⟨_, hs, Touch.refl _, g, trivial, hH, Ext.refl _ _ _, ht, rfl⟩⟩
  | .exit i, inr => ⟨fun _ _ _ => Touch.refl _, fun F t hp Q r g w a _ hH ht hs => wpIn_exit ⟨_, hs, Touch.refl _, g, rfl, hH, Ext.refl _ _ _, ht, rfl⟩⟩
  | .ret, inr => ⟨fun _ _ _ => Touch.refl _, fun F t hp Q r g w a _ hH ht hs => wpIn_ret ⟨_, hs, Touch.refl _, g, trivial, hH, Ext.refl _ _ _, ht, rfl⟩⟩
  | .region id ops draw, inr => by
    have hR := regionT_sound E (id := id) (ops := ops) (draw := draw) (inr := inr)
    constructor
    · intro F t hp
      simp only [codeT]
      split
      · exact (mgC_all F hp ⟨fun _ => none, ⟨fun _ => 0, fun _ => false, fun _ => .empty, fun _ _ => 0, fun _ => none⟩, fun _ => none⟩ default { tmps := #[], defers := [] } _ (fun _ => True) (hR.touch F t hp)).1
      · exact hR.touch F t hp
    · intro F t hp Q r g w a hr hH ht hs
      simp only [codeT] at hs
      split at hs
      · have hs := (mgC_all F hp g w a _ Q (hR.touch F t hp)).2 hs
        exact wpIn_mono (hR.wp F t hp _ r g w a hr hH ht hs) fun e a' w' ⟨x, ⟨y, hy, hw⟩, hq⟩ => ⟨y, hy, hw e a' w' hq⟩
      · exact hR.wp F t hp Q r g w a hr hH ht hs
  | .seq x y, inr => by
    have hx := codeT_sound E x inr
    have hy := codeT_sound E y inr
    constructor
    · intro F t hp
      simp only [codeT]
      refine all_bind (Q := fun x => Touch hp x.2.2) ?_ (hx.touch F t hp)
      rintro F' ⟨e, t', hp'⟩ h
      cases e with
      | normal => exact seq_touch h (hy.touch F' t' hp')
      | _ => exact h
    · intro F t hp Q r g w a hr hH ht hs
      simp only [codeT] at hs
      have hs := sat_bind (E.ok.facts hH) hs
      refine wpIn_seq (wpIn_mono (hx.wp F t hp _ r g w a hr hH ht hs) ?_)
      rintro e a' w' ⟨⟨x, t', hp'⟩, ⟨F', hF', q⟩, h0, g', h1, h2, h3, h4, h5⟩
      have hF0 : Holds g'.sig F := by rw [h3.sub.sig]; exact E.ok.facts hH
      cases x with
      | normal =>
        cases e <;> simp only [ExRel] at h1
        exact wpIn_mono (hy.wp F' t' hp' Q r g' w' a' hr (E.ok.move h2 (by rw [h3.sub.sig]; exact hF')) h4 (by rw [h3.sub.sig]; exact q)) fun e a w ⟨x, hx, hq⟩ => ⟨x, hx, (hq.move E.ok hF0).trans hH h0 h3 h5⟩
      | _ => cases e <;> simp only [ExRel] at h1 <;> exact ⟨_, q, h0, g', h1, h2, h3, h4, h5⟩
  | .cond c x y, inr => by
    have hx := codeT_sound E x inr
    have hy := codeT_sound E y inr
    constructor
    · intro F t hp
      simp only [codeT]
      split
      · split
        · exact hx.touch F t hp
        · exact hy.touch F t hp
      · exact ⟨hx.touch _ t hp, hy.touch _ t hp⟩
      · trivial
    · intro F t hp Q r g w a hr hH ht hs
      simp only [codeT] at hs
      split at hs
      · rename_i v hc
        have hv := ht.1.eval hH.sig hH.glob hc
        split at hs
        · exact wpIn_cond_true (rel_bool0 hv) (hx.wp F t hp Q r g w a hr hH ht hs)
        · exact wpIn_cond_false (rel_bool0 hv) (hy.wp F t hp Q r g w a hr hH ht hs)
      · rename_i i hc
        have hv := ht.1.eval hH.sig hH.glob hc
        have hF := E.ok.facts hH
        cases hb : g.sig.bval i with
        | true =>
          have hF' : Holds g.sig (.tru i true :: F) := holds_cons _ hb hF
          refine wpIn_cond_true (by generalize a.eval c = u at hv; cases hv; rw [hb]) (wpIn_mono (hx.wp _ t hp Q r g w a hr (E.ok.move hH hF') ht (hs.1 hb)) fun e a w ⟨x, hx, hq⟩ => ⟨x, hx, hq.move E.ok hF⟩)
        | false =>
          have hF' : Holds g.sig (.tru i false :: F) := holds_cons _ hb hF
          refine wpIn_cond_false (by generalize a.eval c = u at hv; cases hv; rw [hb]) (wpIn_mono (hy.wp _ t hp Q r g w a hr (E.ok.move hH hF') ht (hs.2 hb)) fun e a w ⟨x, hx, hq⟩ => ⟨x, hx, hq.move E.ok hF⟩)
      · exact hs.elim
  | .block id c, inr => by
    have hc := codeT_sound E c inr
    have hX : ∀ (x : Ex × Tm × Hp), (blockX id x).2 = x.2 := by
      rintro ⟨e, t, hp⟩
      unfold blockX
      split
      · rename_i i t' hp' he
        cases he
        split <;> rfl
      · rfl
    have htB : ∀ F t hp, AllT (fun x => Touch hp x.2.2) (bindT F (codeT P C mb fuel call round inr c F t hp) fun _ x => .leaf (blockX id x)) := by
      intro F t hp
      refine all_bind (Q := fun x => Touch hp x.2.2) ?_ (hc.touch F t hp)
      intro F' x h
      show Touch hp (blockX id x).2.2
      rw [hX]; exact h
    have hwB : ∀ F t hp (Q : Ex × Tm × Hp → Prop) (r : Option Nat) g w a, (inr = false → r = none) → HRel (C F) g hp.heap w → FRel g t a → Sat g.sig Q (bindT F (codeT P C mb fuel call round inr c F t hp) fun _ x => .leaf (blockX id x)) →
        (Code.block id c).wpIn (FR r) 0 P (fun e a' w' => ∃ x, Q x ∧ CodeQ (C F) hp g w a x e a' w') a w := by
      intro F t hp Q r g w a hr hH ht hs
      have hs := sat_bind (E.ok.facts hH) hs
      refine wpIn_block (wpIn_mono (hc.wp F t hp _ r g w a hr hH ht hs) ?_)
      rintro e a' w' ⟨⟨x, t', hp'⟩, ⟨F', hF', q⟩, h0, g', h1, h2, h3, h4, h5⟩
      simp only [Sat] at q
      cases x with
      | exit i =>
        cases e <;> simp only [ExRel] at h1
        subst h1
        simp only [blockX] at q
        simp only [Exit.inBlock]
        split at q
        · rename_i hi
          rw [if_pos (Nat.eq_of_beq_eq_true hi)]
          exact ⟨_, q, h0, g', trivial, h2, h3, h4, h5⟩
        · rename_i hi
          rw [if_neg (Nat.ne_of_beq_eq_false hi)]
          exact ⟨_, q, h0, g', rfl, h2, h3, h4, h5⟩
      | normal => cases e <;> simp only [ExRel] at h1 <;> exact ⟨_, q, h0, g', trivial, h2, h3, h4, h5⟩
      | ret => cases e <;> simp only [ExRel] at h1 <;> exact ⟨_, q, h0, g', trivial, h2, h3, h4, h5⟩
      | pan v => cases e <;> simp only [ExRel] at h1 <;> exact ⟨_, q, h0, g', h1, h2, h3, h4, h5⟩
    have mg : ∀ F hp g w a (T : Tree (Ex × Tm × Hp)) (Q : Ex × Tm × Hp → Prop), AllT (fun x => Touch hp x.2.2) T → AllT (fun x => Touch hp x.2.2) (mgT (mgC (C F) hp) (mgCP (C F) hp) (fun _ _ => none) T) ∧ (Sat g.sig Q (mgT (mgC (C F) hp) (mgCP (C F) hp) (fun _ _ => none) T) → Sat g.sig (fun x => ∃ y, Q y ∧ WC (C F) hp g w a x y) T) := by
      intro F hp g w a T Q hT
      have := sat_mg (σ := g.sig) (W := WC (C F) hp g w a) (S := fun x => Touch hp x.2.2) (f := mgC (C F) hp) (fp := mgCP (C F) hp) (fo := fun _ _ => none) (fun _ _ _ _ h => h) (fun _ _ _ h k e a w q => k e a w (h e a w q))
        (fun i x y z sx sy h => ⟨(mgC_sound sx sy h).1, ((mgC_sound sx sy h).2 g w a).1, ((mgC_sound sx sy h).2 g w a).2⟩)
        (fun i k x y z sx sy h => ⟨(mgCP_sound sx sy h).1, ((mgCP_sound sx sy h).2 g w a).1, ((mgCP_sound sx sy h).2 g w a).2⟩)
        (fun x y z _ _ h => by cases h) hT
      exact ⟨this.1, this.2 Q⟩
    cases mb with
    | false => exact ⟨htB, hwB⟩
    | true =>
      constructor
      · intro F t hp
        exact (mg F hp ⟨fun _ => none, ⟨fun _ => 0, fun _ => false, fun _ => .empty, fun _ _ => 0, fun _ => none⟩, fun _ => none⟩ default { tmps := #[], defers := [] } _ (fun _ => True) (htB F t hp)).1
      · intro F t hp Q r g w a hr hH ht hs
        simp only [codeT] at hs
        have hs := (mg F hp g w a _ Q (htB F t hp)).2 hs
        exact wpIn_mono (hwB F t hp _ r g w a hr hH ht hs) fun e a' w' ⟨x, ⟨y, hy, hw⟩, hq⟩ => ⟨y, hy, hw e a' w' hq⟩
  | .loop c, inr => by
    have hc := codeT_sound E c inr
    have := loopT_sound E hc fuel
    exact ⟨this.1, fun F t hp Q r g w a hr hH ht hs => wpIn_loop_rounds fuel (this.2 F t hp Q r g w a hr hH ht hs)⟩
  | .rangeFunc f ps asg body, inr => by
    cases inr with
    | true => exact ⟨fun _ _ _ => trivial, fun _ _ _ _ _ _ _ _ _ _ _ h => h.elim⟩
    | false => exact rangeT_sound E
  | .scope _, inr => ⟨fun _ _ _ => trivial, fun _ _ _ _ _ _ _ _ _ _ _ h => h.elim⟩
  | .goto _, inr => ⟨fun _ _ _ => trivial, fun _ _ _ _ _ _ _ _ _ _ _ h => h.elim⟩
  | .refuse _, inr => ⟨fun _ _ _ => trivial, fun _ _ _ _ _ _ _ _ _ _ _ h => h.elim⟩
where rel_bool0 {g : Inj} {b : Bool} {u : Value} (h : VRel g (.bool b) u) : u = .bool b := by cases h; rfl
end
end Go.Ev
set_option linter.unusedVariables false
namespace Go.Ev
set_option linter.unusedVariables false
set_option linter.unusedSimpArgs false
set_option linter.unnecessarySimpa false
section
variable {P : Program} {C : CxF} {call : CallF} {round : RoundF} {mb : Bool} {fuel : Nat}
theorem putsA_rel {g : Inj} : ∀ (ps : List Nat) (args : List AVal) (args' : List Value) (t : Tm) (tmps : Array Value), LRel g args args' → ps.length = args.length → TmRel g t tmps →
    TmRel g (putsA t ps args) ((ps.zip args').foldl (fun tmps (x : Nat × Value) => tmps.setIfInBounds x.1 x.2) tmps)
  | [], [], args', t, tmps, h, _, ht => by cases h; simpa [putsA] using ht
  | [], _ :: _, _, _, _, _, hl, _ => by simp at hl
  | _ :: _, [], _, _, _, _, hl, _ => by simp at hl
  | d :: ps, v :: args, args', t, tmps, h, hl, ht => by
    cases h with
    | cons _ u _ m hv hr =>
      simp only [putsA, List.zip_cons_cons, List.foldl_cons]
      refine putsA_rel ps args m _ _ hr (by simpa using hl) ?_
      have := TRel.put (a := { tmps := tmps, defers := [] }) (g := g) (t := t) ht (some d) hv
      simpa [TRel, Act.put] using this
theorem putsA_df : ∀ (ps : List Nat) (args : List AVal) (t : Tm), (putsA t ps args).df = t.df
  | [], [], t => rfl
  | [], _ :: _, t => rfl
  | _ :: _, [], t => rfl
  | d :: ps, v :: args, t => by simp only [putsA]; rw [putsA_df, putA_df]
theorem endRound_touch {hp : Hp} {b : Nat} {y : Ex × Tm × Hp} (h : Touch hp y.2.2) : AllT (fun x => Touch hp x.2) (endRound b y) := by
  unfold endRound
  split
  · rename_i l hl
    have k : ∀ st pend, Touch hp ⟨y.2.2.heap.set b (.loop ⟨st, pend, l.t, l.params, l.assign, l.body, l.dfr⟩), b :: y.2.2.log⟩ := fun st pend =>
      h.trans (set_touchK ⟨_, hl, by simp⟩ (fun l' e => by cases e; exact ⟨l, hl, rfl, rfl, rfl, rfl, rfl⟩))
    split
    · exact k _ _
    · exact k _ _
    · exact k _ _
    · trivial
  · trivial
theorem roundB_touch (E : Env P C call round) : RoundTouch (roundB P C mb fuel call round) := by
  intro F b args hp
  unfold roundB
  split
  · rename_i la hla
    split
    · refine all_bind (Q := fun x => Touch hp x.2.2) ?_ ((codeT_sound E la.assign true).touch F _ hp)
      rintro F1 ⟨e, t2, hp2⟩ h
      cases e with
      | normal =>
        simp only
        split
        · rename_i l2 hl2
          split
          · have hset := set_touchK (hp := hp2) (b := b) (k := .loop ⟨.busy, l2.pend, l2.t, l2.params, l2.assign, l2.body, l2.dfr⟩) ⟨_, hl2, by simp⟩ (fun l e => by cases e; exact ⟨l2, hl2, rfl, rfl, rfl, rfl, rfl⟩)
            refine all_bind (Q := fun x => Touch hp x.2.2) (fun F2 y hy => endRound_touch hy) ?_
            exact ((codeT_sound E l2.body true).touch F1 t2 _).mono fun x hx => (h.trans hset).trans hx
          · trivial
        · trivial
      | _ => trivial
    · trivial
  · trivial
theorem zip_foldl (ps : Array Nat) (args : Array Value) (tmps : Array Value) : (ps.zip args).foldl (fun tmps (x : Nat × Value) => tmps.setIfInBounds x.1 x.2) tmps = (ps.toList.zip args.toList).foldl (fun tmps (x : Nat × Value) => tmps.setIfInBounds x.1 x.2) tmps := by
  rw [← Array.foldl_toList, Array.toList_zip]
theorem roundB_sound (E : Env P C call round) : RoundSound P C (roundB P C mb fuel call round) := by
  intro F b args hp Q g w args' L r hH hL ha hs
  unfold roundB at hs
  split at hs
  · rename_i la hla
    split at hs
    · rename_i hpn
      have hpn := Nat.eq_of_beq_eq_true hpn
      obtain ⟨rr, r1, r2, r3, r4, r5, r6, r7, r8⟩ := loop_at_block hH hla hL
      have hsz : args'.size = rr.params.size := by
        have := ha.length
        rw [r5, hpn, this]; simp
      refine ⟨rr.fn, (rr.params.zip args').foldl (fun tmps (x : Nat × Value) => tmps.setIfInBounds x.1 x.2) rr.tmps, rr.assign, rr.body, ?_, ?_⟩
      · simp only [Instr.yield, Instr.getLoop, Sem.run_bind, run_getLoop r1, Result.andThen_ok, Sem.run_pure]
        rw [if_neg (by simp [hsz])]
        simp
      · have hs := sat_bind (E.ok.facts hH) hs
        have htm := putsA_rel rr.params.toList args args'.toList ⟨la.t.len, la.t.tr, []⟩ rr.tmps ha (by rw [r5]; simpa using hpn) r4
        rw [← zip_foldl] at htm
        generalize (rr.params.zip args').foldl (fun tmps (x : Nat × Value) => tmps.setIfInBounds x.1 x.2) rr.tmps = tm0 at htm
        refine roundIn_of_wpIn (F := FR r) trivial ?_
        have hasg := (codeT_sound (mb := mb) (fuel := fuel) E la.assign true).wp F (putsA ⟨la.t.len, la.t.tr, []⟩ la.params.toList args) hp _ (some L.blk) g w { tmps := tm0, defers := [] } (by intro h; cases h) hH
          ⟨by rw [← r5]; exact htm, by rw [putsA_df]; exact .nil⟩ hs
        rw [r6]
        refine wpIn_mono (Q := fun e a' w' => _) hasg ?_
        rintro e a1 w1 ⟨⟨x, t2, hp2⟩, ⟨F1, hF1, q⟩, h0, g1, h1, h2, h3, h4, h5⟩
        cases x with
        | normal =>
          cases e <;> simp only [ExRel] at h1
          simp only at q
          split at q
          · rename_i l2 hl2
            split at q
            · rename_i hrdy
              have hL1 := h3.sub _ _ hL
              obtain ⟨q1, k1, k2, k3, k4, k5, k6, k7, k8⟩ := loop_at_block h2 hl2 hL1
              obtain ⟨s1, s2, s3⟩ := loop_set h2 hl2 hL1 k1 .busy l2.pend ⟨k4, k5, k6, k7, k8⟩
              have hset : ({ q1 with state := LoopState.busy, pending := l2.pend } : Loop) = { q1 with state := .busy } := by rw [← k3]
              rw [hset] at s1 s2
              refine ⟨setW w1 L.blk (.loop { q1 with state := .busy }), ?_, ?_⟩
              · simp only [Instr.beginRound, Instr.getLoop, Sem.run_bind, run_getLoop k1, Result.andThen_ok, Sem.run_pure, run_setLoop _ k1]
                rw [k2, hrdy]
                rfl
              · have hσ1 : g1.sig = g.sig := h3.sub.sig
                have q := sat_bind (F := F1) (by exact hF1) q
                have hbody := (codeT_sound (mb := mb) (fuel := fuel) E l2.body true).wp F1 t2 _ _ (some L.blk) g1 _ a1 (by intro h; cases h) (E.ok.move s1 (by rw [hσ1]; exact hF1)) h4 (by rw [hσ1]; exact q)
                have hbd : rr.body = l2.body := by
                  have hT := h0.loops b l2 (List.getElem?_eq_some_iff.1 hla).1 hl2
                  obtain ⟨l0, hl0, _, _, _, e4, _⟩ := hT
                  rw [hla] at hl0; cases hl0
                  rw [r7, ← e4]
                rw [hbd]
                refine wpIn_mono hbody ?_
                rintro e2 a2 w2 ⟨⟨y, t3, hp3⟩, ⟨F2, hF2, q2⟩, m0, g2, m1, m2, m3, m4, m5⟩
                have hL2 := m3.sub _ _ hL1
                have hF0 : Holds g2.sig F := by rw [m3.sub.sig, hσ1]; exact E.ok.facts hH
                have m2' := E.ok.move m2 hF0
                have hE : Ext g hp.heap w g2 hp3.heap w2 := (h3.trans hH s2).trans hH m3
                have hTt : Touch hp hp3 := (h0.trans s3).trans m0
                simp only [endRound] at q2
                split at q2
                · rename_i l3 hl3
                  obtain ⟨z, z1, z2, z3, z4, z5, z6, z7, z8⟩ := loop_at_block m2' hl3 hL2
                  have fin : ∀ st pend, (Instr.endRound L.blk pend).run P w2 = .ok (.bool pend.isNone) (setW w2 L.blk (.loop { z with state := st, pending := pend })) → Q (.val (.bool pend.isNone), ⟨hp3.heap.set b (.loop ⟨st, pend, l3.t, l3.params, l3.assign, l3.body, l3.dfr⟩), b :: hp3.log⟩) →
                      ∃ v w', (Instr.endRound L.blk pend).run P w2 = .ok v w' ∧ ∃ x, Q x ∧ OutQ (C F) hp g w x.1 x.2 (.returned v) w' := by
                    intro st pend he hq
                    obtain ⟨n1, n2, n3⟩ := loop_set m2' hl3 hL2 z1 st pend ⟨z4, z5, z6, z7, z8⟩
                    exact ⟨_, _, he, _, hq, hTt.trans n3, g2, ⟨_, rfl, .bool _⟩, n1, hE.trans hH n2⟩
                  have run : ∀ pend, (Instr.endRound L.blk pend).run P w2 = .ok (.bool pend.isNone) (setW w2 L.blk (.loop { z with state := if pend.isNone then .ready else .done, pending := pend })) := by
                    intro pend
                    simp only [Instr.endRound, Instr.getLoop, Sem.run_bind, run_getLoop z1, Result.andThen_ok, Sem.run_pure, run_setLoop _ z1]
                  cases y with
                  | normal => cases e2 <;> simp only [ExRel] at m1; exact fin .ready none (run none) q2
                  | ret => cases e2 <;> simp only [ExRel] at m1; exact fin .done (some .ret) (run _) q2
                  | exit i => cases e2 <;> simp only [ExRel] at m1; subst m1; exact fin .done (some (.exit i)) (run _) q2
                  | pan v => exact q2.elim
                · exact q2.elim
            · exact q.elim
          · exact q.elim
        | exit i => exact q.elim
        | ret => exact q.elim
        | pan v => exact q.elim
    · exact hs.elim
  · exact hs.elim
end
section
variable {P : Program} {ng : Cx}
mutual
theorem idFree_rel {g g' : Inj} (hs : g'.sig = g.sig) : ∀ {a : AVal} {v : Value}, VRel g a v → idFree a = true → VRel g' a v
  | _, _, .bool b, _ => .bool b
  | _, _, .int k n, _ => .int k n
  | _, _, .float k n, _ => .float k n
  | _, _, .str s, _ => .str s
  | _, _, .nilptr, _ => .nilptr
  | _, _, .ptr _ _ _ _, h => by simp [idFree] at h
  | _, _, .nilslice, _ => .nilslice
  | _, _, .slice _ _ _ _ _ _ _ _ _ _ _ _, h => by simp [idFree] at h
  | _, _, .nilmap, _ => .nilmap
  | _, _, .map _ _ _, h => by simp [idFree] at h
  | _, _, .nilfunc, _ => .nilfunc
  | _, _, .func fn f c f' c' h1 h2, h => by
    simp only [idFree, Bool.and_eq_true] at h
    exact .func fn f c f' c' (idFreeL_rel hs h1 h.1) (idFreeL_rel hs h2 h.2)
  | _, _, .niliface, _ => .niliface
  | _, _, .symi k i, _ => by rw [← hs]; exact .symi k i
  | _, _, .symb i, _ => by rw [← hs]; exact .symb i
  | _, _, .syms i, _ => by rw [← hs]; exact .syms i
  | _, _, .iface t v v' h1, h => by
    simp only [idFree] at h
    exact .iface t v v' (idFree_rel hs h1 h)
  | _, _, .agg l l' h1, h => by
    simp only [idFree] at h
    exact .agg l l' (idFreeL_rel hs h1 h)
  | _, _, .tuple l l' h1, h => by
    simp only [idFree] at h
    exact .tuple l l' (idFreeL_rel hs h1 h)
theorem idFreeL_rel {g g' : Inj} (hs : g'.sig = g.sig) : ∀ {a : List AVal} {v : List Value}, LRel g a v → idFreeL a = true → LRel g' a v
  | _, _, .nil, _ => .nil
  | _, _, .cons a v l m h1 h2, h => by
    simp only [idFreeL, Bool.and_eq_true] at h
    exact .cons a v l m (idFree_rel hs h1 h.1) (idFreeL_rel hs h2 h.2)
end
theorem oldOnly_spec {n : Nat} : ∀ {l : List Nat}, oldOnly n l = true → ∀ i, i < n → i ∉ l
  | [], _, _, _ => by simp
  | j :: l, h, i, hi => by
    simp only [oldOnly, Bool.and_eq_true, Nat.ble_eq] at h
    simp only [List.mem_cons, not_or]
    exact ⟨by omega, oldOnly_spec h.2 i hi⟩
def resOne (tmps : Array Value) : ResultVar → Sem Value
  | .tmp t => pure (tmps.getD t undef)
  | .cell x t => do loadVar t (← asAddr (tmps.getD x undef))
theorem results_eq (fn : Func) (tmps : Array Value) : results fn tmps = (do
    let vs ← fn.results.mapM (resOne tmps)
    pure (if h : vs.size = 1 then vs[0] else .tuple vs)) := by
  unfold results
  congr 2
theorem resA_sound {g : Inj} {H : List Blk} {w : World} {t : Tm} {a : Act} (hH : HRel ng g H w) (ht : TRel g t a) : ∀ (l : List ResultVar) (vs : List AVal), resA P t H l = some vs →
    ∃ us : List Value, (l.mapM (resOne a.tmps)).run P w = .ok us w ∧ LRel g vs us
  | [], vs, h => by simp [resA] at h; subst h; exact ⟨[], by simp, .nil⟩
  | r :: l, vs, h => by
    simp only [resA] at h
    split at h
    · rename_i v hv
      split at h
      · rename_i vs' hvs
        cases h
        obtain ⟨us, h1, h2⟩ := resA_sound hH ht l vs' hvs
        cases r with
        | tmp i =>
          simp only at hv
          obtain ⟨u, k1, k2⟩ := ht.2 i v hv
          refine ⟨u :: us, ?_, .cons _ _ _ _ k2 h2⟩
          rw [List.mapM_cons]
          simp only [resOne, Sem.run_bind, Sem.run_pure, Result.andThen_ok, h1]
          simp [k1]
        | cell i ty =>
          simp only at hv
          split at hv
          · rename_i x hx
            obtain ⟨u, k1, k2⟩ := ht.2 i x hx
            obtain ⟨y, m1, m2⟩ := run_loadV (P := P) hH hv k2
            refine ⟨y :: us, ?_, .cons _ _ _ _ m2 h2⟩
            rw [List.mapM_cons]
            have hu : ∃ ad, u = .pointer (some ad) := by
              unfold loadV at hv
              split at hv
              · cases k2; exact ⟨_, rfl⟩
              · cases hv
            obtain ⟨ad, rfl⟩ := hu
            have m1' : (loadVar ty ad).run P w = .ok y w := by simpa [Instr.loadAt, Instr.sureAddr] using m1
            simp only [resOne, Sem.run_bind, Array.getD_eq_getD_getElem?, k1, Option.getD_some, asAddr, Sem.run_pure, Result.andThen_ok, m1', h1]
          · cases hv
      · cases h
    · cases h
theorem results_run {g : Inj} {H : List Blk} {w : World} {t : Tm} {a : Act} (hH : HRel ng g H w) (ht : TRel g t a) {fn : Func} {vs : List AVal} (h : resA P t H fn.results.toList = some vs) :
    ∃ u, (results fn a.tmps).run P w = .ok u w ∧ VRel g (packA vs) u := by
  obtain ⟨us, h1, h2⟩ := resA_sound (P := P) hH ht fn.results.toList vs h
  have hl := h2.length
  rw [results_eq, Array.mapM_eq_mapM_toList]
  simp only [Sem.run_bind, Sem.run_map, Sem.run_pure]
  rw [h1]
  simp only [Result.andThen_ok]
  cases h2 with
  | nil => exact ⟨.tuple #[], by simp, .tuple _ _ .nil⟩
  | cons b v l m hb hl' =>
    cases hl' with
    | nil => exact ⟨v, by simp, by simpa [packA] using hb⟩
    | cons b' v' l' m' hb' hl'' =>
      refine ⟨.tuple (v :: v' :: m').toArray, by simp, ?_⟩
      exact .tuple _ _ (by simpa using LRel.cons b v _ _ hb (.cons b' v' _ _ hb' hl''))
theorem enter_trel {g : Inj} {args : List AVal} {args' : Array Value} (h : LRel g args args'.toList) (n : Nat) :
    TRel g (entryA args n) { tmps := args' ++ Array.replicate (n - args'.size) undef, defers := [] } := by
  have hl := h.length
  simp at hl
  refine ⟨by simp [entryA]; omega, ?_⟩
  intro i v hi
  have hlt : i < n := Tm.get_lt hi
  have hv := TT.get_mk _ _ _ _ _ _ _ _ (Tm.get_tr hi)
  simp only [Nat.zero_add, Nat.one_mul] at hv
  rcases Nat.lt_or_ge i args.length with h9 | h9
  · obtain ⟨u, k1, k2⟩ := h.get i args[i] (by simp [h9])
    refine ⟨u, ?_, ?_⟩
    · rw [Array.getElem?_append_left (by omega)]
      simpa using k1
    · rw [hv]; simpa [List.getD_eq_getElem?_getD, h9] using k2
  · refine ⟨undef, ?_, ?_⟩
    · rw [Array.getElem?_append_right (by omega), Array.getElem?_replicate, if_pos (by omega)]
    · rw [hv, List.getD_eq_getElem?_getD, List.getElem?_eq_none h9]
      exact .tuple _ _ .nil
theorem gc_rel {g g' : Inj} {H H' : List Blk} {w w' : World} (h : HRel ng g H w) (h' : HRel ng g' H' w') (hE : Ext g H w g' H' w') (hsame : ∀ i, i < H.length → H'[i]? = H[i]?) : HRel ng g H w' ∧ Ext g H w g H w' := by
  constructor
  · refine ⟨fun i L hi => ⟨(h.dom i L hi).1, Nat.lt_of_lt_of_le (h.dom i L hi).2 hE.size⟩, h.inj, ?_, h.glob, h.sig, ⟨fun i X hi hl => ⟨(h'.frz.row i X (by rw [hE.sub.sig]; exact hi) hl).1, (h.frz.row i X hi hl).2⟩, fun i X hi => ⟨(h.frz.mp i X hi).1, (h'.frz.mp i X (hE.sub.mp i X hi)).2.1, (h.frz.mp i X hi).2.2⟩⟩⟩
    intro i k hi hk
    rcases h.blk0 i k hi hk with hz | ⟨L, hL, hB⟩
    · exact .inl hz
    have hil : i < H.length := (List.getElem?_eq_some_iff.1 hi).1
    rcases h'.blk0 i k (by rw [hsame i hil]; exact hi) hk with hz | ⟨L', hL', hB'⟩
    · exact .inl (hz.mono hE.sub.sig.symm)
    refine .inr ⟨L, hL, ?_⟩
    have := hE.sub i L hL
    rw [this] at hL'; cases hL'
    cases k with
    | gone => trivial
    | map l =>
      obtain ⟨_, _, es1, _, _, b3, _⟩ := hB
      obtain ⟨es, cl, es', d1, d2, d3, d4⟩ := hB'
      exact ⟨es, cl, es', d1, d2, MRel.back hE.sub b3 d3, d4⟩
    | iter x l cur =>
      obtain ⟨X, _, es1, b0, b1, _, _, b4, b5⟩ := hB
      obtain ⟨X', seen, es', d0, d1, d2, d3, d4, d5⟩ := hB'
      have := hE.sub.mp _ _ b1
      rw [this] at d1; cases d1
      refine ⟨_, seen, es', b0, b1, d2, d3, MRel.back hE.sub b4 d4, fun k v e => ?_⟩
      obtain ⟨e1, s0, _, _, c3, c4⟩ := b5 k v e
      obtain ⟨e2, s1, f1, f2, f3, f4⟩ := d5 k v e
      exact ⟨e2, s1, f1, f2, VRel.back' hE.sub c3 f3, VRel.back' hE.sub c4 f4⟩
    | loop la =>
      obtain ⟨r, b1, b2, b3, b4, b5, b6, b7, D, b8, b9⟩ := hB
      obtain ⟨r', d1, d2, d3, d4, d5, d6, d7, D', d8, d9⟩ := hB'
      have hD := hE.sub _ _ b8
      rw [hD] at d8; cases d8
      refine ⟨r', d1, d2, d3, ⟨d4.1, fun j v hv => ?_⟩, d5, d6, d7, D, b8, d9⟩
      obtain ⟨u, _, m2⟩ := b4.2 j v hv
      obtain ⟨u', n1, n2⟩ := d4.2 j v hv
      exact ⟨u', n1, VRel.back' hE.sub m2 n2⟩
    | dfr => exact hB'
    | cells c e =>
      obtain ⟨C, fr, _, _, _, _, b5⟩ := hB
      obtain ⟨C', fr', d1, d2, d3, d4, d5⟩ := hB'
      refine ⟨C', fr', d1, d2, d3, d4, ?_⟩
      intro j x hj
      obtain ⟨v, _, m2, _⟩ := b5 j x hj
      obtain ⟨v', n1, n2, n3⟩ := d5 j x hj
      exact ⟨v', n1, VRel.back' hE.sub m2 n2, n3⟩
    | lst s n cl e =>
      obtain ⟨S, N, _, _, p1, p2, _, _, _, _, _, p8⟩ := hB
      obtain ⟨S', N', C', fr', d1, d2, d3, d4, d5, d6, d7, d8⟩ := hB'
      rw [hE.sub.sig] at d1 d2
      have eN : N' = N := by rw [p2] at d2; cases d2; rfl
      have eS : S' = S := by rw [p1] at d1; cases d1; rfl
      subst eN; subst eS
      refine ⟨S', N', C', fr', d1, d2, d3, d4, d5, d6, d7, fun m j hm hj => ?_⟩
      obtain ⟨v, _, m2, _⟩ := p8 m j hm hj
      obtain ⟨v', n1, n2, n3⟩ := d8 m j hm hj
      exact ⟨v', n1, VRel.back' hE.sub m2 n2, n3⟩
  · exact ⟨Sub.refl g, (fun i L hi hn => by rw [hn] at hi; cases hi), (fun i L hi hn => by rw [hn] at hi; cases hi), Nat.le_refl _, fun _ _ hl => hl, hE.size, hE.frame, hE.os, hE.tape, hE.output⟩
end
section
variable {P : Program} {C : CxF} {call : CallF} {round : RoundF} {mb : Bool} {fuel : Nat}
theorem run_take {w : World} {r : Nat} (h : w.heap[r]? = some (.deferred (some []))) : (Instr.takeDeferred r).run P w = .ok [] (setW w r (.deferred none)) := by
  simp [Instr.takeDeferred, getObj, setObj, Sem.run, h, setW]
theorem wpSIn_mono {F : Fence} {n : Nat} {c : Code} {Q Q' : Exit → Act → List Frame → World → Prop} {a : Act} {cs : List Frame} {w : World} (h : c.wpSIn F n P Q a cs w) (hq : ∀ e a cs w, Q e a cs w → Q' e a cs w) : c.wpSIn F n P Q' a cs w :=
  fun b k h1 h2 h3 h4 => let ⟨e, a', cs', w', l, q, r⟩ := h b k h1 h2 h3 h4; ⟨e, a', cs', w', l, hq _ _ _ _ q, r⟩
def inBlockS (id : Nat) (Q : Exit → Act → List Frame → World → Prop) : Exit → Act → List Frame → World → Prop
  | .exit j, a, cs, w => if j = id then Q .normal a cs w else Q (.exit j) a cs w
  | e, a, cs, w => Q e a cs w
theorem wpSIn_block {F : Fence} {n : Nat} {id : Nat} {c : Code} {Q : Exit → Act → List Frame → World → Prop} {a : Act} {cs : List Frame} {w : World} (h : c.wpSIn F n P (inBlockS id Q) a cs w) : (Code.block id c).wpSIn F n P Q a cs w := by
  intro b k hk hro hb hr
  have h0 : (lone (b.atR a (.code (.block id c) :: k)) cs w).fenced P F := fenced_calm hb hr rfl
  obtain ⟨e, a₁, cs₁, w₁, hl, hq, harr⟩ := h b (.inBlock id :: k) hk hro hb hr
  cases e with
  | normal => exact ⟨.normal, a₁, cs₁, w₁, hl, hq, .head h0 stepR_block (StepsIn.trans harr (.one (fenced_calm hb (hl ▸ hr) rfl) stepR_inBlock))⟩
  | exit id' =>
    by_cases hid : id' = id
    · simp only [inBlockS, hid, if_true] at hq
      exact ⟨.normal, a₁, cs₁, w₁, hl, hq, .head h0 stepR_block (harr.1 k (by simp [exitTo, hid]))⟩
    · simp only [inBlockS, hid, if_false] at hq
      have this : (id == id') = false := by simp; exact fun h => hid h.symm
      have hx : exitTo id' (.inBlock id :: k) = exitTo id' k := by simp [exitTo, this]
      exact ⟨.exit id', a₁, cs₁, w₁, hl, hq, fun k' hk => .head h0 stepR_block (harr.1 k' (by rw [hx]; exact hk)),
        fun hr' hk => let ⟨k₁, h1, h2⟩ := harr.2 hr' (by rw [hx]; exact hk); ⟨k₁, h1, .head h0 stepR_block h2⟩⟩
  | goto l =>
    have hx : gotoIn l (.inBlock id :: k) = gotoIn l k := by simp [gotoIn]
    exact ⟨_, a₁, cs₁, w₁, hl, hq, fun k' hk => .head h0 stepR_block (harr.1 k' (by rw [hx]; exact hk)),
      fun hr' hk => let ⟨k₁, h1, h2⟩ := harr.2 hr' (by rw [hx]; exact hk); ⟨k₁, h1, .head h0 stepR_block h2⟩⟩
  | ret => exact ⟨_, a₁, cs₁, w₁, hl, hq, .of_steps (.one h0 stepR_block) harr⟩
  | panic ch => exact ⟨_, a₁, cs₁, w₁, hl, hq, .of_steps (.one h0 stepR_block) harr⟩
  | outgrown => exact ⟨_, a₁, cs₁, w₁, hl, hq, .of_steps (.one h0 stepR_block) harr⟩
def ModeRel (g : Inj) : AMode → FrameMode → Prop
  | .ret, u => u = .returning
  | .pan v r, u => ∃ x, u = .panicking [{ v := x, recovered := r }] ∧ VRel g v x
theorem ModeRel.mono {g g' : Inj} (hs : Sub g g') : ∀ {m : AMode} {u : FrameMode}, ModeRel g m u → ModeRel g' m u
  | .ret, _, h => h
  | .pan _ _, _, ⟨x, h1, h2⟩ => ⟨x, h1, h2.mono hs⟩
theorem ModeRel.run {g : Inj} : ∀ {m : AMode} {u : FrameMode}, ModeRel g m u → u ≠ .run
  | .ret, _, h => by subst h; simp
  | .pan _ _, _, ⟨x, h1, _⟩ => by subst h1; simp
theorem ModeRel.settle {g : Inj} : ∀ {m : AMode} {u : FrameMode}, ModeRel g m u → ModeRel g (settleA m) (Go.settle u)
  | .ret, _, h => by subst h; rfl
  | .pan v r, _, ⟨x, h1, h2⟩ => by
    subst h1
    cases r with
    | true => rfl
    | false => exact ⟨x, rfl, h2⟩
def CodeQS (ng : Cx) (hp : Hp) (g : Inj) (w : World) (a : Act) (c0 : Frame) (cs : List Frame) (x : (Ex × Tm × Hp) × AMode) (e : Exit) (a' : Act) (cs' : List Frame) (w' : World) : Prop :=
  Touch hp x.1.2.2 ∧ ∃ g', ExRel g' x.1.1 e ∧ HRel ng g' x.1.2.2.heap w' ∧ Ext g hp.heap w g' x.1.2.2.heap w' ∧ FRel g' x.1.2.1 a' ∧ a'.tmps.size = a.tmps.size ∧ ∃ u', cs' = { c0 with mode := u' } :: cs ∧ ModeRel g' x.2 u'
theorem CodeQS.trans {ng : Cx} {hp hp' : Hp} {x : (Ex × Tm × Hp) × AMode} {g g' : Inj} {w w' : World} {a a' : Act} {u : FrameMode} {c0 : Frame} {cs cs'' : List Frame} {e : Exit} {a'' : Act} {w'' : World} (h0 : HRel ng g hp.heap w) (ht : Touch hp hp') (hE : Ext g hp.heap w g' hp'.heap w')
    (hs : a'.tmps.size = a.tmps.size) (h : CodeQS ng hp' g' w' a' { c0 with mode := u } cs x e a'' cs'' w'') : CodeQS ng hp g w a c0 cs x e a'' cs'' w'' := by
  obtain ⟨h0', g'', h1, h2, h3, h4, h5, u', h6, h7⟩ := h
  exact ⟨ht.trans h0', g'', h1, h2, hE.trans h0 h3, h4, h5.trans hs, u', h6, h7⟩
theorem CodeQS.move {C : CxF} (hC : CtxOk C) {F F' : List Fact} {hp : Hp} {x : (Ex × Tm × Hp) × AMode} {g : Inj} {w : World} {a : Act} {c0 : Frame} {cs cs' : List Frame} {e : Exit} {a' : Act} {w' : World} (hF : Holds g.sig F) (h : CodeQS (C F') hp g w a c0 cs x e a' cs' w') : CodeQS (C F) hp g w a c0 cs x e a' cs' w' := by
  obtain ⟨h0, g', h1, h2, h3, h4, h5, h6⟩ := h
  exact ⟨h0, g', h1, hC.move h2 (by rw [h3.sub.sig]; exact hF), h3, h4, h5, h6⟩
theorem isRec_spec {op : Op} (h : isRec op = true) : ∃ c, op = .call c ∧ c.callee = .builtin .recover := by
  unfold isRec at h
  split at h
  · rename_i c
    split at h
    · rename_i b hb
      split at h
      · exact ⟨c, rfl, hb⟩
      · cases h
    · cases h
  · cases h
theorem opsS_sound {ng : Cx} {ops : Array Oper} {g : Inj} {H : List Blk} {w : World} (hH : HRel ng g H w) {Q : Exit → Act → List Frame → World → Prop} {c0 : Frame} {cs : List Frame} : ∀ (l : List Nat) (t t' : Tm) (m m' : AMode) (u : FrameMode) (a : Act), opsS P ng ops l t m = some (t', m') → FRel g t a → ModeRel g m u →
    (∀ a' u', FRel g t' a' → a'.tmps.size = a.tmps.size → ModeRel g m' u' → Q .normal a' ({ c0 with mode := u' } :: cs) w) → wpOpsSIn (FR none) 0 P ops Q l a ({ c0 with mode := u } :: cs) w
  | [], t, t', m, m', u, a, h, ht, hm, k => by
    simp only [opsS, Option.some.injEq, Prod.mk.injEq] at h
    obtain ⟨rfl, rfl⟩ := h
    exact k a u ht rfl hm
  | i :: l, t, t', m, m', u, a, h, ht, hm, k => by
    simp only [opsS] at h
    cases ho : ops[i]? with
    | none => rw [ho] at h; cases h
    | some o =>
      rw [ho] at h
      simp only at h
      cases hgd : o.guard with
      | some _ => rw [hgd] at h; cases h
      | none =>
        rw [hgd] at h
        simp only at h
        have hw : Region.wanted o (yielded ops a.tmps) = true := by simp [Region.wanted, hgd]
        simp only [wpOpsSIn, ho]
        refine ⟨fun _ _ => trivial, ?_⟩
        rw [if_pos hw]
        cases hr : isRec o.op with
        | true =>
          rw [hr] at h
          obtain ⟨c, hop, hc⟩ := isRec_spec hr
          have hex : (execOp a.eval o).run P w = .ok .recover w := by
            obtain ⟨dst, op, type, pos, after, guard⟩ := o
            simp only at hop
            subst hop
            simp [execOp, resolve, hc, invoke, builtin]
          rw [hex]
          simp only
          cases m with
          | ret =>
            simp only at h
            cases hm
            simp only [recoverD]
            refine opsS_sound hH l _ t' _ m' .returning (a.put o.dst .nilIface) h (ht.put o.dst .niliface) rfl fun a' u' q1 q2 q3 => k a' u' q1 (q2.trans (put_size a o.dst _).1) q3
          | pan v r =>
            obtain ⟨x, rfl, hx⟩ := hm
            cases r with
            | false =>
              simp only at h
              simp only [recoverD]
              exact opsS_sound hH l _ t' _ m' _ (a.put o.dst x) h (ht.put o.dst hx) ⟨x, rfl, hx⟩ fun a' u' q1 q2 q3 => k a' u' q1 (q2.trans (put_size a o.dst _).1) q3
            | true =>
              simp only at h
              simp only [recoverD]
              exact opsS_sound hH l _ t' _ m' _ (a.put o.dst .nilIface) h (ht.put o.dst .niliface) ⟨x, rfl, hx⟩ fun a' u' q1 q2 q3 => k a' u' q1 (q2.trans (put_size a o.dst _).1) q3
        | false =>
          rw [hr] at h
          simp only at h
          split at h
          · rename_i r hp
            have hρ : ERel g ng t a.eval := ⟨fun x v hv => ht.1.eval hH.sig hH.glob hv, hH.sig⟩
            obtain ⟨v, h1, h2⟩ := pureA_sound w hρ hp
            rw [h1]
            simp only
            exact opsS_sound hH l _ t' _ m' u (a.put o.dst v) h (ht.put o.dst h2) hm fun a' u' q1 q2 q3 => k a' u' q1 (q2.trans (put_size a o.dst _).1) q3
          · cases h
theorem blockX_touch {hp : Hp} {id : Nat} {x : Ex × Tm × Hp} (h : Touch hp x.2.2) : Touch hp (blockX id x).2.2 := by
  unfold blockX
  split
  · split <;> exact h
  · exact h
theorem codeS_lift_touch (E : Env P C call round) {c : Code} (m : AMode) (F : List Fact) (t : Tm) (hp : Hp) : AllT (fun x => Touch hp x.1.2.2) (bindT F (codeT P C mb fuel call round false c F t hp) fun _ x => .leaf (x, m)) := by
  refine all_bind (Q := fun x => Touch hp x.2.2) ?_ ((codeT_sound E c false).touch F t hp)
  intro _ x h
  exact h
theorem codeS_touch (E : Env P C call round) : ∀ (c : Code) (F : List Fact) (t : Tm) (hp : Hp) (m : AMode), AllT (fun x => Touch hp x.1.2.2) (codeS P C mb fuel call round c F t hp m)
  | .seq a b, F, t, hp, m => by
    simp only [codeS]
    refine all_bind (Q := fun x => Touch hp x.1.2.2) ?_ (codeS_touch E a F t hp m)
    rintro F' ⟨⟨e, t', hp'⟩, m'⟩ h
    cases e with
    | normal => exact (codeS_touch E b F' t' hp' m').mono fun x hx => h.trans hx
    | _ => exact h
  | .cond c a b, F, t, hp, m => by
    simp only [codeS]
    split
    · split
      · exact codeS_touch E a F t hp m
      · exact codeS_touch E b F t hp m
    · trivial
  | .block id c, F, t, hp, m => by
    simp only [codeS]
    refine all_bind (Q := fun x => Touch hp x.1.2.2) ?_ (codeS_touch E c F t hp m)
    intro _ x h
    exact blockX_touch (hp := hp) (x := x.1) h
  | .region id ops draw, F, t, hp, m => by
    simp only [codeS]
    split
    · split
      · split
        · exact Touch.refl _
        · trivial
      · trivial
    · exact codeS_lift_touch E m F t hp
  | .skip, F, t, hp, m => by
    simp only [codeS]
    exact codeS_lift_touch E m F t hp
  | .label _, F, t, hp, m => by
    simp only [codeS]
    exact codeS_lift_touch E m F t hp
  | .exit _, F, t, hp, m => by
    simp only [codeS]
    exact codeS_lift_touch E m F t hp
  | .ret, F, t, hp, m => by
    simp only [codeS]
    exact codeS_lift_touch E m F t hp
  | .loop _, F, t, hp, m => by
    simp only [codeS]
    exact codeS_lift_touch E m F t hp
  | .rangeFunc .., F, t, hp, m => by
    simp only [codeS]
    exact codeS_lift_touch E m F t hp
  | .goto _, F, t, hp, m => by
    simp only [codeS]
    exact codeS_lift_touch E m F t hp
  | .scope _, F, t, hp, m => by
    simp only [codeS]
    exact codeS_lift_touch E m F t hp
  | .refuse _, F, t, hp, m => by
    simp only [codeS]
    exact codeS_lift_touch E m F t hp
theorem codeS_lift (E : Env P C call round) {c : Code} {F : List Fact} {t : Tm} {hp : Hp} {m : AMode} {Q : (Ex × Tm × Hp) × AMode → Prop} {g : Inj} {w : World} {a : Act} {c0 : Frame} {cs : List Frame} {u : FrameMode} (hH : HRel (C F) g hp.heap w) (ht : FRel g t a) (hm : ModeRel g m u)
    (hs : Sat g.sig Q (bindT F (codeT P C mb fuel call round false c F t hp) fun _ x => .leaf (x, m))) : c.wpSIn (FR none) 0 P (fun e a' cs' w' => ∃ x, Q x ∧ CodeQS (C F) hp g w a c0 cs x e a' cs' w') a ({ c0 with mode := u } :: cs) w := by
  have hs := sat_bind (E.ok.facts hH) hs
  refine wpSIn_of_wpIn rfl (wpIn_mono ((codeT_sound (mb := mb) (fuel := fuel) E c false).wp F t hp _ none g w a (fun _ => rfl) hH ht hs) ?_)
  rintro e a' w' ⟨x, ⟨F', _, q⟩, h0, g', h1, h2, h3, h4, h5⟩
  exact ⟨(x, m), q, h0, g', h1, h2, h3, h4, h5, u, rfl, hm.mono h3.sub⟩
theorem codeS_sound (E : Env P C call round) : ∀ (c : Code) (F : List Fact) (t : Tm) (hp : Hp) (m : AMode) (Q : (Ex × Tm × Hp) × AMode → Prop) (g : Inj) (w : World) (a : Act) (c0 : Frame) (cs : List Frame) (u : FrameMode), HRel (C F) g hp.heap w → FRel g t a → ModeRel g m u →
    Sat g.sig Q (codeS P C mb fuel call round c F t hp m) → c.wpSIn (FR none) 0 P (fun e a' cs' w' => ∃ x, Q x ∧ CodeQS (C F) hp g w a c0 cs x e a' cs' w') a ({ c0 with mode := u } :: cs) w
  | .seq x y, F, t, hp, m, Q, g, w, a, c0, cs, u, hH, ht, hm, hs => by
    simp only [codeS] at hs
    have hs := sat_bind (E.ok.facts hH) hs
    refine wpSIn_seq (wpSIn_mono (codeS_sound E x F t hp m _ g w a c0 cs u hH ht hm hs) ?_)
    rintro e a' cs' w' ⟨⟨⟨ex, t', hp'⟩, m'⟩, ⟨F', hF', q⟩, h0, g', h1, h2, h3, h4, h5, u', rfl, h6⟩
    have hF0 : Holds g.sig F := E.ok.facts hH
    cases ex with
    | normal =>
      cases e <;> simp only [ExRel] at h1
      have := codeS_sound E y F' t' hp' m' Q g' w' a' c0 cs u' (E.ok.move h2 (by rw [h3.sub.sig]; exact hF')) h4 h6 (by rw [h3.sub.sig]; exact q)
      refine wpSIn_mono this ?_
      rintro e2 a2 cs2 w2 ⟨x2, q2, hq2⟩
      refine ⟨x2, q2, ?_⟩
      exact CodeQS.trans (c0 := c0) (u := c0.mode) hH h0 h3 h5 (hq2.move E.ok (by rw [h3.sub.sig]; exact hF0))
    | exit i =>
      cases e <;> simp only [ExRel] at h1
      exact ⟨_, q, h0, g', h1, h2, h3, h4, h5, u', rfl, h6⟩
    | ret =>
      cases e <;> simp only [ExRel] at h1
      exact ⟨_, q, h0, g', trivial, h2, h3, h4, h5, u', rfl, h6⟩
    | pan v =>
      cases e <;> simp only [ExRel] at h1
      exact ⟨_, q, h0, g', h1, h2, h3, h4, h5, u', rfl, h6⟩
  | .cond c x y, F, t, hp, m, Q, g, w, a, c0, cs, u, hH, ht, hm, hs => by
    simp only [codeS] at hs
    split at hs
    · rename_i v hv
      have hc := ht.1.eval hH.sig hH.glob hv
      have hcv : a.eval c = .bool v := by generalize a.eval c = z at hc; cases hc; rfl
      refine wpSIn_cond hcv ?_
      cases v with
      | true => exact codeS_sound E x F t hp m Q g w a c0 cs u hH ht hm hs
      | false => exact codeS_sound E y F t hp m Q g w a c0 cs u hH ht hm hs
    · exact hs.elim
  | .block id c, F, t, hp, m, Q, g, w, a, c0, cs, u, hH, ht, hm, hs => by
    simp only [codeS] at hs
    have hs := sat_bind (E.ok.facts hH) hs
    refine wpSIn_block (wpSIn_mono (codeS_sound E c F t hp m _ g w a c0 cs u hH ht hm hs) ?_)
    rintro e a' cs' w' ⟨⟨⟨ex, t', hp'⟩, m'⟩, ⟨F', hF', q⟩, h0, g', h1, h2, h3, h4, h5, u', rfl, h6⟩
    cases ex with
    | normal =>
      cases e <;> simp only [ExRel] at h1
      exact ⟨_, q, h0, g', trivial, h2, h3, h4, h5, u', rfl, h6⟩
    | exit i =>
      cases e <;> simp only [ExRel] at h1
      subst h1
      simp only [inBlockS]
      simp only [blockX] at q
      split at q
      · rename_i hb
        rw [if_pos (Nat.eq_of_beq_eq_true hb)]
        exact ⟨_, q, h0, g', trivial, h2, h3, h4, h5, u', rfl, h6⟩
      · rename_i hb
        rw [if_neg (Nat.ne_of_beq_eq_false hb)]
        exact ⟨_, q, h0, g', rfl, h2, h3, h4, h5, u', rfl, h6⟩
    | ret =>
      cases e <;> simp only [ExRel] at h1
      exact ⟨_, q, h0, g', trivial, h2, h3, h4, h5, u', rfl, h6⟩
    | pan v =>
      cases e <;> simp only [ExRel] at h1
      exact ⟨_, q, h0, g', h1, h2, h3, h4, h5, u', rfl, h6⟩
  | .region id ops draw, F, t, hp, m, Q, g, w, a, c0, cs, u, hH, ht, hm, hs => by
    simp only [codeS] at hs
    split at hs
    · split at hs
      · split at hs
        · rename_i t' m' ho
          refine wpSIn_region (opsS_sound hH _ _ _ _ _ _ _ ho ht hm fun a' u' q1 q2 q3 => ?_)
          exact ⟨_, hs, Touch.refl _, g, trivial, hH, Ext.refl _ _ _, q1, q2, u', rfl, q3⟩
        · exact hs.elim
      · exact hs.elim
    · exact codeS_lift E hH ht hm hs
  | .skip, F, t, hp, m, Q, g, w, a, c0, cs, u, hH, ht, hm, hs => by
    simp only [codeS] at hs
    exact codeS_lift E hH ht hm hs
  | .label _, F, t, hp, m, Q, g, w, a, c0, cs, u, hH, ht, hm, hs => by
    simp only [codeS] at hs
    exact codeS_lift E hH ht hm hs
  | .exit _, F, t, hp, m, Q, g, w, a, c0, cs, u, hH, ht, hm, hs => by
    simp only [codeS] at hs
    exact codeS_lift E hH ht hm hs
  | .ret, F, t, hp, m, Q, g, w, a, c0, cs, u, hH, ht, hm, hs => by
    simp only [codeS] at hs
    exact codeS_lift E hH ht hm hs
  | .loop _, F, t, hp, m, Q, g, w, a, c0, cs, u, hH, ht, hm, hs => by
    simp only [codeS] at hs
    exact codeS_lift E hH ht hm hs
  | .rangeFunc .., F, t, hp, m, Q, g, w, a, c0, cs, u, hH, ht, hm, hs => by
    simp only [codeS] at hs
    exact codeS_lift E hH ht hm hs
  | .goto _, F, t, hp, m, Q, g, w, a, c0, cs, u, hH, ht, hm, hs => by
    simp only [codeS] at hs
    exact codeS_lift E hH ht hm hs
  | .scope _, F, t, hp, m, Q, g, w, a, c0, cs, u, hH, ht, hm, hs => by
    simp only [codeS] at hs
    exact codeS_lift E hH ht hm hs
  | .refuse _, F, t, hp, m, Q, g, w, a, c0, cs, u, hH, ht, hm, hs => by
    simp only [codeS] at hs
    exact codeS_lift E hH ht hm hs
theorem dcall_touch (E : Env P C call round) {F : List Fact} {f : FuncId} {args : List AVal} {m : AMode} {hp : Hp} : AllT (fun y => Touch hp y.2) (dcall P C mb fuel call round F f args m hp) := by
  unfold dcall
  split
  · split
    · refine all_bind (Q := fun x => Touch hp x.1.2.2) ?_ (codeS_touch E _ F _ hp m)
      rintro F' x h
      split
      · split
        · split
          · exact h
          · trivial
        · split
          · exact h
          · trivial
        · trivial
      · trivial
    · trivial
  · trivial
theorem dcall_sound (E : Env P C call round) {F : List Fact} {f : FuncId} {args : List AVal} {m : AMode} {hp : Hp} {Q : AMode × Hp → Prop} {g : Inj} {w : World} {args' : Array Value} {u : FrameMode} (hH : HRel (C F) g hp.heap w) (ha : LRel g args args'.toList) (hm : ModeRel g m u)
    (hs : Sat g.sig Q (dcall P C mb fuel call round F f args m hp)) : CallsDIn (FR none) 0 P f args' u w fun e u' w' => ∃ v y g', e = .returned v ∧ Q y ∧ Touch hp y.2 ∧ HRel (C F) g' y.2.heap w' ∧ Ext g hp.heap w g' y.2.heap w' ∧ ModeRel g' y.1 u' := by
  unfold dcall at hs
  split at hs
  · rename_i fn hfn
    split at hs
    · rename_i c hb
      have hs := sat_bind (E.ok.facts hH) hs
      refine callsDIn_of_wpSIn hfn hb trivial fun c0 cs hu => ?_
      have hc0 : c0 = { c0 with mode := u } := by subst hu; rfl
      rw [hc0]
      refine wpSIn_mono (codeS_sound E c F (entryA args fn.ntmps) hp m _ g w _ c0 cs u hH ⟨enter_trel ha fn.ntmps, .nil⟩ hm hs) ?_
      rintro e a' cs' w' ⟨⟨⟨ex, t', hp'⟩, m'⟩, ⟨F', hF', q⟩, h0, g', h1, h2, h3, h4, h5, u', rfl, h6⟩
      simp only at q
      split at q
      · rename_i hdf
        have hd : a'.defers = [] := by
          have := h4.2
          simp only at this hdf
          rw [hdf] at this
          cases hda : a'.defers with
          | nil => rfl
          | cons d ds => rw [hda] at this; cases this
        have fin : ∀ vs, resA P t' hp'.heap fn.results.toList = some vs → Q (m', hp') → a'.defers = [] ∧ ∃ u2, ({ c0 with mode := u' } :: cs : List Frame) = { ({ c0 with mode := u } : Frame) with mode := u2 } :: cs ∧ ∃ v, (results fn a'.tmps).run P w' = .ok v w' ∧ ∃ v' y g', (Ending.returned v) = .returned v' ∧ Q y ∧ Touch hp y.2 ∧ HRel (C F) g' y.2.heap w' ∧ Ext g hp.heap w g' y.2.heap w' ∧ ModeRel g' y.1 u2 := by
          intro vs hvs hq
          obtain ⟨v, r1, _⟩ := results_run h2 h4.1 hvs
          exact ⟨hd, u', rfl, v, r1, v, (m', hp'), g', rfl, hq, h0, h2, h3, h6⟩
        cases ex with
        | normal =>
          cases e <;> simp only [ExRel] at h1
          simp only at q
          split at q
          · rename_i vs hvs; exact fin vs hvs q
          · exact q.elim
        | ret =>
          cases e <;> simp only [ExRel] at h1
          simp only at q
          split at q
          · rename_i vs hvs; exact fin vs hvs q
          · exact q.elim
        | exit i => exact q.elim
        | pan v => exact q.elim
      · exact q.elim
    · exact hs.elim
  · exact hs.elim
theorem leaveT_touch (E : Env P C call round) : ∀ (l : List ADef) (F : List Fact) (m : AMode) (hp : Hp), AllT (fun y => Touch hp y.2) (leaveT P C mb fuel call round l F m hp)
  | [], F, m, hp => Touch.refl _
  | .mark b :: l, F, m, hp => by
    simp only [leaveT]
    split
    · rename_i hb
      exact (leaveT_touch E l F m _).mono fun y hy => (set_touchK ⟨_, hb, by simp⟩ (fun la h => by cases h)).trans hy
    · trivial
  | .fn fv cap args :: l, F, m, hp => by
    simp only [leaveT]
    split
    · split
      · exact all_bind (Q := fun y => Touch hp y.2) (fun F' x h => (leaveT_touch E l F' _ x.2).mono fun y hy => h.trans hy) (dcall_touch E)
      · trivial
    · trivial
theorem leaves_T (E : Env P C call round) {fn : Func} {tmps : Array Value} {R : Ending → World → Prop} : ∀ (df : List ADef) (ds : List Deferred) (F : List Fact) (m : AMode) (hp : Hp) (Q : AMode × Hp → Prop) (g : Inj) (w : World) (u : FrameMode), HRel (C F) g hp.heap w → DfRel g df ds → ModeRel g m u →
    Sat g.sig Q (leaveT P C mb fuel call round df F m hp) → (∀ y g' w' u', Q y → HRel (C F) g' y.2.heap w' → Ext g hp.heap w g' y.2.heap w' → Touch hp y.2 → ModeRel g' y.1 u' → LeavesIn (FR none) 0 P fn tmps R [] u' w') → LeavesInM (FR none) 0 P fn tmps R ds u w
  | [], _, F, m, hp, Q, g, w, u, hH, hd, hm, hs, k => by
    cases hd
    exact k (m, hp) g w u hs hH (Ext.refl _ _ _) (Touch.refl _) hm
  | .mark b :: l, _, F, m, hp, Q, g, w, u, hH, hd, hm, hs, k => by
    cases hd with
    | mark _ L _ md hL hd =>
    simp only [leaveT] at hs
    split at hs
    · rename_i hb
      obtain ⟨L', hL', hB⟩ := hH.blk b _ hb (by simp)
      rw [hL] at hL'; cases hL'
      obtain ⟨k1, k2⟩ := HRel.writeK hH (k' := .gone) ⟨_, hb, by simp⟩ hL (setW_wr w L.blk (.deferred none)) trivial
      refine ⟨hm.run, .inl ⟨L.blk, _, rfl, run_take hB, ?_⟩⟩
      exact leaves_T E l md F m _ Q g _ u k1 hd hm hs fun y g' w' u' q1 q2 q3 q4 q5 => k y g' w' u' q1 q2 (k2.trans hH q3) ((set_touchK ⟨_, hb, by simp⟩ (fun la h => by cases h)).trans q4) q5
    · exact hs.elim
  | .fn fv cap args :: l, _, F, m, hp, Q, g, w, u, hH, hd, hm, hs, k => by
    cases hd with
    | fn _ _ _ cap' args' _ md hcap hargs hd =>
    simp only [leaveT] at hs
    split at hs
    · rename_i f
      split at hs
      · rename_i fa hen
        obtain ⟨f', fargs⟩ := fa
        have hf' : f' = f := by
          unfold enterA at hen
          split at hen
          · split at hen
            · cases hen; rfl
            · cases hen
          · cases hen
        subst hf'
        obtain ⟨k1, _⟩ := enterA_run (P := P) (w := w) hen (args' ++ cap')
        have hs := sat_bind (E.ok.facts hH) hs
        have hall : LRel g (args ++ cap) (args' ++ cap').toList := by simpa using hargs.append hcap
        refine ⟨hm.run, .inr ⟨(fun h => by simp [FR, Fence.wide] at h), .func f', cap', f', args' ++ cap', rfl, ?_, fun _ _ => trivial, ?_⟩⟩
        · simpa [invoke] using k1
        · refine CallsDIn.mono (dcall_sound E hH hall hm hs) ?_
          rintro e u' w' ⟨v, y, g', rfl, ⟨F', hF', q⟩, h0, h2, h3, h4⟩
          refine leaves_T E l md F' (settleA y.1) y.2 Q g' w' (settle u') (E.ok.move h2 (by rw [h3.sub.sig]; exact hF')) (hd.mono h3.sub) h4.settle (by rw [h3.sub.sig]; exact q) ?_
          intro y2 g2 w2 u2 q1 q2 q3 q4 q5
          exact k y2 g2 w2 u2 q1 (E.ok.move q2 (by rw [q3.sub.sig, h3.sub.sig]; exact E.ok.facts hH)) (h3.trans hH q3) (h0.trans q4) q5
      · exact hs.elim
    · exact hs.elim
theorem rebase {hp h : Hp} (t : Touch ⟨hp.heap, []⟩ h) : Touch hp ⟨h.heap, h.log ++ hp.log⟩ := by
  obtain ⟨pre, e1, e2⟩ := t.log
  simp only [List.append_nil] at e1
  exact ⟨t.len, ⟨pre, by rw [e1], e2⟩, t.live, t.loops⟩
theorem leaveA_touch {v : AVal} {hp h : Hp} (t : Touch ⟨hp.heap, []⟩ h) : Touch hp (leaveA v hp h).2 := by
  unfold leaveA
  split
  · exact Touch.refl _
  · exact rebase t
theorem endOut_touch {fn : Func} {tm : Tm} {hp : Hp} {y : AMode × Hp} (t : Touch ⟨hp.heap, []⟩ y.2) : AllT (fun z => Touch hp z.2) (endOut P fn tm hp y) := by
  unfold endOut
  split
  · split
    · exact rebase t
    · trivial
  · split
    · exact leaveA_touch t
    · trivial
theorem endCall_touch (E : Env P C call round) {F : List Fact} {fn : Func} {hp : Hp} {x : Ex × Tm × Hp} (t : Touch ⟨hp.heap, []⟩ x.2.2) : AllT (fun y => Touch hp y.2) (endCall P C mb fuel call round F fn hp x) := by
  unfold endCall
  split
  · exact all_bind (Q := fun y => Touch x.2.2 y.2) (fun F' y h => endOut_touch (t.trans h)) (leaveT_touch E _ _ _ _)
  · trivial
theorem callB_all (E : Env P C call round) (F : List Fact) (hp : Hp) (g0 : Inj) (w0 : World) (T : Tree (Out × Hp)) (Q : Out × Hp → Prop) (hT : AllT (fun y => Touch hp y.2) T) :
    AllT (fun y => Touch hp y.2) (mgT (mgO (C F) hp) (mgOP (C F) hp) (mgOr hp) T) ∧ (Sat g0.sig Q (mgT (mgO (C F) hp) (mgOP (C F) hp) (mgOr hp) T) → Sat g0.sig (fun x => ∃ y, Q y ∧ WO (C F) hp g0 w0 x y) T) :=
  have := sat_mg (σ := g0.sig) (W := WO (C F) hp g0 w0) (S := fun y => Touch hp y.2) (f := mgO (C F) hp) (fp := mgOP (C F) hp) (fo := mgOr hp) (fun _ _ _ h => h) (fun _ _ _ h k e w q => k e w (h e w q))
    (fun i x y z sx sy h => ⟨(mgO_sound sx sy h).1, ((mgO_sound sx sy h).2 g0 w0).1, ((mgO_sound sx sy h).2 g0 w0).2⟩)
    (fun i k x y z sx sy h => ⟨(mgOP_sound sx sy h).1, ((mgOP_sound sx sy h).2 g0 w0).1, ((mgOP_sound sx sy h).2 g0 w0).2⟩)
    (fun x y z sx sy h => by obtain ⟨e1, e2⟩ := mgOr_eq sx sy h; exact ⟨e1 ▸ sx, fun e w q => e1 ▸ q, fun e w q => e2 ▸ q⟩) hT
  ⟨this.1, this.2 Q⟩
theorem callB_touch (E : Env P C call round) : CallTouch (callB P C mb fuel call round) := by
  intro F f args hp
  unfold callB
  split
  · split
    · refine (callB_all E F hp ⟨fun _ => none, ⟨fun _ => 0, fun _ => false, fun _ => .empty, fun _ _ => 0, fun _ => none⟩, fun _ => none⟩ default _ (fun _ => True) ?_).1
      exact all_bind (Q := fun x => Touch ⟨hp.heap, []⟩ x.2.2) (fun F' x h => endCall_touch E h) ((codeT_sound E _ false).touch F _ _)
    · trivial
  · trivial
theorem callB_sound (E : Env P C call round) : CallSound P C (callB P C mb fuel call round) := by
  intro F f args hp Q g w args' hH ha hs
  unfold callB at hs
  split at hs
  · rename_i fn hfn
    split at hs
    · rename_i c hb
      have hT : AllT (fun y => Touch hp y.2) (bindT F (codeT P C mb fuel call round false c F (entryA args fn.ntmps) ⟨hp.heap, []⟩) fun F' x => endCall P C mb fuel call round F' fn hp x) :=
        all_bind (Q := fun x => Touch ⟨hp.heap, []⟩ x.2.2) (fun F' x h => endCall_touch E h) ((codeT_sound E c false).touch F _ _)
      have hs := (callB_all E F hp g w _ Q hT).2 hs
      have hs := sat_bind (E.ok.facts hH) hs
      refine calls_FR (r := none) (n := 0) (callsIn_of_wp_marks hfn hb trivial ?_)
      refine wpIn_mono ((codeT_sound (mb := mb) (fuel := fuel) E c false).wp F (entryA args fn.ntmps) ⟨hp.heap, []⟩ _ none g w _ (fun _ => rfl) hH ⟨enter_trel ha fn.ntmps, .nil⟩ hs) ?_
      rintro e a' w' ⟨⟨x, t', hp'⟩, ⟨F', hF', q⟩, h0, g', h1, h2, h3, h4, h5⟩
      unfold endCall at q
      split at q
      · rename_i m hmx
        have hHm := E.ok.move h2 (F' := F') (by rw [h3.sub.sig]; exact hF')
        have q := sat_bind (show Holds g.sig F' from hF') q
        have hF0 : Holds g.sig F := E.ok.facts hH
        have give : ∀ (h : Hp) (vs : List AVal) (g2 : Inj) (w2 : World) (u : Value), Touch ⟨hp.heap, []⟩ h → HRel (C F) g2 h.heap w2 → Ext g hp.heap w g2 h.heap w2 → VRel g2 (packA vs) u → (∃ y, Q y ∧ WO (C F) hp g w (leaveA (packA vs) hp h) y) → ∃ x, Q x ∧ OutQ (C F) hp g w x.1 x.2 (.returned u) w2 := by
          rintro h vs g2 w2 u t2 k1 k2 k3 ⟨y, hy, hw⟩
          refine ⟨y, hy, hw _ _ ?_⟩
          unfold leaveA
          split
          · rename_i hfree
            simp only [Bool.and_eq_true] at hfree
            have hsame : ∀ i, i < hp.heap.length → h.heap[i]? = hp.heap[i]? := by
              intro i hi
              obtain ⟨pre, e1, e2⟩ := t2.log
              simp only [List.append_nil] at e1
              exact e2 i hi (by rw [← e1]; exact oldOnly_spec hfree.2 i hi)
            obtain ⟨m1, m2⟩ := gc_rel hH k1 k2 hsame
            exact ⟨Touch.refl _, g, ⟨u, rfl, idFree_rel k2.sub.sig.symm k3 hfree.1⟩, m1, m2⟩
          · exact ⟨rebase t2, g2, ⟨u, rfl, k3⟩, k1, k2⟩
        have fin : ∀ u, ModeRel g' m u → LeavesInM (FR none) 0 P fn a'.tmps (fun e w' => ∃ x, Q x ∧ OutQ (C F) hp g w x.1 x.2 e w') a'.defers u w' := by
          intro u hu
          refine leaves_T E t'.df a'.defers F' m hp' _ g' w' u hHm h4.2 hu (by rw [h3.sub.sig]; exact q) ?_
          rintro ⟨m2, hp2⟩ g2 w2 u2 ⟨F2, hF2, q2⟩ k1 k2 k3 k4
          have k1' := E.ok.move k1 (F' := F) (by rw [k2.sub.sig, h3.sub.sig]; exact hF0)
          have hE2 := h3.trans hH k2
          have t2 := h0.trans k3
          unfold endOut at q2
          cases m2 with
          | ret =>
            cases k4
            simp only at q2
            split at q2
            · rename_i vs hvs
              obtain ⟨v, r1, r2⟩ := results_run k1' (h4.1.mono k2.sub) hvs
              exact ⟨v, r1, give hp2 vs g2 w2 v t2 k1' hE2 r2 q2⟩
            · exact q2.elim
          | pan v r =>
            obtain ⟨x, rfl, hx⟩ := k4
            cases r with
            | false =>
              obtain ⟨y, hy, hw⟩ := q2
              exact ⟨y, hy, hw _ _ ⟨rebase t2, g2, ⟨x, rfl, hx⟩, k1', hE2⟩⟩
            | true => exact q2.elim
        cases x with
        | pan v =>
          cases e <;> simp only [ExRel] at h1
          obtain ⟨u, rfl, hu⟩ := h1
          simp only [exMode, Option.some.injEq] at hmx
          subst hmx
          exact fin _ ⟨u, rfl, hu⟩
        | exit i => simp [exMode] at hmx
        | normal =>
          cases e <;> simp only [ExRel] at h1
          simp only [exMode, Option.some.injEq] at hmx
          subst hmx
          exact fin _ rfl
        | ret =>
          cases e <;> simp only [ExRel] at h1
          simp only [exMode, Option.some.injEq] at hmx
          subst hmx
          exact fin _ rfl
      · exact q.elim
    · exact hs.elim
  · exact hs.elim
theorem evD_env (hm : P.follows .mixedOrders = true) (hC : CtxOk C) (hh : ∀ F, Hooks P (C F)) : ∀ d, Env P C (evD P C mb fuel d).1 (evD P C mb fuel d).2
  | 0 => ⟨hm, hC, hh, fun _ _ _ _ => trivial, fun _ _ _ _ => trivial, fun _ _ _ _ _ _ _ _ _ _ h => h.elim, fun _ _ _ _ _ _ _ _ _ _ _ _ _ h => h.elim⟩
  | d + 1 => by
    have E := evD_env hm hC hh d
    exact ⟨hm, hC, hh, callB_touch E, roundB_touch E, callB_sound E, roundB_sound E⟩
end
end Go.Ev
