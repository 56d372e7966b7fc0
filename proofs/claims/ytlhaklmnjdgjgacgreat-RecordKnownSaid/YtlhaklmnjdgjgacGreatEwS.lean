/- All code; calls and rounds. -/
import Derived.Test.YtlhaklmnjdgjgacGreatEwR
namespace Go.Ev

def putsA (t : Tm) : List Nat → List AVal → Tm
  | d :: ds, v :: vs => putsA (putA t (some d) v) ds vs
  | _, _ => t

def endRound (b : Nat) (x : Ex × Tm × Hp) : Tree (Out × Hp) :=
  match x.2.2.heap[b]? with
  | some (.loop l) => match x.1 with
    | .normal => .leaf (.val (.bool true), ⟨x.2.2.heap.set b (.loop ⟨.ready, none, l.t, l.params, l.assign, l.body, l.dfr⟩), b :: x.2.2.log⟩)
    | .ret => .leaf (.val (.bool false), ⟨x.2.2.heap.set b (.loop ⟨.done, some .ret, l.t, l.params, l.assign, l.body, l.dfr⟩), b :: x.2.2.log⟩)
    | .exit i => .leaf (.val (.bool false), ⟨x.2.2.heap.set b (.loop ⟨.done, some (.exit i), l.t, l.params, l.assign, l.body, l.dfr⟩), b :: x.2.2.log⟩)
    | .pan _ => .dead
  | _ => .dead

def roundB (P : Program) (C : CxF) (mb : Bool) (fuel : Nat) (call : CallF) (round : RoundF) : RoundF := fun F b args hp =>
  match hp.heap[b]? with
  | some (.loop la) => match Nat.beq la.params.size args.length with
    | true => bindT F (codeT P C mb fuel call round true la.assign F (putsA ⟨la.t.len, la.t.tr, []⟩ la.params.toList args) hp) fun F1 x => match x with
      | (.normal, t2, hp2) => match hp2.heap[b]? with
        | some (.loop l2) => match l2.st with
          | .ready => bindT F1 (codeT P C mb fuel call round true l2.body F1 t2 ⟨hp2.heap.set b (.loop ⟨.busy, l2.pend, l2.t, l2.params, l2.assign, l2.body, l2.dfr⟩), b :: hp2.log⟩) fun _ y => endRound b y
          | _ => .dead
        | _ => .dead
      | _ => .dead
    | false => .dead
  | _ => .dead

def resA (P : Program) (t : Tm) (H : List Blk) : List ResultVar → Option (List AVal)
  | [] => some []
  | r :: l => match (match r with
      | .tmp i => t.get i
      | .cell i ty => match t.get i with
        | some x => loadV P ty x H
        | _ => none : Option AVal) with
    | some v => match resA P t H l with
      | some vs => some (v :: vs)
      | none => none
    | none => none

mutual
def idFree : AVal → Bool
  | .bool _ => true
  | .int _ _ => true
  | .float _ _ => true
  | .str _ => true
  | .nilptr => true
  | .nilslice => true
  | .nilmap => true
  | .nilfunc => true
  | .niliface => true
  | .symi _ _ => true
  | .symb _ => true
  | .syms _ => true
  | .func _ f c => idFreeL f && idFreeL c
  | .iface _ v => idFree v
  | .agg l => idFreeL l
  | .tuple l => idFreeL l
  | _ => false
def idFreeL : List AVal → Bool
  | [] => true
  | v :: l => idFree v && idFreeL l
end

def oldOnly (n : Nat) : List Nat → Bool
  | [] => true
  | i :: l => Nat.ble n i && oldOnly n l

def packA : List AVal → AVal
  | [v] => v
  | vs => .tuple vs

/-- The call's end: what it made is forgotten, where nothing of it can be reached. -/
def leaveA (v : AVal) (s s' : Hp) : Out × Hp :=
  match idFree v && oldOnly s.heap.length s'.log with
  | true => (.val v, s)
  | false => (.val v, ⟨s'.heap, s'.log ++ s.log⟩)

/-- How a frame leaves: with its results, or with a panic (that a deferred call may have recovered). -/
inductive AMode where
  | ret
  | pan (v : AVal) (rec : Bool)

def settleA : AMode → AMode
  | .pan v r => match r with
    | true => .ret
    | false => .pan v false
  | .ret => .ret

def isRec : Op → Bool
  | .call c => match c.callee with
    | .builtin b => match b with
      | .recover => true
      | _ => false
    | _ => false
  | _ => false
def hasRec : List Oper → Bool
  | [] => false
  | o :: l => match isRec o.op with
    | true => true
    | false => hasRec l

/-- A region of a deferred call's body that recovers. -/
def opsS (P : Program) (ng : Cx) (ops : Array Oper) : List Nat → Tm → AMode → Option (Tm × AMode)
  | [], t, m => some (t, m)
  | i :: l, t, m => match ops[i]? with
    | none => none
    | some o => match o.guard with
      | some _ => none
      | none => match isRec o.op with
        | true => match m with
          | .pan v r => match r with
            | false => opsS P ng ops l (putA t o.dst v) (.pan v true)
            | true => opsS P ng ops l (putA t o.dst .niliface) m
          | .ret => opsS P ng ops l (putA t o.dst .niliface) m
        | false => match pureA P ng t o.op with
          | some r => opsS P ng ops l (putA t o.dst r) m
          | none => none

/-- The code of a deferred call. -/
def codeS (P : Program) (C : CxF) (mb : Bool) (fuel : Nat) (call : CallF) (round : RoundF) : Code → List Fact → Tm → Hp → AMode → Tree ((Ex × Tm × Hp) × AMode)
  | .seq a b, F, t, hp, m => bindT F (codeS P C mb fuel call round a F t hp m) fun F' x => match x with
    | ((.normal, t', hp'), m') => codeS P C mb fuel call round b F' t' hp' m'
    | x => .leaf x
  | .cond c a b, F, t, hp, m => match ev (C F) t c with
    | some (.bool v) => match v with
      | true => codeS P C mb fuel call round a F t hp m
      | false => codeS P C mb fuel call round b F t hp m
    | _ => .dead
  | .block id c, F, t, hp, m => bindT F (codeS P C mb fuel call round c F t hp m) fun _ x => .leaf (blockX id x.1, x.2)
  | .region id ops draw, F, t, hp, m => match hasRec ops.toList with
    | true => match draw with
      | false => match opsS P (C F) ops (List.range ops.size) t m with
        | some (t', m') => .leaf ((.normal, t', hp), m')
        | none => .dead
      | true => .dead
    | false => bindT F (codeT P C mb fuel call round false (.region id ops draw) F t hp) fun _ x => .leaf (x, m)
  | c, F, t, hp, m => bindT F (codeT P C mb fuel call round false c F t hp) fun _ x => .leaf (x, m)

def entryA (args : List AVal) (n : Nat) : Tm := ⟨n, TT.mk args n undefA 12 0 1, []⟩

/-- A deferred call. -/
def dcall (P : Program) (C : CxF) (mb : Bool) (fuel : Nat) (call : CallF) (round : RoundF) (F : List Fact) (f : FuncId) (args : List AVal) (m : AMode) (hp : Hp) : Tree (AMode × Hp) :=
  match P.funcs[f]? with
  | some fn => match fn.body with
    | some c => bindT F (codeS P C mb fuel call round c F (entryA args fn.ntmps) hp m) fun _ x => match x.1.2.1.df with
      | [] => match x.1.1 with
        | .normal => match resA P x.1.2.1 x.1.2.2.heap fn.results.toList with
          | some _ => .leaf (x.2, x.1.2.2)
          | none => .dead
        | .ret => match resA P x.1.2.1 x.1.2.2.heap fn.results.toList with
          | some _ => .leaf (x.2, x.1.2.2)
          | none => .dead
        | _ => .dead
      | _ => .dead
    | none => .dead
  | none => .dead

/-- The deferred calls, one behind the other. -/
def leaveT (P : Program) (C : CxF) (mb : Bool) (fuel : Nat) (call : CallF) (round : RoundF) : List ADef → List Fact → AMode → Hp → Tree (AMode × Hp)
  | [], _, m, hp => .leaf (m, hp)
  | .mark b :: l, F, m, hp => match hp.heap[b]? with
    | some .dfr => leaveT P C mb fuel call round l F m ⟨hp.heap.set b .gone, b :: hp.log⟩
    | _ => .dead
  | .fn fv cap args :: l, F, m, hp => match fv with
    | .func f => match enterA P f (args ++ cap) with
      | some _ => bindT F (dcall P C mb fuel call round F f (args ++ cap) m hp) fun F' x => leaveT P C mb fuel call round l F' (settleA x.1) x.2
      | none => .dead
    | _ => .dead

def exMode : Ex → Option AMode
  | .pan v => some (.pan v false)
  | .exit _ => none
  | .normal => some .ret
  | .ret => some .ret

/-- What a call has come to behind its deferred calls. -/
def endOut (P : Program) (fn : Func) (t : Tm) (s : Hp) (y : AMode × Hp) : Tree (Out × Hp) :=
  match y.1 with
  | .pan v r => match r with
    | false => .leaf (.pan v, ⟨y.2.heap, y.2.log ++ s.log⟩)
    | true => .dead
  | .ret => match resA P t y.2.heap fn.results.toList with
    | some vs => .leaf (leaveA (packA vs) s y.2)
    | none => .dead

def endCall (P : Program) (C : CxF) (mb : Bool) (fuel : Nat) (call : CallF) (round : RoundF) (F : List Fact) (fn : Func) (s : Hp) (x : Ex × Tm × Hp) : Tree (Out × Hp) :=
  match exMode x.1 with
  | some m => bindT F (leaveT P C mb fuel call round x.2.1.df F m x.2.2) fun _ y => endOut P fn x.2.1 s y
  | none => .dead

def callB (P : Program) (C : CxF) (mb : Bool) (fuel : Nat) (call : CallF) (round : RoundF) : CallF := fun F f args hp =>
  match P.funcs[f]? with
  | some fn => match fn.body with
    | some c => mgT (mgO (C F) hp) (mgOP (C F) hp) (mgOr hp) (bindT F (codeT P C mb fuel call round false c F (entryA args fn.ntmps) ⟨hp.heap, []⟩) fun F' x => endCall P C mb fuel call round F' fn hp x)
    | none => .dead
  | none => .dead

def evD (P : Program) (C : CxF) (mb : Bool) (fuel : Nat) : Nat → CallF × RoundF
  | 0 => (fun _ _ _ _ => .dead, fun _ _ _ _ => .dead)
  | d + 1 => (callB P C mb fuel (evD P C mb fuel d).1 (evD P C mb fuel d).2, roundB P C mb fuel (evD P C mb fuel d).1 (evD P C mb fuel d).2)

section
variable {P : Program} {C : CxF} {call : CallF} {round : RoundF} {mb : Bool} {fuel : Nat}

theorem seq_touch {α : Type} {hp hp' : Hp} {f : α → Hp} {T : Tree α} (h : Touch hp hp') (ht : AllT (fun x => Touch hp' (f x)) T) : AllT (fun x => Touch hp (f x)) T := ht.mono fun _ hx => h.trans hx

theorem mgC_all (F : List Fact) (hp : Hp) (g : Inj) (w : World) (a : Act) (T : Tree (Ex × Tm × Hp)) (Q : Ex × Tm × Hp → Prop) (hT : AllT (fun x => Touch hp x.2.2) T) :
    AllT (fun x => Touch hp x.2.2) (mgT (mgC (C F) hp) (mgCP (C F) hp) (fun _ _ => none) T) ∧ (Sat g.sig Q (mgT (mgC (C F) hp) (mgCP (C F) hp) (fun _ _ => none) T) → Sat g.sig (fun x => ∃ y, Q y ∧ WC (C F) hp g w a x y) T) := by
  have := sat_mg (σ := g.sig) (W := WC (C F) hp g w a) (S := fun x => Touch hp x.2.2) (f := mgC (C F) hp) (fp := mgCP (C F) hp) (fo := fun _ _ => none) (fun _ _ _ _ h => h) (fun _ _ _ h k e a w q => k e a w (h e a w q))
    (fun i x y z sx sy h => ⟨(mgC_sound sx sy h).1, ((mgC_sound sx sy h).2 g w a).1, ((mgC_sound sx sy h).2 g w a).2⟩)
    (fun i k x y z sx sy h => ⟨(mgCP_sound sx sy h).1, ((mgCP_sound sx sy h).2 g w a).1, ((mgCP_sound sx sy h).2 g w a).2⟩)
    (fun x y z _ _ h => by cases h) hT
  exact ⟨this.1, this.2 Q⟩

theorem regionT_sound (E : Env P C call round) {id : Nat} {ops : Array Oper} {draw inr : Bool} : CodeOk P C inr (.region id ops draw) (regionT P C call round inr ops draw) := by
  cases draw with
  | false => exact ⟨fun F t hp => opsT_touch E _ F t hp, fun F t hp Q r g w a hr hH ht hs => wpIn_region_list (opsT_sound E.ok E.hooks E.call E.round hr ops.toList F t hp Q g w a hH ht hs)⟩
  | true => exact drawT_sound E 12

theorem codeT_sound (E : Env P C call round) : ∀ (c : Code) (inr : Bool), CodeOk P C inr c (codeT P C mb fuel call round inr c)
  | .skip, inr => ⟨fun _ _ _ => Touch.refl _, fun F t hp Q r g w a _ hH ht hs => wpIn_skip ⟨_, hs, Touch.refl _, g, trivial, hH, Ext.refl _ _ _, ht, rfl⟩⟩
  | .label l, inr => ⟨fun _ _ _ => Touch.refl _, fun F t hp Q r g w a _ hH ht hs => wpIn_label ⟨_, hs, Touch.refl _, g, trivial, hH, Ext.refl _ _ _, ht, rfl⟩⟩
  | .exit i, inr => ⟨fun _ _ _ => Touch.refl _, fun F t hp Q r g w a _ hH ht hs => wpIn_exit ⟨_, hs, Touch.refl _, g, rfl, hH, Ext.refl _ _ _, ht, rfl⟩⟩
  | .ret, inr => ⟨fun _ _ _ => Touch.refl _, fun F t hp Q r g w a _ hH ht hs => wpIn_ret ⟨_, hs, Touch.refl _, g, trivial, hH, Ext.refl _ _ _, ht, rfl⟩⟩
  | .region id ops draw, inr => by
    have hR := regionT_sound E (id := id) (ops := ops) (draw := draw) (inr := inr)
    constructor
    · intro F t hp
      simp only [codeT]
      split
      · exact (mgC_all F hp ⟨fun _ => none, ⟨fun _ => 0, fun _ => false, fun _ => .empty, fun _ _ => 0, fun _ => none⟩, fun _ => none⟩ default { tmps := #[], defers := [] } _ (fun _ => True) (hR.touch F t hp)).1
      · exact hR.touch F t hp
    · intro F t hp Q r g w a hr hH ht hs
      simp only [codeT] at hs
      split at hs
      · have hs := (mgC_all F hp g w a _ Q (hR.touch F t hp)).2 hs
        exact wpIn_mono (hR.wp F t hp _ r g w a hr hH ht hs) fun e a' w' ⟨x, ⟨y, hy, hw⟩, hq⟩ => ⟨y, hy, hw e a' w' hq⟩
      · exact hR.wp F t hp Q r g w a hr hH ht hs
  | .seq x y, inr => by
    have hx := codeT_sound E x inr
    have hy := codeT_sound E y inr
    constructor
    · intro F t hp
      simp only [codeT]
      refine all_bind (Q := fun x => Touch hp x.2.2) ?_ (hx.touch F t hp)
      rintro F' ⟨e, t', hp'⟩ h
      cases e with
      | normal => exact seq_touch h (hy.touch F' t' hp')
      | _ => exact h
    · intro F t hp Q r g w a hr hH ht hs
      simp only [codeT] at hs
      have hs := sat_bind (E.ok.facts hH) hs
      refine wpIn_seq (wpIn_mono (hx.wp F t hp _ r g w a hr hH ht hs) ?_)
      rintro e a' w' ⟨⟨x, t', hp'⟩, ⟨F', hF', q⟩, h0, g', h1, h2, h3, h4, h5⟩
      have hF0 : Holds g'.sig F := by rw [h3.sub.sig]; exact E.ok.facts hH
      cases x with
      | normal =>
        cases e <;> simp only [ExRel] at h1
        exact wpIn_mono (hy.wp F' t' hp' Q r g' w' a' hr (E.ok.move h2 (by rw [h3.sub.sig]; exact hF')) h4 (by rw [h3.sub.sig]; exact q)) fun e a w ⟨x, hx, hq⟩ => ⟨x, hx, (hq.move E.ok hF0).trans hH h0 h3 h5⟩
      | _ => cases e <;> simp only [ExRel] at h1 <;> exact ⟨_, q, h0, g', h1, h2, h3, h4, h5⟩
  | .cond c x y, inr => by
    have hx := codeT_sound E x inr
    have hy := codeT_sound E y inr
    constructor
    · intro F t hp
      simp only [codeT]
      split
      · split
        · exact hx.touch F t hp
        · exact hy.touch F t hp
      · exact ⟨hx.touch _ t hp, hy.touch _ t hp⟩
      · trivial
    · intro F t hp Q r g w a hr hH ht hs
      simp only [codeT] at hs
      split at hs
      · rename_i v hc
        have hv := ht.1.eval hH.sig hH.glob hc
        split at hs
        · exact wpIn_cond_true (rel_bool0 hv) (hx.wp F t hp Q r g w a hr hH ht hs)
        · exact wpIn_cond_false (rel_bool0 hv) (hy.wp F t hp Q r g w a hr hH ht hs)
      · rename_i i hc
        have hv := ht.1.eval hH.sig hH.glob hc
        have hF := E.ok.facts hH
        cases hb : g.sig.bval i with
        | true =>
          have hF' : Holds g.sig (.tru i true :: F) := holds_cons _ hb hF
          refine wpIn_cond_true (by generalize a.eval c = u at hv; cases hv; rw [hb]) (wpIn_mono (hx.wp _ t hp Q r g w a hr (E.ok.move hH hF') ht (hs.1 hb)) fun e a w ⟨x, hx, hq⟩ => ⟨x, hx, hq.move E.ok hF⟩)
        | false =>
          have hF' : Holds g.sig (.tru i false :: F) := holds_cons _ hb hF
          refine wpIn_cond_false (by generalize a.eval c = u at hv; cases hv; rw [hb]) (wpIn_mono (hy.wp _ t hp Q r g w a hr (E.ok.move hH hF') ht (hs.2 hb)) fun e a w ⟨x, hx, hq⟩ => ⟨x, hx, hq.move E.ok hF⟩)
      · exact hs.elim
  | .block id c, inr => by
    have hc := codeT_sound E c inr
    have hX : ∀ (x : Ex × Tm × Hp), (blockX id x).2 = x.2 := by
      rintro ⟨e, t, hp⟩
      unfold blockX
      split
      · rename_i i t' hp' he
        cases he
        split <;> rfl
      · rfl
    have htB : ∀ F t hp, AllT (fun x => Touch hp x.2.2) (bindT F (codeT P C mb fuel call round inr c F t hp) fun _ x => .leaf (blockX id x)) := by
      intro F t hp
      refine all_bind (Q := fun x => Touch hp x.2.2) ?_ (hc.touch F t hp)
      intro F' x h
      show Touch hp (blockX id x).2.2
      rw [hX]; exact h
    have hwB : ∀ F t hp (Q : Ex × Tm × Hp → Prop) (r : Option Nat) g w a, (inr = false → r = none) → HRel (C F) g hp.heap w → FRel g t a → Sat g.sig Q (bindT F (codeT P C mb fuel call round inr c F t hp) fun _ x => .leaf (blockX id x)) →
        (Code.block id c).wpIn (FR r) 0 P (fun e a' w' => ∃ x, Q x ∧ CodeQ (C F) hp g w a x e a' w') a w := by
      intro F t hp Q r g w a hr hH ht hs
      have hs := sat_bind (E.ok.facts hH) hs
      refine wpIn_block (wpIn_mono (hc.wp F t hp _ r g w a hr hH ht hs) ?_)
      rintro e a' w' ⟨⟨x, t', hp'⟩, ⟨F', hF', q⟩, h0, g', h1, h2, h3, h4, h5⟩
      simp only [Sat] at q
      cases x with
      | exit i =>
        cases e <;> simp only [ExRel] at h1
        subst h1
        simp only [blockX] at q
        simp only [Exit.inBlock]
        split at q
        · rename_i hi
          rw [if_pos (Nat.eq_of_beq_eq_true hi)]
          exact ⟨_, q, h0, g', trivial, h2, h3, h4, h5⟩
        · rename_i hi
          rw [if_neg (Nat.ne_of_beq_eq_false hi)]
          exact ⟨_, q, h0, g', rfl, h2, h3, h4, h5⟩
      | normal => cases e <;> simp only [ExRel] at h1 <;> exact ⟨_, q, h0, g', trivial, h2, h3, h4, h5⟩
      | ret => cases e <;> simp only [ExRel] at h1 <;> exact ⟨_, q, h0, g', trivial, h2, h3, h4, h5⟩
      | pan v => cases e <;> simp only [ExRel] at h1 <;> exact ⟨_, q, h0, g', h1, h2, h3, h4, h5⟩
    have mg : ∀ F hp g w a (T : Tree (Ex × Tm × Hp)) (Q : Ex × Tm × Hp → Prop), AllT (fun x => Touch hp x.2.2) T → AllT (fun x => Touch hp x.2.2) (mgT (mgC (C F) hp) (mgCP (C F) hp) (fun _ _ => none) T) ∧ (Sat g.sig Q (mgT (mgC (C F) hp) (mgCP (C F) hp) (fun _ _ => none) T) → Sat g.sig (fun x => ∃ y, Q y ∧ WC (C F) hp g w a x y) T) := by
      intro F hp g w a T Q hT
      have := sat_mg (σ := g.sig) (W := WC (C F) hp g w a) (S := fun x => Touch hp x.2.2) (f := mgC (C F) hp) (fp := mgCP (C F) hp) (fo := fun _ _ => none) (fun _ _ _ _ h => h) (fun _ _ _ h k e a w q => k e a w (h e a w q))
        (fun i x y z sx sy h => ⟨(mgC_sound sx sy h).1, ((mgC_sound sx sy h).2 g w a).1, ((mgC_sound sx sy h).2 g w a).2⟩)
        (fun i k x y z sx sy h => ⟨(mgCP_sound sx sy h).1, ((mgCP_sound sx sy h).2 g w a).1, ((mgCP_sound sx sy h).2 g w a).2⟩)
        (fun x y z _ _ h => by cases h) hT
      exact ⟨this.1, this.2 Q⟩
    cases mb with
    | false => exact ⟨htB, hwB⟩
    | true =>
      constructor
      · intro F t hp
        exact (mg F hp ⟨fun _ => none, ⟨fun _ => 0, fun _ => false, fun _ => .empty, fun _ _ => 0, fun _ => none⟩, fun _ => none⟩ default { tmps := #[], defers := [] } _ (fun _ => True) (htB F t hp)).1
      · intro F t hp Q r g w a hr hH ht hs
        simp only [codeT] at hs
        have hs := (mg F hp g w a _ Q (htB F t hp)).2 hs
        exact wpIn_mono (hwB F t hp _ r g w a hr hH ht hs) fun e a' w' ⟨x, ⟨y, hy, hw⟩, hq⟩ => ⟨y, hy, hw e a' w' hq⟩
  | .loop c, inr => by
    have hc := codeT_sound E c inr
    have := loopT_sound E hc fuel
    exact ⟨this.1, fun F t hp Q r g w a hr hH ht hs => wpIn_loop_rounds fuel (this.2 F t hp Q r g w a hr hH ht hs)⟩
  | .rangeFunc f ps asg body, inr => by
    cases inr with
    | true => exact ⟨fun _ _ _ => trivial, fun _ _ _ _ _ _ _ _ _ _ _ h => h.elim⟩
    | false => exact rangeT_sound E
  | .scope _, inr => ⟨fun _ _ _ => trivial, fun _ _ _ _ _ _ _ _ _ _ _ h => h.elim⟩
  | .goto _, inr => ⟨fun _ _ _ => trivial, fun _ _ _ _ _ _ _ _ _ _ _ h => h.elim⟩
  | .refuse _, inr => ⟨fun _ _ _ => trivial, fun _ _ _ _ _ _ _ _ _ _ _ h => h.elim⟩
where rel_bool0 {g : Inj} {b : Bool} {u : Value} (h : VRel g (.bool b) u) : u = .bool b := by cases h; rfl

end
end Go.Ev
