/- The evaluator: operations, regions. -/
import Derived.Test.YtgifnmiggloclaaEvL
namespace Go.Ev

/-- What is told to the evaluator, where it cannot reckon: a value in another form; what an operation, a call, a loop comes to. -/
inductive Dec where
  | val (v : AVal)
  | res (v : AVal) (hp : Hp)
  | call (o : Out) (hp : Hp)
  | loop (x : Ex) (t : Tm) (hp : Hp)

/-- The heap, what is told (how many places are passed by ahead of each), and what is to be shown of it. -/
structure St where
  hp : Hp
  orc : List (Nat × Dec)
  cnd : List Prop

def AllP : List Prop → Prop
  | [] => True
  | p :: l => p ∧ AllP l

inductive KA where
  | pure | load | fresh | eff

def kindA (P : Program) : Op → KA
  | .load _ _ => .load
  | .alloc _ => .fresh
  | .box _ _ => .fresh
  | .buildSlice _ _ _ => .fresh
  | .makeSlice _ _ _ => .fresh
  | .store _ _ _ => .eff
  | .makeMap _ _ => .eff
  | .insert _ _ _ _ => .eff
  | .mapUpdate _ _ _ _ => .eff
  | .lookup _ _ _ _ => .load
  | .convert s d _ => match P.underlying s, P.underlying d with
    | some .string, some (.slice _) => .fresh
    | some (.slice _), some .string => .load
    | _, _ => .pure
  | .call c => match c.callee with
    | .builtin .append => .eff
    | .builtin .copy => .eff
    | _ => .pure
  | _ => .pure

def isCallA : Op → Option Call
  | .call c => match c.callee with
    | .value _ => some c
    | .invoke _ _ => some c
    | _ => none
  | _ => none

def opA (P : Program) (ng : Cx) (t : Tm) (op : Op) (hp : Hp) : Option (AVal × Hp) :=
  match kindA P op with
  | .pure => match pureA P ng t op with
    | some v => some (v, hp)
    | none => none
  | .load => match loadA P ng t op hp.heap with
    | some x => some (x.1, hp)
    | none => none
  | .fresh => match freshA P ng t op with
    | some (c, e, m) => some (m.val hp.heap.length, ⟨hp.heap ++ [.cells c e], hp.log⟩)
    | none => none
  | .eff => effA P ng t op hp

def fin (r : Option (AVal × Hp)) (s : St) : Option (AVal × St) :=
  match s.orc with
  | [] => match r with
    | some x => some (x.1, ⟨x.2, [], s.cnd⟩)
    | none => none
  | (0, d) :: q => match d with
    | .val v => match r with
      | some x => some (v, ⟨x.2, q, (x.1 = v) :: s.cnd⟩)
      | none => none
    | .res v hp => some (v, ⟨hp, q, (r = some (v, hp)) :: s.cnd⟩)
    | _ => none
  | (n + 1, d) :: q => match r with
    | some x => some (x.1, ⟨x.2, (n, d) :: q, s.cnd⟩)
    | none => none

theorem fin_spec {r : Option (AVal × Hp)} {s s' : St} {v : AVal} (h : fin r s = some (v, s')) (hc : AllP s'.cnd) : r = some (v, s'.hp) ∧ AllP s.cnd := by
  unfold fin at h
  split at h
  · split at h
    · cases h; exact ⟨rfl, hc⟩
    · cases h
  · split at h
    · split at h
      · rename_i x
        cases h
        obtain ⟨h1, h2⟩ := hc
        exact ⟨by rw [← h1], h2⟩
      · cases h
    · cases h; exact ⟨hc.1, hc.2⟩
    · cases h
  · split at h
    · cases h; exact ⟨rfl, hc⟩
    · cases h

abbrev CallF := FuncId → List AVal → St → Option (Out × St)

/-- What is said of calls ahead. -/
def Hooks (P : Program) (ng : Cx) : Prop := ∀ f args v, ng.hook f args = some v → ∀ hp, CallP P ng f args hp (.val v) hp

def CallSound (P : Program) (ng : Cx) (call : CallF) : Prop := Hooks P ng ∧ ∀ f args s o s', call f args s = some (o, s') → AllP s'.cnd → CallP P ng f args s.hp o s'.hp ∧ AllP s.cnd

def callStep (P : Program) (ng : Cx) (call : CallF) (f : FuncId) (args : List AVal) (s : St) : Option (Out × St) :=
  match ng.hook f args with
  | some v => some (.val v, s)
  | none => match s.orc with
  | [] => call f args s
  | (0, d) :: q => match d with
    | .call o hp => some (o, ⟨hp, q, CallP P ng f args s.hp o hp :: s.cnd⟩)
    | _ => none
  | (n + 1, d) :: q => call f args ⟨s.hp, (n, d) :: q, s.cnd⟩

theorem callStep_spec {P : Program} {ng : Cx} {call : CallF} (hs : CallSound P ng call) {f : FuncId} {args : List AVal} {s s' : St} {o : Out} (h : callStep P ng call f args s = some (o, s')) (hc : AllP s'.cnd) :
    CallP P ng f args s.hp o s'.hp ∧ AllP s.cnd := by
  unfold callStep at h
  split at h
  · rename_i v hv
    cases h
    exact ⟨hs.1 f args v hv _, hc⟩
  split at h
  · exact hs.2 _ _ _ _ _ h hc
  · split at h
    · cases h; exact ⟨hc.1, hc.2⟩
    · cases h
  · have := hs.2 f args _ o s' h hc
    exact this

def stepA (P : Program) (ng : Cx) (call : CallF) (all : List Oper) (o : Oper) (t : Tm) (s : St) : Option (Out × St) :=
  match wantedA all t o with
  | none => none
  | some false => some (.val undefA, s)
  | some true => match isCallA o.op with
    | some c => match resolveA P ng t c with
      | some (f, args) => callStep P ng call f args s
      | none => none
    | none => match fin (opA P ng t o.op s.hp) s with
      | some (v, s') => some (.val v, s')
      | none => none

theorem opA_step {P : Program} {ng : Cx} {t : Tm} {all : List Oper} {o : Oper} {hp hp' : Hp} {v : AVal} (hw : wantedA all t o = some true) (h : opA P ng t o.op hp = some (v, hp')) : Step P ng all o t hp v hp' := by
  unfold opA at h
  split at h
  · split at h
    · rename_i h'; cases h; exact .pure _ hw h'
    · cases h
  · split at h
    · rename_i x h'; cases h; obtain ⟨a, b⟩ := x; exact .load _ b hw h'
    · cases h
  · split at h
    · rename_i h'; cases h; exact .fresh _ _ _ hw h'
    · cases h
  · exact .eff _ _ hw h

theorem isCallA_spec {op : Op} {c : Call} (h : isCallA op = some c) : op = .call c := by
  unfold isCallA at h
  split at h
  · split at h
    · cases h; rfl
    · cases h; rfl
    · cases h
  · cases h

def opsA (P : Program) (ng : Cx) (call : CallF) (all : List Oper) : List Oper → Tm → St → Option (Ex × Tm × St)
  | [], t, s => some (.normal, t, s)
  | o :: rest, t, s => match stepA P ng call all o t s with
    | some (.val v, s') => opsA P ng call all rest (putA t o.dst v) s'
    | some (.pan v, s') => some (.pan v, t, s')
    | none => none

def ExRel (g : Inj) : Ex → Exit → Prop
  | .normal, .normal => True
  | .exit i, .exit j => i = j
  | .ret, .ret => True
  | .pan v, .panic ch => ∃ u, ch = [{ v := u, recovered := false }] ∧ VRel g v u
  | _, _ => False

def CodeQ (ng : Cx) (hp : Hp) (x : Ex) (t' : Tm) (hp' : Hp) (g : Inj) (w : World) (a : Act) (e : Exit) (a' : Act) (w' : World) : Prop :=
  ∃ g', ExRel g' x e ∧ HRel ng g' hp'.heap w' ∧ Ext g hp.heap w g' hp'.heap w' ∧ TRel g' t' a' ∧ a'.tmps.size = a.tmps.size ∧ a'.defers = a.defers

theorem CodeQ.trans {ng : Cx} {hp hp' hp'' : Hp} {x : Ex} {t'' : Tm} {g g' : Inj} {w w' : World} {a a' : Act} {e : Exit} {a'' : Act} {w'' : World} (h0 : HRel ng g hp.heap w) (hE : Ext g hp.heap w g' hp'.heap w')
    (hs : a'.tmps.size = a.tmps.size) (hd : a'.defers = a.defers) (h : CodeQ ng hp' x t'' hp'' g' w' a' e a'' w'') : CodeQ ng hp x t'' hp'' g w a e a'' w'' := by
  obtain ⟨g'', h1, h2, h3, h4, h5, h6⟩ := h
  exact ⟨g'', h1, h2, hE.trans h0 h3, h4, h5.trans hs, h6.trans hd⟩

theorem put_size (a : Act) (d : Option Tmp) (u : Value) : (a.put d u).tmps.size = a.tmps.size ∧ (a.put d u).defers = a.defers := by cases d <;> simp [Act.put]

theorem opsA_sound {P : Program} {ng : Cx} {call : CallF} (hcall : CallSound P ng call) {ops : Array Oper} : ∀ (rest : List Oper) (t : Tm) (s : St) (x : Ex) (t' : Tm) (s' : St), opsA P ng call ops.toList rest t s = some (x, t', s') → AllP s'.cnd →
    AllP s.cnd ∧ Touch s.hp s'.hp ∧ ∀ g w a, HRel ng g s.hp.heap w → TRel g t a → wpList P ops (CodeQ ng s.hp x t' s'.hp g w a) rest a w
  | [], t, s, x, t', s', h, hc => by
    simp only [opsA] at h; cases h
    exact ⟨hc, Touch.refl _, fun g w a hH ht => ⟨g, trivial, hH, Ext.refl _ _ _, ht, rfl, rfl⟩⟩
  | o :: rest, t, s, x, t', s', h, hc => by
    simp only [opsA] at h
    -- a step that is one of Step's
    have go : ∀ (v : AVal) (s1 : St), opsA P ng call ops.toList rest (putA t o.dst v) s1 = some (x, t', s') → (AllP s1.cnd → Step P ng ops.toList o t s.hp v s1.hp ∧ AllP s.cnd) →
        AllP s.cnd ∧ Touch s.hp s'.hp ∧ ∀ g w a, HRel ng g s.hp.heap w → TRel g t a → wpList P ops (CodeQ ng s.hp x t' s'.hp g w a) (o :: rest) a w := by
      intro v s1 h1 hstep
      obtain ⟨c1, k1, k2⟩ := opsA_sound hcall rest _ s1 x t' s' h1 hc
      obtain ⟨hst, c0⟩ := hstep c1
      refine ⟨c0, hst.touch.trans k1, fun g w a hH ht => ?_⟩
      refine wpList_step fun K hK => ?_
      refine hst.wp hH ht fun g' u w' hv hH' hE => hK _ _ ?_
      have ht' : TRel g' (putA t o.dst v) (a.put o.dst u) := (ht.mono hE.sub).put o.dst hv
      have := k2 g' w' (a.put o.dst u) hH' ht'
      have hps := put_size a o.dst u
      have mono : ∀ (l : List Oper) (Q Q' : Exit → Act → World → Prop) (b : Act) (w2 : World), (∀ e a w, Q e a w → Q' e a w) → wpList P ops Q l b w2 → wpList P ops Q' l b w2 := by
        intro l
        induction l with
        | nil => intro Q Q' b w2 hq h; exact hq _ _ _ h
        | cons q l ih =>
          intro Q Q' b w2 hq h
          unfold wpList at h ⊢
          split
          · rename_i hw
            rw [if_pos hw] at h
            rcases h with h | ⟨h, a0, w0, hQ⟩
            · left
              unfold Oper.wp at h ⊢
              generalize (execOp b.eval q).run P w2 = r at h ⊢
              cases r with
              | ok n w' =>
                cases n <;> simp only [Oper.upon] at h ⊢ <;> first
                  | exact ih Q Q' _ _ hq h
                  | exact Calls.mono h (fun e w'' he => by
                      cases e with
                      | returned v => exact ih Q Q' _ _ hq he
                      | panicked ch => exact hq _ _ _ he
                      | outgrown => obtain ⟨a1, w1, h1⟩ := he; exact ⟨a1, w1, hq _ _ _ h1⟩)
                  | exact Rows.mono h (fun _ _ he => ih Q Q' _ _ hq he)
              | halt x w' => cases x <;> simp only [Oper.upon] at h ⊢ <;> exact hq _ _ _ h
            · exact .inr ⟨h, a0, w0, hq _ _ _ hQ⟩
          · rename_i hw
            rw [if_neg hw] at h
            exact ih Q Q' _ _ hq h
      exact mono rest _ _ _ _ (fun e a'' w'' hq => CodeQ.trans hH hE hps.1 hps.2 hq) this
    cases hs : stepA P ng call ops.toList o t s with
    | none => rw [hs] at h; cases h
    | some r =>
      obtain ⟨out, s1⟩ := r
      rw [hs] at h
      unfold stepA at hs
      split at hs
      · cases hs
      · rename_i hw
        cases hs
        exact go undefA _ h fun c => ⟨.skip hw, c⟩
      · rename_i hw
        split at hs
        · rename_i c hcl
          split at hs
          · rename_i f args hres
            cases out with
            | val v =>
              exact go v s1 h fun c1 => by
                obtain ⟨k1, k2⟩ := callStep_spec hcall hs c1
                exact ⟨.call c f args v _ hw (isCallA_spec hcl) hres k1, k2⟩
            | pan v =>
              simp only at h; cases h
              obtain ⟨k1, k2⟩ := callStep_spec hcall hs hc
              refine ⟨k2, k1.touch, fun g w a hH ht => ?_⟩
              refine wpList_step fun K hK => ?_
              rw [wantedA_spec hw ht, if_pos rfl]
              have hρ : ERel g ng t a.eval := ⟨fun x v hv => ht.eval hH.sig hH.glob hv, hH.sig⟩
              obtain ⟨args', h1, h2⟩ := resolveA_sound (P := P) (w := w) (type := o.type) hρ hres
              have h1' : (execOp a.eval o).run P w = .ok (.enter f args') w := by
                obtain ⟨dst, op, type, pos, after, guard⟩ := o
                have hop := isCallA_spec hcl
                simp only at hop h1
                subst hop
                exact h1
              simp only [Oper.wp, h1', Oper.upon]
              refine (k1.calls g w args' hH h2).mono ?_
              rintro e w' ⟨g', ⟨u, rfl, hu⟩, hH', hE⟩
              exact ⟨g', ⟨u, rfl, hu⟩, hH', hE, ht.mono hE.sub, rfl, rfl⟩
          · cases hs
        · split at hs
          · rename_i v s2 hf
            cases hs
            exact go v s1 h fun c1 => by
              obtain ⟨k1, k2⟩ := fin_spec hf c1
              exact ⟨opA_step hw k1, k2⟩
          · cases hs

end Go.Ev
