/- One operation after the other: what a step is, and that it is the model's. -/
import Derived.Test.YtgifnmiggloclaaEvI
namespace Go.Ev

/-- Effects that are no calls. -/
def effA (P : Program) (ng : Nat) (t : Tm) (op : Op) (hp : Hp) : Option (AVal × Hp) :=
  match op with
  | .store ty a x => match ev ng t a, ev ng t x with
    | some av, some xv => match storeV P ty av xv hp with
      | some hp' => some (undefA, hp')
      | none => none
    | _, _ => none
  | .call c => match c.callee with
    | .builtin .append => match evL ng t c.args.toList with
      | some l => appendA P c.argTypes.toList l hp
      | none => none
    | .builtin .copy => match evL ng t c.args.toList with
      | some l => copyA P c.argTypes.toList l hp
      | none => none
    | _ => none
  | _ => none

inductive Out where
  | val (v : AVal)
  | pan (v : AVal)

inductive Ex where
  | normal
  | exit (id : Nat)
  | ret
  | pan (v : AVal)

/-- What was there and is not in the list of what was written is as it was. -/
structure Touch (hp hp' : Hp) : Prop where
  len : hp.heap.length ≤ hp'.heap.length
  log : ∃ pre, hp'.log = pre ++ hp.log ∧ ∀ i, i < hp.heap.length → i ∉ pre → hp'.heap[i]? = hp.heap[i]?
  live : ∀ i, i < hp.heap.length → Live hp'.heap i → Live hp.heap i

theorem Touch.refl (hp : Hp) : Touch hp hp := ⟨Nat.le_refl _, ⟨[], by simp, fun _ _ _ => rfl⟩, fun _ _ h => h⟩
theorem Touch.trans {a b c : Hp} (h : Touch a b) (h' : Touch b c) : Touch a c := by
  obtain ⟨p, hp, h1⟩ := h.log
  obtain ⟨q, hq, h2⟩ := h'.log
  refine ⟨Nat.le_trans h.len h'.len, ⟨q ++ p, by rw [hq, hp, List.append_assoc], fun i hi hn => ?_⟩, fun i hi hl => h.live i hi (h'.live i (Nat.lt_of_lt_of_le hi h.len) hl)⟩
  simp only [List.mem_append, not_or] at hn
  exact (h2 i (Nat.lt_of_lt_of_le hi h.len) hn.1).trans (h1 i hi hn.2)

def OutRel (g : Inj) (o : Out) (e : Ending) : Prop :=
  match o with
  | .val v => ∃ u, e = .returned u ∧ VRel g v u
  | .pan v => ∃ u, e = .panicked [{ v := u, recovered := false }] ∧ VRel g v u

/-- A call, on the abstract heap: what it gives, and what the heap is then. -/
structure CallP (P : Program) (ng : Nat) (f : FuncId) (args : List AVal) (hp : Hp) (o : Out) (hp' : Hp) : Prop where
  touch : Touch hp hp'
  calls : ∀ g w args', HRel ng g hp.heap w → LRel g args args'.toList → Calls P f args' w fun e w' => ∃ g', OutRel g' o e ∧ HRel ng g' hp'.heap w' ∧ Ext g hp.heap w g' hp'.heap w'

def wantedA (ops : List Oper) (t : Tm) (o : Oper) : Option Bool :=
  match o.guard with
  | none => some true
  | some (j, want) => match ops[j]? with
    | none => some false
    | some q => match q.dst with
      | none => some false
      | some d => match t[d]? with
        | none => none
        | some none => none
        | some (some (.bool b)) => some (b == want)
        | some (some _) => some false

def putA (t : Tm) (d : Option Tmp) (v : AVal) : Tm :=
  match d with
  | some d => t.set d (some v)
  | none => t

/-- Which function is called, with which arguments. -/
def resolveA (P : Program) (ng : Nat) (t : Tm) (c : Call) : Option (FuncId × List AVal) :=
  match c.callee with
  | .value f => match ev ng t f, evL ng t c.args.toList with
    | some (.func (.func k) first cap), some l => match P.funcs[k]? with
      | some fn => if fn.body.isSome = true ∧ ¬ (fn.name == "runtime.NumGoroutine") = true then some (k, first ++ l ++ cap) else none
      | none => none
    | _, _ => none
  | _ => none

/-- One operation, on the abstract heap. 'id' is the slot that a new block takes. -/
inductive Step (P : Program) (ng : Nat) (ops : List Oper) (o : Oper) (t : Tm) (hp : Hp) : AVal → Hp → Prop
  | skip : wantedA ops t o = some false → Step P ng ops o t hp undefA hp
  | pure (v : AVal) : wantedA ops t o = some true → pureA P ng t o.op = some v → Step P ng ops o t hp v hp
  | load (v : AVal) (b : Option Nat) : wantedA ops t o = some true → loadA P ng t o.op hp.heap = some (v, b) → Step P ng ops o t hp v hp
  | fresh (c : List AVal) (e : TypeId) (m : Mk) : wantedA ops t o = some true → freshA P ng t o.op = some (c, e, m) → Step P ng ops o t hp (m.val hp.heap.length) ⟨hp.heap ++ [.cells c e], hp.log⟩
  | eff (v : AVal) (hp' : Hp) : wantedA ops t o = some true → effA P ng t o.op hp = some (v, hp') → Step P ng ops o t hp v hp'
  | call (c : Call) (f : FuncId) (args : List AVal) (v : AVal) (hp' : Hp) : wantedA ops t o = some true → o.op = .call c → resolveA P ng t c = some (f, args) → CallP P ng f args hp (.val v) hp' → Step P ng ops o t hp v hp'

section
variable {P : Program} {g : Inj} {ng : Nat} {t : Tm} {ρ : Operand → Value} {H : List Blk} {w : World} {hp hp' : Hp}

theorem appendA_sound (hH : HRel ng g hp.heap w) {ts : Array TypeId} {ty : TypeId} {l : List AVal} {m : Array Value} {r : AVal} (h : appendA P ts.toList l hp = some (r, hp')) (hl : LRel g l m.toList) :
    ∃ v w' g', (Builtin.append_ ts ty m).run P w = .ok v w' ∧ VRel g' r v ∧ After P g ng hp hp' w w' g' := by
  unfold appendA at h
  split at h
  · rename_i tt xt s x e1
    obtain ⟨ts⟩ := ts
    obtain ⟨m⟩ := m
    simp at e1; subst e1
    cases hl with
    | cons _ su _ _ hs hl => cases hl with
      | cons _ xu _ _ hx hl =>
        cases hl
        split at h
        · rename_i e dx hu hxu
          split at h
          · rename_i ie z xl hie hz hxl
            split at h
            · rename_i hc
              split at h
              · rename_i cs hcs
                obtain ⟨vs, k1, k2, k3, k4, k5⟩ := run_cellsA (P := P) hH hcs hx (fun hh => lenV_nil hxl hh)
                exact appendTo_sound hH hu hxu hc.1 hie hz hc.2.1 hc.2.2 (lenV_spec hxl hx) k1 k2 k3 k4 k5 h hs
              · cases h
            · cases h
          · cases h
        · cases h
  · cases h

theorem effA_sound (hH : HRel ng g hp.heap w) (hρ : ERel g ng t ρ) {o : Oper} {r : AVal} (h : effA P ng t o.op hp = some (r, hp')) :
    ∃ v w' g', ((execOp ρ o).run P w = .ok (.value v) w' ∨ ((execOp ρ o).run P w = .ok .skip w' ∧ v = undef)) ∧ VRel g' r v ∧ After P g ng hp hp' w w' g' := by
  obtain ⟨dst, op, type, pos, after, guard⟩ := o
  simp only at h
  unfold effA at h
  split at h
  · rename_i ty a x
    split at h
    · rename_i av xv ha hx
      split at h
      · rename_i hp2 hs
        cases h
        obtain ⟨w', h1, h2, h3⟩ := storeV_sound (P := P) hH hs (hρ a _ ha) (hρ x _ hx)
        exact ⟨undef, w', g, .inr ⟨by simp [execOp, h1], rfl⟩, .tuple _ _ .nil, h2, h3⟩
      · cases h
    · cases h
  · rename_i c
    split at h
    · rename_i hc
      split at h
      · rename_i l hl
        obtain ⟨v, w', g', h1, h2, h3⟩ := appendA_sound (P := P) (ty := type) (m := c.args.map ρ) hH h (by simpa using evL_rel hρ _ _ hl)
        exact ⟨v, w', g', .inl (by simp [execOp, resolve, hc, invoke, builtin, h1]), h2, h3⟩
      · cases h
    · rename_i hc
      split at h
      · rename_i l hl
        obtain ⟨v, w', h1, h2, h3⟩ := copyA_sound (P := P) (ty := type) (m := c.args.map ρ) hH h (by simpa using evL_rel hρ _ _ hl)
        exact ⟨v, w', g, .inl (by simp [execOp, resolve, hc, invoke, builtin, h1]), h2, h3⟩
      · cases h
    · cases h
  · cases h

theorem set_touch {hp : Hp} {b : Nat} {k : Blk} {c : List AVal} {e : TypeId} (hb : hp.heap[b]? = some (.cells c e)) : Touch hp ⟨hp.heap.set b k, b :: hp.log⟩ :=
  ⟨by simp, ⟨[b], rfl, fun i _ hn => by simp at hn; exact List.getElem?_set_ne (fun e => hn e.symm)⟩, fun i _ ⟨k', hk, hne⟩ => by
    simp only [List.getElem?_set] at hk
    split at hk
    · rename_i hbi; subst hbi; exact ⟨_, hb, by simp⟩
    · exact ⟨k', hk, hne⟩⟩

theorem app_touch {hp : Hp} {k : Blk} : Touch hp ⟨hp.heap ++ [k], hp.log⟩ :=
  ⟨by simp, ⟨[], rfl, fun i hi _ => List.getElem?_append_left hi⟩, fun i hi ⟨k', hk, hne⟩ => ⟨k', by simpa only [List.getElem?_append_left hi] using hk, hne⟩⟩

theorem effA_touch {o : Op} {r : AVal} (h : effA P ng t o hp = some (r, hp')) : Touch hp hp' := by
  unfold effA at h
  split at h
  · split at h
    · split at h
      · rename_i hs
        cases h
        unfold storeV at hs
        split at hs
        · split at hs
          · split at hs
            · split at hs
              · split at hs
                · cases hs; exact set_touch (by assumption)
                · cases hs
              · cases hs
            · cases hs
          · cases hs
        · cases hs
      · cases h
    · cases h
  · split at h
    · split at h
      · unfold appendA at h
        split at h
        · split at h
          · split at h
            · split at h
              · split at h
                · unfold appendTo at h
                  split at h
                  · split at h
                    · cases h; exact Touch.refl _
                    · split at h
                      · cases h; exact app_touch
                      · cases h
                  · split at h
                    · split at h
                      · cases h; exact Touch.refl _
                      · split at h
                        · split at h
                          · cases h; exact set_touch (by assumption)
                          · cases h
                        · cases h
                    · split at h
                      · split at h
                        · split at h
                          · cases h; exact app_touch
                          · split at h
                            · split at h
                              · cases h; exact Touch.trans (set_touch (by assumption)) app_touch
                              · cases h
                            · cases h
                        · cases h
                      · cases h
                  · cases h
                · cases h
              · cases h
            · cases h
          · cases h
        · cases h
      · cases h
    · split at h
      · unfold copyA at h
        split at h
        · split at h
          · split at h
            · split at h
              · split at h
                · cases h; exact Touch.refl _
                · split at h
                  · cases h; exact Touch.refl _
                  · split at h
                    · split at h
                      · cases h; exact set_touch (by assumption)
                      · cases h
                    · cases h
                · cases h
              · cases h
            · cases h
          · cases h
        · cases h
      · cases h
    · cases h
  · cases h

theorem Step.touch {ops : List Oper} {o : Oper} {v : AVal} (h : Step P ng ops o t hp v hp') : Touch hp hp' := by
  cases h with
  | skip => exact Touch.refl _
  | pure => exact Touch.refl _
  | load => exact Touch.refl _
  | fresh => exact app_touch
  | eff _ _ _ h => exact effA_touch h
  | call _ _ _ _ _ _ _ _ h => exact h.touch

theorem TRel.put {a : Act} (h : TRel g t a) (d : Option Tmp) {v : AVal} {u : Value} (hv : VRel g v u) : TRel g (putA t d v) (a.put d u) := by
  cases d with
  | none => exact h
  | some d =>
    refine ⟨by simpa [putA, Act.put] using h.1, ?_⟩
    intro i x hi
    simp only [putA] at hi
    rw [List.getElem?_set] at hi
    split at hi
    · rename_i hdi
      split at hi
      · rename_i hlt
        cases hi
        subst hdi
        refine ⟨u, ?_, hv⟩
        have hlt' := Nat.lt_of_lt_of_le hlt h.1
        simp [Act.put, hlt']
      · cases hi
    · rename_i hdi
      obtain ⟨y, h1, h2⟩ := h.2 i x hi
      refine ⟨y, ?_, h2⟩
      simp only [Act.put]
      rw [Array.getElem?_setIfInBounds_ne hdi]
      exact h1

theorem wantedA_spec {ops : Array Oper} {o : Oper} {a : Act} {b : Bool} (h : wantedA ops.toList t o = some b) (ht : TRel g t a) : Region.wanted o (yielded ops a.tmps) = b := by
  unfold wantedA at h
  unfold Region.wanted
  split at h
  · rename_i hg; cases h; rw [hg]
  · rename_i j want hg
    rw [hg]
    simp only
    unfold yielded
    split at h
    · rename_i hj
      cases h
      have : ops[j]? = none := by simpa using hj
      simp [this]
    · rename_i q hq
      have hq' : ops[j]? = some q := by simpa using hq
      split at h
      · rename_i hd
        cases h
        simp [hq', hd]
      · rename_i d hd
        split at h
        · cases h
        · cases h
        · rename_i bb hb
          cases h
          obtain ⟨u, h1, h2⟩ := ht.2 d _ hb
          cases h2
          simp only [hq', hd, Option.bind_some, h1]
          cases bb <;> cases want <;> rfl
        · rename_i x hne hx
          cases h
          obtain ⟨u, h1, h2⟩ := ht.2 d _ hx
          simp only [hq', hd, Option.bind_some, h1]
          cases h2 <;> first | rfl | (exact absurd rfl (hne _))

theorem callFunc_run {f : FuncId} {fn : Func} (hf : P.funcs[f]? = some fn) (hb : fn.body.isSome = true) (hn : ¬ (fn.name == "runtime.NumGoroutine") = true) (args : Array Value) (w : World) :
    (callFunc f args).run P w = .ok (.enter f args) w := by
  have hb' : fn.body.isNone = false := by cases h : fn.body <;> simp [h] at hb ⊢
  simp only [callFunc, Sem.run_bind, run_program, Result.andThen_ok, hf]
  rw [if_neg hn, hb']
  simp

theorem resolveA_sound {c : Call} {type : TypeId} {f : FuncId} {args : List AVal} (hρ : ERel g ng t ρ) (h : resolveA P ng t c = some (f, args)) :
    ∃ args' : Array Value, (do let d ← resolve ρ c type; invoke d.target d.args : Sem Next).run P w = .ok (.enter f args') w ∧ LRel g args args'.toList := by
  unfold resolveA at h
  split at h
  · rename_i fo hc
    split at h
    · rename_i k first cap l hf hl
      split at h
      · rename_i fn hfn
        split at h
        · rename_i hcond
          cases h
          have h1 := hρ fo _ hf
          cases hh : ρ fo <;> rw [hh] at h1 <;> cases h1
          rename_i first' cap' hfirst hcap
          refine ⟨first' ++ c.args.map ρ ++ cap', ?_, ?_⟩
          · have := callFunc_run (P := P) hfn hcond.1 hcond.2 (first' ++ c.args.map ρ ++ cap') w
            simp [resolve, hc, hh, Deferred.ofValue, invoke] at this ⊢
            exact this
          · have := (hfirst.append (evL_rel hρ _ _ hl)).append hcap
            simpa using this
        · cases h
      · cases h
    · cases h
  · cases h

/-- A step, in the model: under whatever follows it. -/
theorem Step.wp {ops : Array Oper} {o : Oper} {v : AVal} {a : Act} {K : Act → World → Prop} {Q : Exit → Act → World → Prop} (h : Step P ng ops.toList o t hp v hp') (hH : HRel ng g hp.heap w) (ht : TRel g t a)
    (hK : ∀ g' u w', VRel g' v u → HRel ng g' hp'.heap w' → Ext g hp.heap w g' hp'.heap w' → K (a.put o.dst u) w') :
    if Region.wanted o (yielded ops a.tmps) then o.wp P a w K Q else K (a.put o.dst undef) w := by
  have hρ : ERel g ng t a.eval := fun x v hv => ht.eval hH.glob hv
  cases h with
  | skip hw => rw [wantedA_spec hw ht]; exact hK g undef w (.tuple _ _ .nil) hH (Ext.refl _ _ _)
  | pure v hw h =>
    rw [wantedA_spec hw ht, if_pos rfl]
    obtain ⟨u, h1, h2⟩ := pureA_sound (P := P) w hρ h
    simp only [Oper.wp, h1, Oper.upon]
    exact hK g u w h2 hH (Ext.refl _ _ _)
  | load v b hw h =>
    rw [wantedA_spec hw ht, if_pos rfl]
    obtain ⟨u, h1, h2⟩ := loadA_sound (P := P) hH hρ h
    simp only [Oper.wp, h1, Oper.upon]
    exact hK g u w h2 hH (Ext.refl _ _ _)
  | fresh c e m hw h =>
    rw [wantedA_spec hw ht, if_pos rfl]
    obtain ⟨u, C, fr, w0, hF⟩ := freshA_sound (P := P) (g := g) (w := w) hρ h
    simp only [Oper.wp, hF.run, Oper.upon]
    have hid : g hp.heap.length = none := by
      cases hg : g hp.heap.length with
      | none => rfl
      | some M => have := (hH.dom _ M hg).1; omega
    have hng : ng ≤ hp.heap.length := by
      rcases Nat.lt_or_ge hp.heap.length ng with h9 | h9
      · obtain ⟨L, hL, _⟩ := hH.glob _ h9
        rw [hid] at hL; cases hL
      · exact h9
    have := HRel.alloc hH (H' := hp.heap ++ [.cells c e]) hid hng (c := c) (e := e) (C := C) (fr := fr) hF.heap hF.os hF.tape hF.output (by simp) (by
      intro j hj
      rcases Nat.lt_or_ge j hp.heap.length with h9 | h9
      · rw [List.getElem?_append_left h9]
      · rw [List.getElem?_append_right h9, List.getElem?_eq_none h9]
        have : j - hp.heap.length ≠ 0 := by omega
        simp [this]) (by simp) (.inl (Nat.le_refl _)) hF.fr hF.len hF.rel
    exact hK _ u _ (hF.val _ _ (upd_same _ _ _)) this.1 (this.2 (Nat.le_refl _))
  | eff v _ hw h =>
    rw [wantedA_spec hw ht, if_pos rfl]
    obtain ⟨u, w', g', h1, h2, h3⟩ := effA_sound (P := P) hH hρ h
    rcases h1 with h1 | ⟨h1, rfl⟩
    · simp only [Oper.wp, h1, Oper.upon]
      exact hK g' u w' h2 h3.rel h3.ext
    · simp only [Oper.wp, h1, Oper.upon]
      exact hK g' _ w' h2 h3.rel h3.ext
  | call c f args v _ hw hop hres hcall =>
    rw [wantedA_spec hw ht, if_pos rfl]
    obtain ⟨args', h1, h2⟩ := resolveA_sound (P := P) (w := w) (type := o.type) hρ hres
    have h1' : (execOp a.eval o).run P w = .ok (.enter f args') w := by
      obtain ⟨dst, op, type, pos, after, guard⟩ := o
      simp only at hop h1
      subst hop
      exact h1
    simp only [Oper.wp, h1', Oper.upon]
    refine (hcall.calls g w args' hH h2).mono ?_
    rintro e w' ⟨g', ⟨u, rfl, hu⟩, hH', hE⟩
    exact hK g' u w' hu hH' hE
end
end Go.Ev
