/- Code, calls, ranges over functions: the proofs. -/
import Derived.Test.YtlhaklmnjdgjgacGreatEwQ
namespace Go.Ev

section
variable {P : Program} {C : CxF} {call : CallF} {round : RoundF}

/-! ### Objects that are no cells -/

def setW (w : World) (r : Nat) (o : Obj) : World := { w with heap := w.heap.setIfInBounds r o }

theorem run_getLoop {w : World} {r : Nat} {o : Loop} (h : w.heap[r]? = some (.loop o)) : (getObj r).run P w = .ok (.loop o) w := by
  simp [getObj, Sem.run, h]

theorem run_setLoop {w : World} {r : Nat} {o : Loop} (x : Obj) (h : w.heap[r]? = some (.loop o)) : (setObj r x).run P w = .ok () (setW w r x) := by
  simp [setObj, Sem.run, h, setW]

theorem new_none {ng : Cx} {g : Inj} {H : List Blk} {w : World} (h : HRel ng g H w) : g H.length = none ∧ ng.n ≤ H.length := by
  have hid : g H.length = none := by
    cases hg : g H.length with
    | none => rfl
    | some M => have := (h.dom _ M hg).1; omega
  refine ⟨hid, ?_⟩
  rcases Nat.lt_or_ge H.length ng.n with h9 | h9
  · obtain ⟨L, hL, _⟩ := h.glob _ h9
    rw [hid] at hL; cases hL
  · exact h9

theorem app_other {H : List Blk} {k : Blk} : ∀ j, j ≠ H.length → (H ++ [k])[j]? = H[j]? := by
  intro j hj
  rcases Nat.lt_or_ge j H.length with h9 | h9
  · rw [List.getElem?_append_left h9]
  · rw [List.getElem?_append_right h9, List.getElem?_eq_none h9]
    have : j - H.length ≠ 0 := by omega
    simp [this]

theorem HRel.new {ng : Cx} {g : Inj} {H : List Blk} {w : World} (h : HRel ng g H w) (k : Blk) (O : Obj)
    (hB : (w.alloc O).heap[w.heap.size]? = some O → BRel (upd g H.length ⟨w.heap.size, 0, 0⟩) (w.alloc O) k ⟨w.heap.size, 0, 0⟩) :
    HRel ng (upd g H.length ⟨w.heap.size, 0, 0⟩) (H ++ [k]) (w.alloc O) ∧ Ext g H w (upd g H.length ⟨w.heap.size, 0, 0⟩) (H ++ [k]) (w.alloc O) := by
  obtain ⟨h1, h2⟩ := new_none h
  have := HRel.allocK h (w0 := w) (H' := H ++ [k]) (k := k) (O := O) (n := 0) h1 h2 rfl rfl rfl rfl (by simp) app_other (by simp) (.inl (Nat.le_refl _)) hB
  exact ⟨this.1, this.2 (Nat.le_refl _)⟩

theorem setW_wr (w : World) (r : Nat) (o : Obj) : Wr r w (setW w r o) := by
  refine ⟨by simp [setW], fun k hk => ?_, rfl, rfl, rfl⟩
  simp only [setW]
  exact Array.getElem?_setIfInBounds_ne (Ne.symm hk)

theorem setW_at {w : World} {r : Nat} {o o' : Obj} (h : w.heap[r]? = some o') : (setW w r o).heap[r]? = some o := by
  have hlt := (Array.getElem?_eq_some_iff.1 h).1
  simp [setW, hlt]

theorem loop_at_block {ng : Cx} {g : Inj} {H : List Blk} {w : World} {b : Nat} {la : LoopA} {L : Loc} (h : HRel ng g H w) (hb : H[b]? = some (.loop la)) (hL : g b = some L) : ∃ r : Loop, w.heap[L.blk]? = some (.loop r) ∧ r.state = la.st ∧ r.pending = la.pend ∧ TmRel g la.t r.tmps ∧ r.params = la.params ∧ r.assign = la.assign ∧ r.body = la.body ∧
    ∃ D, g la.dfr = some D ∧ r.defers = D.blk := by
  obtain ⟨L', hL', hB⟩ := h.blk b _ hb (by simp)
  rw [hL] at hL'; cases hL'
  exact hB

/-- A loop's block, in another state. -/
theorem loop_set {ng : Cx} {g : Inj} {hp : Hp} {w : World} {b : Nat} {la : LoopA} {L : Loc} {r : Loop} (h : HRel ng g hp.heap w) (hb : hp.heap[b]? = some (.loop la)) (hL : g b = some L) (hr : w.heap[L.blk]? = some (.loop r)) (st : LoopState) (pend : Option Code)
    (hB : TmRel g la.t r.tmps ∧ r.params = la.params ∧ r.assign = la.assign ∧ r.body = la.body ∧ ∃ D, g la.dfr = some D ∧ r.defers = D.blk) :
    HRel ng g (hp.heap.set b (.loop ⟨st, pend, la.t, la.params, la.assign, la.body, la.dfr⟩)) (setW w L.blk (.loop { r with state := st, pending := pend })) ∧
    Ext g hp.heap w g (hp.heap.set b (.loop ⟨st, pend, la.t, la.params, la.assign, la.body, la.dfr⟩)) (setW w L.blk (.loop { r with state := st, pending := pend })) ∧
    Touch hp ⟨hp.heap.set b (.loop ⟨st, pend, la.t, la.params, la.assign, la.body, la.dfr⟩), b :: hp.log⟩ := by
  obtain ⟨h1, h2, h3, h4, D, h5, h6⟩ := hB
  have := HRel.writeK h (k' := .loop ⟨st, pend, la.t, la.params, la.assign, la.body, la.dfr⟩) ⟨_, hb, by simp⟩ hL (setW_wr w L.blk (.loop { r with state := st, pending := pend }))
    ⟨{ r with state := st, pending := pend }, setW_at hr, rfl, rfl, h1, h2, h3, h4, D, h5, h6⟩
  exact ⟨this.1, this.2, set_touchK ⟨_, hb, by simp⟩ (fun l e => by cases e; exact ⟨la, hb, rfl, rfl, rfl, rfl, rfl⟩)⟩

/-! ### A range over a function -/

theorem endRange_touch {h0 : Hp} {t : Tm} (n : Nat) (r : Out × Hp) (hr : Touch h0 r.2) : AllT (fun x => Touch h0 x.2.2) (endRange n t r) := by
  obtain ⟨o, hp⟩ := r
  unfold endRange
  simp only at hr
  split
  · rename_i v hp' he
    cases he
    split
    · rename_i la hl
      have ht : Touch h0 ⟨hp.heap.set (n + 1) (.loop ⟨.exhausted, la.pend, la.t, la.params, la.assign, la.body, la.dfr⟩), (n + 1) :: hp.log⟩ :=
        hr.trans (set_touchK ⟨_, hl, by simp⟩ (fun l e => by cases e; exact ⟨la, hl, rfl, rfl, rfl, rfl, rfl⟩))
      split
      · trivial
      · split
        · exact ht
        · exact ht
        · exact ht
        · trivial
    · trivial
  · rename_i v hp' he
    cases he
    exact hr

theorem app2_touch {hp : Hp} {a b : Blk} : Touch hp ⟨hp.heap ++ [a, b], hp.log⟩ := by
  have h1 : Touch hp ⟨hp.heap ++ [a], hp.log⟩ := app_touch
  have h2 : Touch ⟨hp.heap ++ [a], hp.log⟩ ⟨(hp.heap ++ [a]) ++ [b], hp.log⟩ := app_touch
  have := h1.trans h2
  simpa using this

theorem range_start {ng : Cx} {g : Inj} {H : List Blk} {w : World} (hH : HRel ng g H w) {t : Tm} {a : Act} (ht : TRel g t a) (fn : FuncId) (ps : Array Tmp) (asg body : Code) :
    ∃ (g2 : Inj) (w2 : World) (D l : Nat), (Instr.enterLoop fn a.tmps ps asg body (FR none).round).run P w = .ok (l, [{ target := .collected D, args := #[] }]) w2 ∧ g2 H.length = some ⟨D, 0, 0⟩ ∧ g2 (H.length + 1) = some ⟨l, 0, 0⟩ ∧
      HRel ng g2 (H ++ [.dfr, .loop ⟨.ready, none, ⟨t.len, t.tr, []⟩, ps, asg, body, H.length⟩]) w2 ∧ Ext g H w g2 (H ++ [.dfr, .loop ⟨.ready, none, ⟨t.len, t.tr, []⟩, ps, asg, body, H.length⟩]) w2 := by
  obtain ⟨k1, k2⟩ := hH.new .dfr (.deferred (some [])) (fun h => h)
  have ht1 := ht.mono k2.sub
  generalize hw1 : w.alloc (.deferred (some [])) = w1 at k1 k2
  generalize hg1 : upd g H.length ⟨w.heap.size, 0, 0⟩ = g1 at k1 k2 ht1
  have h1D : g1 H.length = some ⟨w.heap.size, 0, 0⟩ := by rw [← hg1]; exact upd_same _ _ _
  obtain ⟨k3, k4⟩ := k1.new (.loop ⟨.ready, none, ⟨t.len, t.tr, []⟩, ps, asg, body, H.length⟩) (.loop { state := .ready, pending := none, fn := fn, tmps := a.tmps, params := ps, assign := asg, body := body, defers := w.heap.size }) (fun h => by
    have hs := (new_none k1).1
    refine ⟨_, h, rfl, rfl, ht1.mono (upd_sub (⟨w1.heap.size, 0, 0⟩ : Loc) hs), rfl, rfl, rfl, ⟨w.heap.size, 0, 0⟩, ?_, rfl⟩
    rw [upd_other _ _ (by simp)]
    exact h1D)
  have hlen1 : (H ++ [Blk.dfr]).length = H.length + 1 := by simp
  rw [hlen1] at k3 k4
  have happ : H ++ [Blk.dfr] ++ [Blk.loop ⟨.ready, none, ⟨t.len, t.tr, []⟩, ps, asg, body, H.length⟩] = H ++ [.dfr, .loop ⟨.ready, none, ⟨t.len, t.tr, []⟩, ps, asg, body, H.length⟩] := by simp
  rw [happ] at k3 k4
  refine ⟨_, _, w.heap.size, w1.heap.size, ?_, ?_, upd_same _ _ _, k3, k2.trans hH k4⟩
  · rw [← hw1]; simp [Instr.enterLoop, FR]
  · rw [upd_other _ _ (by simp)]; exact h1D

theorem rangeT_sound (E : Env P C call round) {f : Operand} {ps : Array Tmp} {asg body : Code} : CodeOk P C false (.rangeFunc f ps asg body) (rangeT P C call f ps asg body) := by
  constructor
  · intro F t hp
    unfold rangeT
    split
    · split
      · refine all_bind (Q := fun x => Touch hp x.2) (fun F' r hr => endRange_touch _ r hr) ?_
        exact (E.callT _ _ _ _).mono fun x hx => app2_touch.trans hx
      · trivial
    · trivial
  · intro F t hp Q r g w a hr hH ht hs
    have hr := hr rfl
    subst hr
    unfold rangeT at hs
    split at hs
    · rename_i k first cap hf
      split at hs
      · rename_i k' args hen
        have hρ : VRel g (.func (.func k) first cap) (a.eval f) := ht.1.eval hH.sig hH.glob hf
        have hh : ∃ fs cs : Array Value, a.eval f = .func (.func k) fs cs ∧ LRel g first fs.toList ∧ LRel g cap cs.toList := by
          generalize a.eval f = u at hρ
          cases hρ with
          | func _ _ _ fs cs h1 h2 => exact ⟨fs, cs, rfl, h1, h2⟩
        obtain ⟨fs, cs, hfv, hfs, hcs⟩ := hh
        refine wpIn_rangeFunc fun fn _ => ?_
        obtain ⟨g2, w2, D, l, henter, hg2D, hg2L, k3, hE2⟩ := range_start (P := P) hH ht.1 fn ps asg body
        have hargs : ∀ (args' : Array Value), args'.toList = (fs.toList ++ [Value.func (.yield l) #[] #[]]) ++ cs.toList → LRel g2 args args'.toList := by
          intro args' he
          obtain ⟨_, e2⟩ := enterA_run (P := P) (w := w) hen args'
          rw [e2, he]
          exact ((hfs.mono hE2.sub).append (.cons _ _ _ _ (.yield _ _ hg2L) .nil)).append (hcs.mono hE2.sub)
        refine ⟨l, [{ target := .collected D, args := #[] }], w2, ⟨.fn (.func k) cs, fs ++ #[.func (.yield l) #[] #[]]⟩, w2, k', fs ++ #[.func (.yield l) #[] #[]] ++ cs, w2, ?_, ?_, fun _ _ => trivial, ?_, fun h => (by cases h), ?_⟩
        · exact henter
        · simp [resolve, hfv, Deferred.ofValue]; rfl
        · obtain ⟨e1, _⟩ := enterA_run (P := P) (w := w2) hen (fs ++ #[.func (.yield l) #[] #[]] ++ cs)
          simpa [invoke] using e1
        · have hs := sat_bind (E.ok.facts hH) hs
          have hc := E.call F k' args ⟨hp.heap ++ [.dfr, .loop ⟨.ready, none, ⟨t.len, t.tr, []⟩, ps, asg, body, hp.heap.length⟩], hp.log⟩ (fun x => ∃ F', Holds g.sig F' ∧ Sat g.sig Q (endRange hp.heap.length t x)) g2 w2 (fs ++ #[.func (.yield l) #[] #[]] ++ cs) k3 (hargs _ (by simp)) (by rw [hE2.sub.sig]; exact hs)
          refine callsIn_FR (Calls.mono hc ?_)
          rintro e w3 ⟨⟨o, hp3⟩, ⟨F', hF', q⟩, ht3, g3, ho, hH3, hE3⟩
          have hE13 : Ext g hp.heap w g3 hp3.heap w3 := hE2.trans hH hE3
          have ht13 : Touch hp hp3 := app2_touch.trans ht3
          have hfr : FRel g3 ⟨t.len, t.tr, .mark hp.heap.length :: t.df⟩ { a with defers := [{ target := .collected D, args := #[] }] ++ a.defers } := by
            refine ⟨(ht.1.mono hE13.sub), ?_⟩
            exact .mark _ ⟨D, 0, 0⟩ _ _ (hE3.sub _ _ hg2D) (ht.2.mono hE13.sub)
          simp only [endRange] at q
          cases o with
          | pan v =>
            obtain ⟨u, rfl, hu⟩ := ho
            exact ⟨_, q, ht13, g3, ⟨u, rfl, hu⟩, hH3, hE13, hfr, rfl⟩
          | val v =>
            obtain ⟨u, rfl, hu⟩ := ho
            simp only at q
            split at q
            · rename_i la hla
              have hL3 : g3 (hp.heap.length + 1) = some ⟨l, 0, 0⟩ := hE3.sub _ _ hg2L
              obtain ⟨rr, r1, r2, r3, r4, r5, r6, r7, r8⟩ := loop_at_block hH3 hla hL3
              simp only at r1
              have hset := loop_set hH3 hla hL3 r1 .exhausted la.pend ⟨r4, r5, r6, r7, r8⟩
              obtain ⟨s1, s2, s3⟩ := hset
              have hend : ¬ la.st = .busy → (Instr.endLoop l).run P w3 = .ok rr.pending (setW w3 l (.loop { rr with state := .exhausted })) := by
                intro hb
                have hb' : (rr.state == LoopState.busy) = false := by
                  rw [r2]
                  cases hst : la.st <;> first | rfl | (exact absurd hst hb)
                have hg := run_getLoop (P := P) r1
                have hlt := (Array.getElem?_eq_some_iff.1 r1).1
                simp only [Instr.endLoop, Instr.getLoop, Sem.run_bind, hg, Result.andThen_ok, Sem.run_pure, hb']
                have hs2 := run_setLoop (P := P) (.loop { rr with state := .exhausted }) r1
                simp [hs2]
              have hpend : ({ rr with state := LoopState.exhausted, pending := la.pend } : Loop) = { rr with state := .exhausted } := by rw [← r3]
              rw [hpend] at s1 s2
              split at q
              · exact q.elim
              · rename_i hst
                have hend := hend (fun e => hst e)
                have fin : ∀ x e, x.2.1 = (⟨t.len, t.tr, .mark hp.heap.length :: t.df⟩ : Tm) → x.2.2 = (⟨hp3.heap.set (hp.heap.length + 1) (.loop ⟨.exhausted, la.pend, la.t, la.params, la.assign, la.body, la.dfr⟩), (hp.heap.length + 1) :: hp3.log⟩ : Hp) → ExRel g3 x.1 e → Q x →
                    ∃ x, Q x ∧ CodeQ (C F) hp g w a x e { a with defers := [{ target := .collected D, args := #[] }] ++ a.defers } (setW w3 l (.loop { rr with state := .exhausted })) := by
                  rintro ⟨x1, x2, x3⟩ e rfl rfl he hq
                  exact ⟨_, hq, ht13.trans s3, g3, he, s1, hE13.trans hH s2, hfr, rfl⟩
                split at q
                · rename_i hp0
                  refine ⟨none, _, by rw [← hp0, ← r3]; exact hend, ?_⟩
                  exact fin (.normal, _, _) .normal rfl (by rw [hp0]) trivial q
                · rename_i hp0
                  refine ⟨some .ret, _, by rw [← hp0, ← r3]; exact hend, ?_⟩
                  exact wpIn_ret (fin (.ret, _, _) .ret rfl (by rw [hp0]) trivial q)
                · rename_i i hp0
                  refine ⟨some (.exit i), _, by rw [← hp0, ← r3]; exact hend, ?_⟩
                  exact wpIn_exit (fin (.exit i, _, _) (.exit i) rfl (by rw [hp0]) rfl q)
                · exact q.elim
            · exact q.elim
      · exact hs.elim
    · exact hs.elim

end
end Go.Ev
