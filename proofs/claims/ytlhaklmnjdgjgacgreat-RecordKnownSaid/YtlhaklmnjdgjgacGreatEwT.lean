/- Calls and rounds: the proofs; what is reckoned is the model's. -/
import Derived.Test.YtlhaklmnjdgjgacGreatEwS
set_option linter.unusedVariables false
namespace Go.Ev
set_option linter.unusedVariables false
set_option linter.unusedSimpArgs false
set_option linter.unnecessarySimpa false

section
variable {P : Program} {C : CxF} {call : CallF} {round : RoundF} {mb : Bool} {fuel : Nat}

theorem putsA_rel {g : Inj} : ∀ (ps : List Nat) (args : List AVal) (args' : List Value) (t : Tm) (tmps : Array Value), LRel g args args' → ps.length = args.length → TmRel g t tmps →
    TmRel g (putsA t ps args) ((ps.zip args').foldl (fun tmps (x : Nat × Value) => tmps.setIfInBounds x.1 x.2) tmps)
  | [], [], args', t, tmps, h, _, ht => by cases h; simpa [putsA] using ht
  | [], _ :: _, _, _, _, _, hl, _ => by simp at hl
  | _ :: _, [], _, _, _, _, hl, _ => by simp at hl
  | d :: ps, v :: args, args', t, tmps, h, hl, ht => by
    cases h with
    | cons _ u _ m hv hr =>
      simp only [putsA, List.zip_cons_cons, List.foldl_cons]
      refine putsA_rel ps args m _ _ hr (by simpa using hl) ?_
      have := TRel.put (a := { tmps := tmps, defers := [] }) (g := g) (t := t) ht (some d) hv
      simpa [TRel, Act.put] using this

theorem putsA_df : ∀ (ps : List Nat) (args : List AVal) (t : Tm), (putsA t ps args).df = t.df
  | [], [], t => rfl
  | [], _ :: _, t => rfl
  | _ :: _, [], t => rfl
  | d :: ps, v :: args, t => by simp only [putsA]; rw [putsA_df, putA_df]

theorem endRound_touch {hp : Hp} {b : Nat} {y : Ex × Tm × Hp} (h : Touch hp y.2.2) : AllT (fun x => Touch hp x.2) (endRound b y) := by
  unfold endRound
  split
  · rename_i l hl
    have k : ∀ st pend, Touch hp ⟨y.2.2.heap.set b (.loop ⟨st, pend, l.t, l.params, l.assign, l.body, l.dfr⟩), b :: y.2.2.log⟩ := fun st pend =>
      h.trans (set_touchK ⟨_, hl, by simp⟩ (fun l' e => by cases e; exact ⟨l, hl, rfl, rfl, rfl, rfl, rfl⟩))
    split
    · exact k _ _
    · exact k _ _
    · exact k _ _
    · trivial
  · trivial

theorem roundB_touch (E : Env P C call round) : RoundTouch (roundB P C mb fuel call round) := by
  intro F b args hp
  unfold roundB
  split
  · rename_i la hla
    split
    · refine all_bind (Q := fun x => Touch hp x.2.2) ?_ ((codeT_sound E la.assign true).touch F _ hp)
      rintro F1 ⟨e, t2, hp2⟩ h
      cases e with
      | normal =>
        simp only
        split
        · rename_i l2 hl2
          split
          · have hset := set_touchK (hp := hp2) (b := b) (k := .loop ⟨.busy, l2.pend, l2.t, l2.params, l2.assign, l2.body, l2.dfr⟩) ⟨_, hl2, by simp⟩ (fun l e => by cases e; exact ⟨l2, hl2, rfl, rfl, rfl, rfl, rfl⟩)
            refine all_bind (Q := fun x => Touch hp x.2.2) (fun F2 y hy => endRound_touch hy) ?_
            exact ((codeT_sound E l2.body true).touch F1 t2 _).mono fun x hx => (h.trans hset).trans hx
          · trivial
        · trivial
      | _ => trivial
    · trivial
  · trivial

theorem zip_foldl (ps : Array Nat) (args : Array Value) (tmps : Array Value) : (ps.zip args).foldl (fun tmps (x : Nat × Value) => tmps.setIfInBounds x.1 x.2) tmps = (ps.toList.zip args.toList).foldl (fun tmps (x : Nat × Value) => tmps.setIfInBounds x.1 x.2) tmps := by
  rw [← Array.foldl_toList, Array.toList_zip]

theorem roundB_sound (E : Env P C call round) : RoundSound P C (roundB P C mb fuel call round) := by
  intro F b args hp Q g w args' L r hH hL ha hs
  unfold roundB at hs
  split at hs
  · rename_i la hla
    split at hs
    · rename_i hpn
      have hpn := Nat.eq_of_beq_eq_true hpn
      obtain ⟨rr, r1, r2, r3, r4, r5, r6, r7, r8⟩ := loop_at_block hH hla hL
      have hsz : args'.size = rr.params.size := by
        have := ha.length
        rw [r5, hpn, this]; simp
      refine ⟨rr.fn, (rr.params.zip args').foldl (fun tmps (x : Nat × Value) => tmps.setIfInBounds x.1 x.2) rr.tmps, rr.assign, rr.body, ?_, ?_⟩
      · simp only [Instr.yield, Instr.getLoop, Sem.run_bind, run_getLoop r1, Result.andThen_ok, Sem.run_pure]
        rw [if_neg (by simp [hsz])]
        simp
      · have hs := sat_bind (E.ok.facts hH) hs
        have htm := putsA_rel rr.params.toList args args'.toList ⟨la.t.len, la.t.tr, []⟩ rr.tmps ha (by rw [r5]; simpa using hpn) r4
        rw [← zip_foldl] at htm
        generalize (rr.params.zip args').foldl (fun tmps (x : Nat × Value) => tmps.setIfInBounds x.1 x.2) rr.tmps = tm0 at htm
        refine roundIn_of_wpIn (F := FR r) trivial ?_
        have hasg := (codeT_sound (mb := mb) (fuel := fuel) E la.assign true).wp F (putsA ⟨la.t.len, la.t.tr, []⟩ la.params.toList args) hp _ (some L.blk) g w { tmps := tm0, defers := [] } (by intro h; cases h) hH
          ⟨by rw [← r5]; exact htm, by rw [putsA_df]; exact .nil⟩ hs
        rw [r6]
        refine wpIn_mono (Q := fun e a' w' => _) hasg ?_
        rintro e a1 w1 ⟨⟨x, t2, hp2⟩, ⟨F1, hF1, q⟩, h0, g1, h1, h2, h3, h4, h5⟩
        cases x with
        | normal =>
          cases e <;> simp only [ExRel] at h1
          simp only at q
          split at q
          · rename_i l2 hl2
            split at q
            · rename_i hrdy
              have hL1 := h3.sub _ _ hL
              obtain ⟨q1, k1, k2, k3, k4, k5, k6, k7, k8⟩ := loop_at_block h2 hl2 hL1
              obtain ⟨s1, s2, s3⟩ := loop_set h2 hl2 hL1 k1 .busy l2.pend ⟨k4, k5, k6, k7, k8⟩
              have hset : ({ q1 with state := LoopState.busy, pending := l2.pend } : Loop) = { q1 with state := .busy } := by rw [← k3]
              rw [hset] at s1 s2
              refine ⟨setW w1 L.blk (.loop { q1 with state := .busy }), ?_, ?_⟩
              · simp only [Instr.beginRound, Instr.getLoop, Sem.run_bind, run_getLoop k1, Result.andThen_ok, Sem.run_pure, run_setLoop _ k1]
                rw [k2, hrdy]
                rfl
              · have hσ1 : g1.sig = g.sig := h3.sub.sig
                have q := sat_bind (F := F1) (by exact hF1) q
                have hbody := (codeT_sound (mb := mb) (fuel := fuel) E l2.body true).wp F1 t2 _ _ (some L.blk) g1 _ a1 (by intro h; cases h) (E.ok.move s1 (by rw [hσ1]; exact hF1)) h4 (by rw [hσ1]; exact q)
                have hbd : rr.body = l2.body := by
                  have hT := h0.loops b l2 (List.getElem?_eq_some_iff.1 hla).1 hl2
                  obtain ⟨l0, hl0, _, _, _, e4, _⟩ := hT
                  rw [hla] at hl0; cases hl0
                  rw [r7, ← e4]
                rw [hbd]
                refine wpIn_mono hbody ?_
                rintro e2 a2 w2 ⟨⟨y, t3, hp3⟩, ⟨F2, hF2, q2⟩, m0, g2, m1, m2, m3, m4, m5⟩
                have hL2 := m3.sub _ _ hL1
                have hF0 : Holds g2.sig F := by rw [m3.sub.sig, hσ1]; exact E.ok.facts hH
                have m2' := E.ok.move m2 hF0
                have hE : Ext g hp.heap w g2 hp3.heap w2 := (h3.trans hH s2).trans hH m3
                have hTt : Touch hp hp3 := (h0.trans s3).trans m0
                simp only [endRound] at q2
                split at q2
                · rename_i l3 hl3
                  obtain ⟨z, z1, z2, z3, z4, z5, z6, z7, z8⟩ := loop_at_block m2' hl3 hL2
                  have fin : ∀ st pend, (Instr.endRound L.blk pend).run P w2 = .ok (.bool pend.isNone) (setW w2 L.blk (.loop { z with state := st, pending := pend })) → Q (.val (.bool pend.isNone), ⟨hp3.heap.set b (.loop ⟨st, pend, l3.t, l3.params, l3.assign, l3.body, l3.dfr⟩), b :: hp3.log⟩) →
                      ∃ v w', (Instr.endRound L.blk pend).run P w2 = .ok v w' ∧ ∃ x, Q x ∧ OutQ (C F) hp g w x.1 x.2 (.returned v) w' := by
                    intro st pend he hq
                    obtain ⟨n1, n2, n3⟩ := loop_set m2' hl3 hL2 z1 st pend ⟨z4, z5, z6, z7, z8⟩
                    exact ⟨_, _, he, _, hq, hTt.trans n3, g2, ⟨_, rfl, .bool _⟩, n1, hE.trans hH n2⟩
                  have run : ∀ pend, (Instr.endRound L.blk pend).run P w2 = .ok (.bool pend.isNone) (setW w2 L.blk (.loop { z with state := if pend.isNone then .ready else .done, pending := pend })) := by
                    intro pend
                    simp only [Instr.endRound, Instr.getLoop, Sem.run_bind, run_getLoop z1, Result.andThen_ok, Sem.run_pure, run_setLoop _ z1]
                  cases y with
                  | normal => cases e2 <;> simp only [ExRel] at m1; exact fin .ready none (run none) q2
                  | ret => cases e2 <;> simp only [ExRel] at m1; exact fin .done (some .ret) (run _) q2
                  | exit i => cases e2 <;> simp only [ExRel] at m1; subst m1; exact fin .done (some (.exit i)) (run _) q2
                  | pan v => exact q2.elim
                · exact q2.elim
            · exact q.elim
          · exact q.elim
        | exit i => exact q.elim
        | ret => exact q.elim
        | pan v => exact q.elim
    · exact hs.elim
  · exact hs.elim

end

section
variable {P : Program} {ng : Cx}
mutual
theorem idFree_rel {g g' : Inj} (hs : g'.sig = g.sig) : ∀ {a : AVal} {v : Value}, VRel g a v → idFree a = true → VRel g' a v
  | _, _, .bool b, _ => .bool b
  | _, _, .int k n, _ => .int k n
  | _, _, .float k n, _ => .float k n
  | _, _, .str s, _ => .str s
  | _, _, .nilptr, _ => .nilptr
  | _, _, .ptr _ _ _ _, h => by simp [idFree] at h
  | _, _, .nilslice, _ => .nilslice
  | _, _, .slice _ _ _ _ _ _ _ _ _ _ _ _, h => by simp [idFree] at h
  | _, _, .nilmap, _ => .nilmap
  | _, _, .map _ _ _, h => by simp [idFree] at h
  | _, _, .nilfunc, _ => .nilfunc
  | _, _, .func fn f c f' c' h1 h2, h => by
    simp only [idFree, Bool.and_eq_true] at h
    exact .func fn f c f' c' (idFreeL_rel hs h1 h.1) (idFreeL_rel hs h2 h.2)
  | _, _, .niliface, _ => .niliface
  | _, _, .symi k i, _ => by rw [← hs]; exact .symi k i
  | _, _, .symb i, _ => by rw [← hs]; exact .symb i
  | _, _, .syms i, _ => by rw [← hs]; exact .syms i
  | _, _, .iface t v v' h1, h => by
    simp only [idFree] at h
    exact .iface t v v' (idFree_rel hs h1 h)
  | _, _, .agg l l' h1, h => by
    simp only [idFree] at h
    exact .agg l l' (idFreeL_rel hs h1 h)
  | _, _, .tuple l l' h1, h => by
    simp only [idFree] at h
    exact .tuple l l' (idFreeL_rel hs h1 h)
theorem idFreeL_rel {g g' : Inj} (hs : g'.sig = g.sig) : ∀ {a : List AVal} {v : List Value}, LRel g a v → idFreeL a = true → LRel g' a v
  | _, _, .nil, _ => .nil
  | _, _, .cons a v l m h1 h2, h => by
    simp only [idFreeL, Bool.and_eq_true] at h
    exact .cons a v l m (idFree_rel hs h1 h.1) (idFreeL_rel hs h2 h.2)
end

theorem oldOnly_spec {n : Nat} : ∀ {l : List Nat}, oldOnly n l = true → ∀ i, i < n → i ∉ l
  | [], _, _, _ => by simp
  | j :: l, h, i, hi => by
    simp only [oldOnly, Bool.and_eq_true, Nat.ble_eq] at h
    simp only [List.mem_cons, not_or]
    exact ⟨by omega, oldOnly_spec h.2 i hi⟩

def resOne (tmps : Array Value) : ResultVar → Sem Value
  | .tmp t => pure (tmps.getD t undef)
  | .cell x t => do loadVar t (← asAddr (tmps.getD x undef))

theorem results_eq (fn : Func) (tmps : Array Value) : results fn tmps = (do
    let vs ← fn.results.mapM (resOne tmps)
    pure (if h : vs.size = 1 then vs[0] else .tuple vs)) := by
  unfold results
  congr 2

theorem resA_sound {g : Inj} {H : List Blk} {w : World} {t : Tm} {a : Act} (hH : HRel ng g H w) (ht : TRel g t a) : ∀ (l : List ResultVar) (vs : List AVal), resA P t H l = some vs →
    ∃ us : List Value, (l.mapM (resOne a.tmps)).run P w = .ok us w ∧ LRel g vs us
  | [], vs, h => by simp [resA] at h; subst h; exact ⟨[], by simp, .nil⟩
  | r :: l, vs, h => by
    simp only [resA] at h
    split at h
    · rename_i v hv
      split at h
      · rename_i vs' hvs
        cases h
        obtain ⟨us, h1, h2⟩ := resA_sound hH ht l vs' hvs
        cases r with
        | tmp i =>
          simp only at hv
          obtain ⟨u, k1, k2⟩ := ht.2 i v hv
          refine ⟨u :: us, ?_, .cons _ _ _ _ k2 h2⟩
          rw [List.mapM_cons]
          simp only [resOne, Sem.run_bind, Sem.run_pure, Result.andThen_ok, h1]
          simp [k1]
        | cell i ty =>
          simp only at hv
          split at hv
          · rename_i x hx
            obtain ⟨u, k1, k2⟩ := ht.2 i x hx
            obtain ⟨y, m1, m2⟩ := run_loadV (P := P) hH hv k2
            refine ⟨y :: us, ?_, .cons _ _ _ _ m2 h2⟩
            rw [List.mapM_cons]
            have hu : ∃ ad, u = .pointer (some ad) := by
              unfold loadV at hv
              split at hv
              · cases k2; exact ⟨_, rfl⟩
              · cases hv
            obtain ⟨ad, rfl⟩ := hu
            have m1' : (loadVar ty ad).run P w = .ok y w := by simpa [Instr.loadAt, Instr.sureAddr] using m1
            simp only [resOne, Sem.run_bind, Array.getD_eq_getD_getElem?, k1, Option.getD_some, asAddr, Sem.run_pure, Result.andThen_ok, m1', h1]
          · cases hv
      · cases h
    · cases h

theorem results_run {g : Inj} {H : List Blk} {w : World} {t : Tm} {a : Act} (hH : HRel ng g H w) (ht : TRel g t a) {fn : Func} {vs : List AVal} (h : resA P t H fn.results.toList = some vs) :
    ∃ u, (results fn a.tmps).run P w = .ok u w ∧ VRel g (packA vs) u := by
  obtain ⟨us, h1, h2⟩ := resA_sound (P := P) hH ht fn.results.toList vs h
  have hl := h2.length
  rw [results_eq, Array.mapM_eq_mapM_toList]
  simp only [Sem.run_bind, Sem.run_map, Sem.run_pure]
  rw [h1]
  simp only [Result.andThen_ok]
  cases h2 with
  | nil => exact ⟨.tuple #[], by simp, .tuple _ _ .nil⟩
  | cons b v l m hb hl' =>
    cases hl' with
    | nil => exact ⟨v, by simp, by simpa [packA] using hb⟩
    | cons b' v' l' m' hb' hl'' =>
      refine ⟨.tuple (v :: v' :: m').toArray, by simp, ?_⟩
      exact .tuple _ _ (by simpa using LRel.cons b v _ _ hb (.cons b' v' _ _ hb' hl''))

theorem enter_trel {g : Inj} {args : List AVal} {args' : Array Value} (h : LRel g args args'.toList) (n : Nat) :
    TRel g (entryA args n) { tmps := args' ++ Array.replicate (n - args'.size) undef, defers := [] } := by
  have hl := h.length
  simp at hl
  refine ⟨by simp [entryA]; omega, ?_⟩
  intro i v hi
  have hlt : i < n := Tm.get_lt hi
  have hv := TT.get_mk _ _ _ _ _ _ _ _ (Tm.get_tr hi)
  simp only [Nat.zero_add, Nat.one_mul] at hv
  rcases Nat.lt_or_ge i args.length with h9 | h9
  · obtain ⟨u, k1, k2⟩ := h.get i args[i] (by simp [h9])
    refine ⟨u, ?_, ?_⟩
    · rw [Array.getElem?_append_left (by omega)]
      simpa using k1
    · rw [hv]; simpa [List.getD_eq_getElem?_getD, h9] using k2
  · refine ⟨undef, ?_, ?_⟩
    · rw [Array.getElem?_append_right (by omega), Array.getElem?_replicate, if_pos (by omega)]
    · rw [hv, List.getD_eq_getElem?_getD, List.getElem?_eq_none h9]
      exact .tuple _ _ .nil

theorem gc_rel {g g' : Inj} {H H' : List Blk} {w w' : World} (h : HRel ng g H w) (h' : HRel ng g' H' w') (hE : Ext g H w g' H' w') (hsame : ∀ i, i < H.length → H'[i]? = H[i]?) : HRel ng g H w' ∧ Ext g H w g H w' := by
  constructor
  · refine ⟨fun i L hi => ⟨(h.dom i L hi).1, Nat.lt_of_lt_of_le (h.dom i L hi).2 hE.size⟩, h.inj, ?_, h.glob, h.sig, ⟨fun i X hi hl => ⟨(h'.frz.row i X (by rw [hE.sub.sig]; exact hi) hl).1, (h.frz.row i X hi hl).2⟩, fun i X hi => ⟨(h.frz.mp i X hi).1, (h'.frz.mp i X (hE.sub.mp i X hi)).2.1, (h.frz.mp i X hi).2.2⟩⟩⟩
    intro i k hi hk
    obtain ⟨L, hL, hB⟩ := h.blk i k hi hk
    refine ⟨L, hL, ?_⟩
    have hil : i < H.length := (List.getElem?_eq_some_iff.1 hi).1
    obtain ⟨L', hL', hB'⟩ := h'.blk i k (by rw [hsame i hil]; exact hi) hk
    have := hE.sub i L hL
    rw [this] at hL'; cases hL'
    cases k with
    | gone => trivial
    | map l =>
      obtain ⟨_, _, es1, _, _, b3, _⟩ := hB
      obtain ⟨es, cl, es', d1, d2, d3, d4⟩ := hB'
      exact ⟨es, cl, es', d1, d2, MRel.back hE.sub b3 d3, d4⟩
    | iter x l cur =>
      obtain ⟨X, _, es1, b0, b1, _, _, b4, b5⟩ := hB
      obtain ⟨X', seen, es', d0, d1, d2, d3, d4, d5⟩ := hB'
      have := hE.sub.mp _ _ b1
      rw [this] at d1; cases d1
      refine ⟨_, seen, es', b0, b1, d2, d3, MRel.back hE.sub b4 d4, fun k v e => ?_⟩
      obtain ⟨e1, s0, _, _, c3, c4⟩ := b5 k v e
      obtain ⟨e2, s1, f1, f2, f3, f4⟩ := d5 k v e
      exact ⟨e2, s1, f1, f2, VRel.back' hE.sub c3 f3, VRel.back' hE.sub c4 f4⟩
    | loop la =>
      obtain ⟨r, b1, b2, b3, b4, b5, b6, b7, D, b8, b9⟩ := hB
      obtain ⟨r', d1, d2, d3, d4, d5, d6, d7, D', d8, d9⟩ := hB'
      have hD := hE.sub _ _ b8
      rw [hD] at d8; cases d8
      refine ⟨r', d1, d2, d3, ⟨d4.1, fun j v hv => ?_⟩, d5, d6, d7, D, b8, d9⟩
      obtain ⟨u, _, m2⟩ := b4.2 j v hv
      obtain ⟨u', n1, n2⟩ := d4.2 j v hv
      exact ⟨u', n1, VRel.back' hE.sub m2 n2⟩
    | dfr => exact hB'
    | cells c e =>
      obtain ⟨C, fr, _, _, _, _, b5⟩ := hB
      obtain ⟨C', fr', d1, d2, d3, d4, d5⟩ := hB'
      refine ⟨C', fr', d1, d2, d3, d4, ?_⟩
      intro j x hj
      obtain ⟨v, _, m2, _⟩ := b5 j x hj
      obtain ⟨v', n1, n2, n3⟩ := d5 j x hj
      exact ⟨v', n1, VRel.back' hE.sub m2 n2, n3⟩
  · exact ⟨Sub.refl g, (fun i L hi hn => by rw [hn] at hi; cases hi), (fun i L hi hn => by rw [hn] at hi; cases hi), Nat.le_refl _, fun _ _ hl => hl, hE.size, hE.frame, hE.os, hE.tape, hE.output⟩


end

section
variable {P : Program} {C : CxF} {call : CallF} {round : RoundF} {mb : Bool} {fuel : Nat}

theorem run_take {w : World} {r : Nat} (h : w.heap[r]? = some (.deferred (some []))) : (Instr.takeDeferred r).run P w = .ok [] (setW w r (.deferred none)) := by
  simp [Instr.takeDeferred, getObj, setObj, Sem.run, h, setW]

/-! ### Deferred calls that recover -/

theorem wpSIn_mono {F : Fence} {n : Nat} {c : Code} {Q Q' : Exit → Act → List Frame → World → Prop} {a : Act} {cs : List Frame} {w : World} (h : c.wpSIn F n P Q a cs w) (hq : ∀ e a cs w, Q e a cs w → Q' e a cs w) : c.wpSIn F n P Q' a cs w :=
  fun b k h1 h2 h3 h4 => let ⟨e, a', cs', w', l, q, r⟩ := h b k h1 h2 h3 h4; ⟨e, a', cs', w', l, hq _ _ _ _ q, r⟩

def inBlockS (id : Nat) (Q : Exit → Act → List Frame → World → Prop) : Exit → Act → List Frame → World → Prop
  | .exit j, a, cs, w => if j = id then Q .normal a cs w else Q (.exit j) a cs w
  | e, a, cs, w => Q e a cs w

theorem wpSIn_block {F : Fence} {n : Nat} {id : Nat} {c : Code} {Q : Exit → Act → List Frame → World → Prop} {a : Act} {cs : List Frame} {w : World} (h : c.wpSIn F n P (inBlockS id Q) a cs w) : (Code.block id c).wpSIn F n P Q a cs w := by
  intro b k hk hro hb hr
  have h0 : (lone (b.atR a (.code (.block id c) :: k)) cs w).fenced P F := fenced_calm hb hr rfl
  obtain ⟨e, a₁, cs₁, w₁, hl, hq, harr⟩ := h b (.inBlock id :: k) hk hro hb hr
  cases e with
  | normal => exact ⟨.normal, a₁, cs₁, w₁, hl, hq, .head h0 stepR_block (StepsIn.trans harr (.one (fenced_calm hb (hl ▸ hr) rfl) stepR_inBlock))⟩
  | exit id' =>
    by_cases hid : id' = id
    · simp only [inBlockS, hid, if_true] at hq
      exact ⟨.normal, a₁, cs₁, w₁, hl, hq, .head h0 stepR_block (harr.1 k (by simp [exitTo, hid]))⟩
    · simp only [inBlockS, hid, if_false] at hq
      have this : (id == id') = false := by simp; exact fun h => hid h.symm
      have hx : exitTo id' (.inBlock id :: k) = exitTo id' k := by simp [exitTo, this]
      exact ⟨.exit id', a₁, cs₁, w₁, hl, hq, fun k' hk => .head h0 stepR_block (harr.1 k' (by rw [hx]; exact hk)),
        fun hr' hk => let ⟨k₁, h1, h2⟩ := harr.2 hr' (by rw [hx]; exact hk); ⟨k₁, h1, .head h0 stepR_block h2⟩⟩
  | goto l =>
    have hx : gotoIn l (.inBlock id :: k) = gotoIn l k := by simp [gotoIn]
    exact ⟨_, a₁, cs₁, w₁, hl, hq, fun k' hk => .head h0 stepR_block (harr.1 k' (by rw [hx]; exact hk)),
      fun hr' hk => let ⟨k₁, h1, h2⟩ := harr.2 hr' (by rw [hx]; exact hk); ⟨k₁, h1, .head h0 stepR_block h2⟩⟩
  | ret => exact ⟨_, a₁, cs₁, w₁, hl, hq, .of_steps (.one h0 stepR_block) harr⟩
  | panic ch => exact ⟨_, a₁, cs₁, w₁, hl, hq, .of_steps (.one h0 stepR_block) harr⟩
  | outgrown => exact ⟨_, a₁, cs₁, w₁, hl, hq, .of_steps (.one h0 stepR_block) harr⟩

/-- How the frame below leaves. -/
def ModeRel (g : Inj) : AMode → FrameMode → Prop
  | .ret, u => u = .returning
  | .pan v r, u => ∃ x, u = .panicking [{ v := x, recovered := r }] ∧ VRel g v x

theorem ModeRel.mono {g g' : Inj} (hs : Sub g g') : ∀ {m : AMode} {u : FrameMode}, ModeRel g m u → ModeRel g' m u
  | .ret, _, h => h
  | .pan _ _, _, ⟨x, h1, h2⟩ => ⟨x, h1, h2.mono hs⟩

theorem ModeRel.run {g : Inj} : ∀ {m : AMode} {u : FrameMode}, ModeRel g m u → u ≠ .run
  | .ret, _, h => by subst h; simp
  | .pan _ _, _, ⟨x, h1, _⟩ => by subst h1; simp

theorem ModeRel.settle {g : Inj} : ∀ {m : AMode} {u : FrameMode}, ModeRel g m u → ModeRel g (settleA m) (Go.settle u)
  | .ret, _, h => by subst h; rfl
  | .pan v r, _, ⟨x, h1, h2⟩ => by
    subst h1
    cases r with
    | true => rfl
    | false => exact ⟨x, rfl, h2⟩

def CodeQS (ng : Cx) (hp : Hp) (g : Inj) (w : World) (a : Act) (c0 : Frame) (cs : List Frame) (x : (Ex × Tm × Hp) × AMode) (e : Exit) (a' : Act) (cs' : List Frame) (w' : World) : Prop :=
  Touch hp x.1.2.2 ∧ ∃ g', ExRel g' x.1.1 e ∧ HRel ng g' x.1.2.2.heap w' ∧ Ext g hp.heap w g' x.1.2.2.heap w' ∧ FRel g' x.1.2.1 a' ∧ a'.tmps.size = a.tmps.size ∧ ∃ u', cs' = { c0 with mode := u' } :: cs ∧ ModeRel g' x.2 u'

theorem CodeQS.trans {ng : Cx} {hp hp' : Hp} {x : (Ex × Tm × Hp) × AMode} {g g' : Inj} {w w' : World} {a a' : Act} {u : FrameMode} {c0 : Frame} {cs cs'' : List Frame} {e : Exit} {a'' : Act} {w'' : World} (h0 : HRel ng g hp.heap w) (ht : Touch hp hp') (hE : Ext g hp.heap w g' hp'.heap w')
    (hs : a'.tmps.size = a.tmps.size) (h : CodeQS ng hp' g' w' a' { c0 with mode := u } cs x e a'' cs'' w'') : CodeQS ng hp g w a c0 cs x e a'' cs'' w'' := by
  obtain ⟨h0', g'', h1, h2, h3, h4, h5, u', h6, h7⟩ := h
  exact ⟨ht.trans h0', g'', h1, h2, hE.trans h0 h3, h4, h5.trans hs, u', h6, h7⟩

theorem CodeQS.move {C : CxF} (hC : CtxOk C) {F F' : List Fact} {hp : Hp} {x : (Ex × Tm × Hp) × AMode} {g : Inj} {w : World} {a : Act} {c0 : Frame} {cs cs' : List Frame} {e : Exit} {a' : Act} {w' : World} (hF : Holds g.sig F) (h : CodeQS (C F') hp g w a c0 cs x e a' cs' w') : CodeQS (C F) hp g w a c0 cs x e a' cs' w' := by
  obtain ⟨h0, g', h1, h2, h3, h4, h5, h6⟩ := h
  exact ⟨h0, g', h1, hC.move h2 (by rw [h3.sub.sig]; exact hF), h3, h4, h5, h6⟩

theorem isRec_spec {op : Op} (h : isRec op = true) : ∃ c, op = .call c ∧ c.callee = .builtin .recover := by
  unfold isRec at h
  split at h
  · rename_i c
    split at h
    · rename_i b hb
      split at h
      · exact ⟨c, rfl, hb⟩
      · cases h
    · cases h
  · cases h

theorem opsS_sound {ng : Cx} {ops : Array Oper} {g : Inj} {H : List Blk} {w : World} (hH : HRel ng g H w) {Q : Exit → Act → List Frame → World → Prop} {c0 : Frame} {cs : List Frame} : ∀ (l : List Nat) (t t' : Tm) (m m' : AMode) (u : FrameMode) (a : Act), opsS P ng ops l t m = some (t', m') → FRel g t a → ModeRel g m u →
    (∀ a' u', FRel g t' a' → a'.tmps.size = a.tmps.size → ModeRel g m' u' → Q .normal a' ({ c0 with mode := u' } :: cs) w) → wpOpsSIn (FR none) 0 P ops Q l a ({ c0 with mode := u } :: cs) w
  | [], t, t', m, m', u, a, h, ht, hm, k => by
    simp only [opsS, Option.some.injEq, Prod.mk.injEq] at h
    obtain ⟨rfl, rfl⟩ := h
    exact k a u ht rfl hm
  | i :: l, t, t', m, m', u, a, h, ht, hm, k => by
    simp only [opsS] at h
    cases ho : ops[i]? with
    | none => rw [ho] at h; cases h
    | some o =>
      rw [ho] at h
      simp only at h
      cases hgd : o.guard with
      | some _ => rw [hgd] at h; cases h
      | none =>
        rw [hgd] at h
        simp only at h
        have hw : Region.wanted o (yielded ops a.tmps) = true := by simp [Region.wanted, hgd]
        simp only [wpOpsSIn, ho]
        refine ⟨fun _ _ => trivial, ?_⟩
        rw [if_pos hw]
        cases hr : isRec o.op with
        | true =>
          rw [hr] at h
          obtain ⟨c, hop, hc⟩ := isRec_spec hr
          have hex : (execOp a.eval o).run P w = .ok .recover w := by
            obtain ⟨dst, op, type, pos, after, guard⟩ := o
            simp only at hop
            subst hop
            simp [execOp, resolve, hc, invoke, builtin]
          rw [hex]
          simp only
          cases m with
          | ret =>
            simp only at h
            cases hm
            simp only [recoverD]
            refine opsS_sound hH l _ t' _ m' .returning (a.put o.dst .nilIface) h (ht.put o.dst .niliface) rfl fun a' u' q1 q2 q3 => k a' u' q1 (q2.trans (put_size a o.dst _).1) q3
          | pan v r =>
            obtain ⟨x, rfl, hx⟩ := hm
            cases r with
            | false =>
              simp only at h
              simp only [recoverD]
              exact opsS_sound hH l _ t' _ m' _ (a.put o.dst x) h (ht.put o.dst hx) ⟨x, rfl, hx⟩ fun a' u' q1 q2 q3 => k a' u' q1 (q2.trans (put_size a o.dst _).1) q3
            | true =>
              simp only at h
              simp only [recoverD]
              exact opsS_sound hH l _ t' _ m' _ (a.put o.dst .nilIface) h (ht.put o.dst .niliface) ⟨x, rfl, hx⟩ fun a' u' q1 q2 q3 => k a' u' q1 (q2.trans (put_size a o.dst _).1) q3
        | false =>
          rw [hr] at h
          simp only at h
          split at h
          · rename_i r hp
            have hρ : ERel g ng t a.eval := ⟨fun x v hv => ht.1.eval hH.sig hH.glob hv, hH.sig⟩
            obtain ⟨v, h1, h2⟩ := pureA_sound w hρ hp
            rw [h1]
            simp only
            exact opsS_sound hH l _ t' _ m' u (a.put o.dst v) h (ht.put o.dst h2) hm fun a' u' q1 q2 q3 => k a' u' q1 (q2.trans (put_size a o.dst _).1) q3
          · cases h

theorem blockX_touch {hp : Hp} {id : Nat} {x : Ex × Tm × Hp} (h : Touch hp x.2.2) : Touch hp (blockX id x).2.2 := by
  unfold blockX
  split
  · split <;> exact h
  · exact h

theorem codeS_lift_touch (E : Env P C call round) {c : Code} (m : AMode) (F : List Fact) (t : Tm) (hp : Hp) : AllT (fun x => Touch hp x.1.2.2) (bindT F (codeT P C mb fuel call round false c F t hp) fun _ x => .leaf (x, m)) := by
  refine all_bind (Q := fun x => Touch hp x.2.2) ?_ ((codeT_sound E c false).touch F t hp)
  intro _ x h
  exact h

theorem codeS_touch (E : Env P C call round) : ∀ (c : Code) (F : List Fact) (t : Tm) (hp : Hp) (m : AMode), AllT (fun x => Touch hp x.1.2.2) (codeS P C mb fuel call round c F t hp m)
  | .seq a b, F, t, hp, m => by
    simp only [codeS]
    refine all_bind (Q := fun x => Touch hp x.1.2.2) ?_ (codeS_touch E a F t hp m)
    rintro F' ⟨⟨e, t', hp'⟩, m'⟩ h
    cases e with
    | normal => exact (codeS_touch E b F' t' hp' m').mono fun x hx => h.trans hx
    | _ => exact h
  | .cond c a b, F, t, hp, m => by
    simp only [codeS]
    split
    · split
      · exact codeS_touch E a F t hp m
      · exact codeS_touch E b F t hp m
    · trivial
  | .block id c, F, t, hp, m => by
    simp only [codeS]
    refine all_bind (Q := fun x => Touch hp x.1.2.2) ?_ (codeS_touch E c F t hp m)
    intro _ x h
    exact blockX_touch (hp := hp) (x := x.1) h
  | .region id ops draw, F, t, hp, m => by
    simp only [codeS]
    split
    · split
      · split
        · exact Touch.refl _
        · trivial
      · trivial
    · exact codeS_lift_touch E m F t hp
  | .skip, F, t, hp, m => by
    simp only [codeS]
    exact codeS_lift_touch E m F t hp
  | .label _, F, t, hp, m => by
    simp only [codeS]
    exact codeS_lift_touch E m F t hp
  | .exit _, F, t, hp, m => by
    simp only [codeS]
    exact codeS_lift_touch E m F t hp
  | .ret, F, t, hp, m => by
    simp only [codeS]
    exact codeS_lift_touch E m F t hp
  | .loop _, F, t, hp, m => by
    simp only [codeS]
    exact codeS_lift_touch E m F t hp
  | .rangeFunc .., F, t, hp, m => by
    simp only [codeS]
    exact codeS_lift_touch E m F t hp
  | .goto _, F, t, hp, m => by
    simp only [codeS]
    exact codeS_lift_touch E m F t hp
  | .scope _, F, t, hp, m => by
    simp only [codeS]
    exact codeS_lift_touch E m F t hp
  | .refuse _, F, t, hp, m => by
    simp only [codeS]
    exact codeS_lift_touch E m F t hp

theorem codeS_lift (E : Env P C call round) {c : Code} {F : List Fact} {t : Tm} {hp : Hp} {m : AMode} {Q : (Ex × Tm × Hp) × AMode → Prop} {g : Inj} {w : World} {a : Act} {c0 : Frame} {cs : List Frame} {u : FrameMode} (hH : HRel (C F) g hp.heap w) (ht : FRel g t a) (hm : ModeRel g m u)
    (hs : Sat g.sig Q (bindT F (codeT P C mb fuel call round false c F t hp) fun _ x => .leaf (x, m))) : c.wpSIn (FR none) 0 P (fun e a' cs' w' => ∃ x, Q x ∧ CodeQS (C F) hp g w a c0 cs x e a' cs' w') a ({ c0 with mode := u } :: cs) w := by
  have hs := sat_bind (E.ok.facts hH) hs
  refine wpSIn_of_wpIn rfl (wpIn_mono ((codeT_sound (mb := mb) (fuel := fuel) E c false).wp F t hp _ none g w a (fun _ => rfl) hH ht hs) ?_)
  rintro e a' w' ⟨x, ⟨F', _, q⟩, h0, g', h1, h2, h3, h4, h5⟩
  exact ⟨(x, m), q, h0, g', h1, h2, h3, h4, h5, u, rfl, hm.mono h3.sub⟩

theorem codeS_sound (E : Env P C call round) : ∀ (c : Code) (F : List Fact) (t : Tm) (hp : Hp) (m : AMode) (Q : (Ex × Tm × Hp) × AMode → Prop) (g : Inj) (w : World) (a : Act) (c0 : Frame) (cs : List Frame) (u : FrameMode), HRel (C F) g hp.heap w → FRel g t a → ModeRel g m u →
    Sat g.sig Q (codeS P C mb fuel call round c F t hp m) → c.wpSIn (FR none) 0 P (fun e a' cs' w' => ∃ x, Q x ∧ CodeQS (C F) hp g w a c0 cs x e a' cs' w') a ({ c0 with mode := u } :: cs) w
  | .seq x y, F, t, hp, m, Q, g, w, a, c0, cs, u, hH, ht, hm, hs => by
    simp only [codeS] at hs
    have hs := sat_bind (E.ok.facts hH) hs
    refine wpSIn_seq (wpSIn_mono (codeS_sound E x F t hp m _ g w a c0 cs u hH ht hm hs) ?_)
    rintro e a' cs' w' ⟨⟨⟨ex, t', hp'⟩, m'⟩, ⟨F', hF', q⟩, h0, g', h1, h2, h3, h4, h5, u', rfl, h6⟩
    have hF0 : Holds g.sig F := E.ok.facts hH
    cases ex with
    | normal =>
      cases e <;> simp only [ExRel] at h1
      have := codeS_sound E y F' t' hp' m' Q g' w' a' c0 cs u' (E.ok.move h2 (by rw [h3.sub.sig]; exact hF')) h4 h6 (by rw [h3.sub.sig]; exact q)
      refine wpSIn_mono this ?_
      rintro e2 a2 cs2 w2 ⟨x2, q2, hq2⟩
      refine ⟨x2, q2, ?_⟩
      exact CodeQS.trans (c0 := c0) (u := c0.mode) hH h0 h3 h5 (hq2.move E.ok (by rw [h3.sub.sig]; exact hF0))
    | exit i =>
      cases e <;> simp only [ExRel] at h1
      exact ⟨_, q, h0, g', h1, h2, h3, h4, h5, u', rfl, h6⟩
    | ret =>
      cases e <;> simp only [ExRel] at h1
      exact ⟨_, q, h0, g', trivial, h2, h3, h4, h5, u', rfl, h6⟩
    | pan v =>
      cases e <;> simp only [ExRel] at h1
      exact ⟨_, q, h0, g', h1, h2, h3, h4, h5, u', rfl, h6⟩
  | .cond c x y, F, t, hp, m, Q, g, w, a, c0, cs, u, hH, ht, hm, hs => by
    simp only [codeS] at hs
    split at hs
    · rename_i v hv
      have hc := ht.1.eval hH.sig hH.glob hv
      have hcv : a.eval c = .bool v := by generalize a.eval c = z at hc; cases hc; rfl
      refine wpSIn_cond hcv ?_
      cases v with
      | true => exact codeS_sound E x F t hp m Q g w a c0 cs u hH ht hm hs
      | false => exact codeS_sound E y F t hp m Q g w a c0 cs u hH ht hm hs
    · exact hs.elim
  | .block id c, F, t, hp, m, Q, g, w, a, c0, cs, u, hH, ht, hm, hs => by
    simp only [codeS] at hs
    have hs := sat_bind (E.ok.facts hH) hs
    refine wpSIn_block (wpSIn_mono (codeS_sound E c F t hp m _ g w a c0 cs u hH ht hm hs) ?_)
    rintro e a' cs' w' ⟨⟨⟨ex, t', hp'⟩, m'⟩, ⟨F', hF', q⟩, h0, g', h1, h2, h3, h4, h5, u', rfl, h6⟩
    cases ex with
    | normal =>
      cases e <;> simp only [ExRel] at h1
      exact ⟨_, q, h0, g', trivial, h2, h3, h4, h5, u', rfl, h6⟩
    | exit i =>
      cases e <;> simp only [ExRel] at h1
      subst h1
      simp only [inBlockS]
      simp only [blockX] at q
      split at q
      · rename_i hb
        rw [if_pos (Nat.eq_of_beq_eq_true hb)]
        exact ⟨_, q, h0, g', trivial, h2, h3, h4, h5, u', rfl, h6⟩
      · rename_i hb
        rw [if_neg (Nat.ne_of_beq_eq_false hb)]
        exact ⟨_, q, h0, g', rfl, h2, h3, h4, h5, u', rfl, h6⟩
    | ret =>
      cases e <;> simp only [ExRel] at h1
      exact ⟨_, q, h0, g', trivial, h2, h3, h4, h5, u', rfl, h6⟩
    | pan v =>
      cases e <;> simp only [ExRel] at h1
      exact ⟨_, q, h0, g', h1, h2, h3, h4, h5, u', rfl, h6⟩
  | .region id ops draw, F, t, hp, m, Q, g, w, a, c0, cs, u, hH, ht, hm, hs => by
    simp only [codeS] at hs
    split at hs
    · split at hs
      · split at hs
        · rename_i t' m' ho
          refine wpSIn_region (opsS_sound hH _ _ _ _ _ _ _ ho ht hm fun a' u' q1 q2 q3 => ?_)
          exact ⟨_, hs, Touch.refl _, g, trivial, hH, Ext.refl _ _ _, q1, q2, u', rfl, q3⟩
        · exact hs.elim
      · exact hs.elim
    · exact codeS_lift E hH ht hm hs
  | .skip, F, t, hp, m, Q, g, w, a, c0, cs, u, hH, ht, hm, hs => by
    simp only [codeS] at hs
    exact codeS_lift E hH ht hm hs
  | .label _, F, t, hp, m, Q, g, w, a, c0, cs, u, hH, ht, hm, hs => by
    simp only [codeS] at hs
    exact codeS_lift E hH ht hm hs
  | .exit _, F, t, hp, m, Q, g, w, a, c0, cs, u, hH, ht, hm, hs => by
    simp only [codeS] at hs
    exact codeS_lift E hH ht hm hs
  | .ret, F, t, hp, m, Q, g, w, a, c0, cs, u, hH, ht, hm, hs => by
    simp only [codeS] at hs
    exact codeS_lift E hH ht hm hs
  | .loop _, F, t, hp, m, Q, g, w, a, c0, cs, u, hH, ht, hm, hs => by
    simp only [codeS] at hs
    exact codeS_lift E hH ht hm hs
  | .rangeFunc .., F, t, hp, m, Q, g, w, a, c0, cs, u, hH, ht, hm, hs => by
    simp only [codeS] at hs
    exact codeS_lift E hH ht hm hs
  | .goto _, F, t, hp, m, Q, g, w, a, c0, cs, u, hH, ht, hm, hs => by
    simp only [codeS] at hs
    exact codeS_lift E hH ht hm hs
  | .scope _, F, t, hp, m, Q, g, w, a, c0, cs, u, hH, ht, hm, hs => by
    simp only [codeS] at hs
    exact codeS_lift E hH ht hm hs
  | .refuse _, F, t, hp, m, Q, g, w, a, c0, cs, u, hH, ht, hm, hs => by
    simp only [codeS] at hs
    exact codeS_lift E hH ht hm hs

theorem dcall_touch (E : Env P C call round) {F : List Fact} {f : FuncId} {args : List AVal} {m : AMode} {hp : Hp} : AllT (fun y => Touch hp y.2) (dcall P C mb fuel call round F f args m hp) := by
  unfold dcall
  split
  · split
    · refine all_bind (Q := fun x => Touch hp x.1.2.2) ?_ (codeS_touch E _ F _ hp m)
      rintro F' x h
      split
      · split
        · split
          · exact h
          · trivial
        · split
          · exact h
          · trivial
        · trivial
      · trivial
    · trivial
  · trivial

theorem dcall_sound (E : Env P C call round) {F : List Fact} {f : FuncId} {args : List AVal} {m : AMode} {hp : Hp} {Q : AMode × Hp → Prop} {g : Inj} {w : World} {args' : Array Value} {u : FrameMode} (hH : HRel (C F) g hp.heap w) (ha : LRel g args args'.toList) (hm : ModeRel g m u)
    (hs : Sat g.sig Q (dcall P C mb fuel call round F f args m hp)) : CallsDIn (FR none) 0 P f args' u w fun e u' w' => ∃ v y g', e = .returned v ∧ Q y ∧ Touch hp y.2 ∧ HRel (C F) g' y.2.heap w' ∧ Ext g hp.heap w g' y.2.heap w' ∧ ModeRel g' y.1 u' := by
  unfold dcall at hs
  split at hs
  · rename_i fn hfn
    split at hs
    · rename_i c hb
      have hs := sat_bind (E.ok.facts hH) hs
      refine callsDIn_of_wpSIn hfn hb trivial fun c0 cs hu => ?_
      have hc0 : c0 = { c0 with mode := u } := by subst hu; rfl
      rw [hc0]
      refine wpSIn_mono (codeS_sound E c F (entryA args fn.ntmps) hp m _ g w _ c0 cs u hH ⟨enter_trel ha fn.ntmps, .nil⟩ hm hs) ?_
      rintro e a' cs' w' ⟨⟨⟨ex, t', hp'⟩, m'⟩, ⟨F', hF', q⟩, h0, g', h1, h2, h3, h4, h5, u', rfl, h6⟩
      simp only at q
      split at q
      · rename_i hdf
        have hd : a'.defers = [] := by
          have := h4.2
          simp only at this hdf
          rw [hdf] at this
          cases hda : a'.defers with
          | nil => rfl
          | cons d ds => rw [hda] at this; cases this
        have fin : ∀ vs, resA P t' hp'.heap fn.results.toList = some vs → Q (m', hp') → a'.defers = [] ∧ ∃ u2, ({ c0 with mode := u' } :: cs : List Frame) = { ({ c0 with mode := u } : Frame) with mode := u2 } :: cs ∧ ∃ v, (results fn a'.tmps).run P w' = .ok v w' ∧ ∃ v' y g', (Ending.returned v) = .returned v' ∧ Q y ∧ Touch hp y.2 ∧ HRel (C F) g' y.2.heap w' ∧ Ext g hp.heap w g' y.2.heap w' ∧ ModeRel g' y.1 u2 := by
          intro vs hvs hq
          obtain ⟨v, r1, _⟩ := results_run h2 h4.1 hvs
          exact ⟨hd, u', rfl, v, r1, v, (m', hp'), g', rfl, hq, h0, h2, h3, h6⟩
        cases ex with
        | normal =>
          cases e <;> simp only [ExRel] at h1
          simp only at q
          split at q
          · rename_i vs hvs; exact fin vs hvs q
          · exact q.elim
        | ret =>
          cases e <;> simp only [ExRel] at h1
          simp only at q
          split at q
          · rename_i vs hvs; exact fin vs hvs q
          · exact q.elim
        | exit i => exact q.elim
        | pan v => exact q.elim
      · exact q.elim
    · exact hs.elim
  · exact hs.elim

theorem leaveT_touch (E : Env P C call round) : ∀ (l : List ADef) (F : List Fact) (m : AMode) (hp : Hp), AllT (fun y => Touch hp y.2) (leaveT P C mb fuel call round l F m hp)
  | [], F, m, hp => Touch.refl _
  | .mark b :: l, F, m, hp => by
    simp only [leaveT]
    split
    · rename_i hb
      exact (leaveT_touch E l F m _).mono fun y hy => (set_touchK ⟨_, hb, by simp⟩ (fun la h => by cases h)).trans hy
    · trivial
  | .fn fv cap args :: l, F, m, hp => by
    simp only [leaveT]
    split
    · split
      · exact all_bind (Q := fun y => Touch hp y.2) (fun F' x h => (leaveT_touch E l F' _ x.2).mono fun y hy => h.trans hy) (dcall_touch E)
      · trivial
    · trivial

theorem leaves_T (E : Env P C call round) {fn : Func} {tmps : Array Value} {R : Ending → World → Prop} : ∀ (df : List ADef) (ds : List Deferred) (F : List Fact) (m : AMode) (hp : Hp) (Q : AMode × Hp → Prop) (g : Inj) (w : World) (u : FrameMode), HRel (C F) g hp.heap w → DfRel g df ds → ModeRel g m u →
    Sat g.sig Q (leaveT P C mb fuel call round df F m hp) → (∀ y g' w' u', Q y → HRel (C F) g' y.2.heap w' → Ext g hp.heap w g' y.2.heap w' → Touch hp y.2 → ModeRel g' y.1 u' → LeavesIn (FR none) 0 P fn tmps R [] u' w') → LeavesInM (FR none) 0 P fn tmps R ds u w
  | [], _, F, m, hp, Q, g, w, u, hH, hd, hm, hs, k => by
    cases hd
    exact k (m, hp) g w u hs hH (Ext.refl _ _ _) (Touch.refl _) hm
  | .mark b :: l, _, F, m, hp, Q, g, w, u, hH, hd, hm, hs, k => by
    cases hd with
    | mark _ L _ md hL hd =>
    simp only [leaveT] at hs
    split at hs
    · rename_i hb
      obtain ⟨L', hL', hB⟩ := hH.blk b _ hb (by simp)
      rw [hL] at hL'; cases hL'
      obtain ⟨k1, k2⟩ := HRel.writeK hH (k' := .gone) ⟨_, hb, by simp⟩ hL (setW_wr w L.blk (.deferred none)) trivial
      refine ⟨hm.run, .inl ⟨L.blk, _, rfl, run_take hB, ?_⟩⟩
      exact leaves_T E l md F m _ Q g _ u k1 hd hm hs fun y g' w' u' q1 q2 q3 q4 q5 => k y g' w' u' q1 q2 (k2.trans hH q3) ((set_touchK ⟨_, hb, by simp⟩ (fun la h => by cases h)).trans q4) q5
    · exact hs.elim
  | .fn fv cap args :: l, _, F, m, hp, Q, g, w, u, hH, hd, hm, hs, k => by
    cases hd with
    | fn _ _ _ cap' args' _ md hcap hargs hd =>
    simp only [leaveT] at hs
    split at hs
    · rename_i f
      split at hs
      · rename_i fa hen
        obtain ⟨f', fargs⟩ := fa
        have hf' : f' = f := by
          unfold enterA at hen
          split at hen
          · split at hen
            · cases hen; rfl
            · cases hen
          · cases hen
        subst hf'
        obtain ⟨k1, _⟩ := enterA_run (P := P) (w := w) hen (args' ++ cap')
        have hs := sat_bind (E.ok.facts hH) hs
        have hall : LRel g (args ++ cap) (args' ++ cap').toList := by simpa using hargs.append hcap
        refine ⟨hm.run, .inr ⟨(fun h => by simp [FR, Fence.wide] at h), .func f', cap', f', args' ++ cap', rfl, ?_, fun _ _ => trivial, ?_⟩⟩
        · simpa [invoke] using k1
        · refine CallsDIn.mono (dcall_sound E hH hall hm hs) ?_
          rintro e u' w' ⟨v, y, g', rfl, ⟨F', hF', q⟩, h0, h2, h3, h4⟩
          refine leaves_T E l md F' (settleA y.1) y.2 Q g' w' (settle u') (E.ok.move h2 (by rw [h3.sub.sig]; exact hF')) (hd.mono h3.sub) h4.settle (by rw [h3.sub.sig]; exact q) ?_
          intro y2 g2 w2 u2 q1 q2 q3 q4 q5
          exact k y2 g2 w2 u2 q1 (E.ok.move q2 (by rw [q3.sub.sig, h3.sub.sig]; exact E.ok.facts hH)) (h3.trans hH q3) (h0.trans q4) q5
      · exact hs.elim
    · exact hs.elim

theorem rebase {hp h : Hp} (t : Touch ⟨hp.heap, []⟩ h) : Touch hp ⟨h.heap, h.log ++ hp.log⟩ := by
  obtain ⟨pre, e1, e2⟩ := t.log
  simp only [List.append_nil] at e1
  exact ⟨t.len, ⟨pre, by rw [e1], e2⟩, t.live, t.loops⟩

theorem leaveA_touch {v : AVal} {hp h : Hp} (t : Touch ⟨hp.heap, []⟩ h) : Touch hp (leaveA v hp h).2 := by
  unfold leaveA
  split
  · exact Touch.refl _
  · exact rebase t

theorem endOut_touch {fn : Func} {tm : Tm} {hp : Hp} {y : AMode × Hp} (t : Touch ⟨hp.heap, []⟩ y.2) : AllT (fun z => Touch hp z.2) (endOut P fn tm hp y) := by
  unfold endOut
  split
  · split
    · exact rebase t
    · trivial
  · split
    · exact leaveA_touch t
    · trivial

theorem endCall_touch (E : Env P C call round) {F : List Fact} {fn : Func} {hp : Hp} {x : Ex × Tm × Hp} (t : Touch ⟨hp.heap, []⟩ x.2.2) : AllT (fun y => Touch hp y.2) (endCall P C mb fuel call round F fn hp x) := by
  unfold endCall
  split
  · exact all_bind (Q := fun y => Touch x.2.2 y.2) (fun F' y h => endOut_touch (t.trans h)) (leaveT_touch E _ _ _ _)
  · trivial

theorem callB_all (E : Env P C call round) (F : List Fact) (hp : Hp) (g0 : Inj) (w0 : World) (T : Tree (Out × Hp)) (Q : Out × Hp → Prop) (hT : AllT (fun y => Touch hp y.2) T) :
    AllT (fun y => Touch hp y.2) (mgT (mgO (C F) hp) (mgOP (C F) hp) (mgOr hp) T) ∧ (Sat g0.sig Q (mgT (mgO (C F) hp) (mgOP (C F) hp) (mgOr hp) T) → Sat g0.sig (fun x => ∃ y, Q y ∧ WO (C F) hp g0 w0 x y) T) :=
  have := sat_mg (σ := g0.sig) (W := WO (C F) hp g0 w0) (S := fun y => Touch hp y.2) (f := mgO (C F) hp) (fp := mgOP (C F) hp) (fo := mgOr hp) (fun _ _ _ h => h) (fun _ _ _ h k e w q => k e w (h e w q))
    (fun i x y z sx sy h => ⟨(mgO_sound sx sy h).1, ((mgO_sound sx sy h).2 g0 w0).1, ((mgO_sound sx sy h).2 g0 w0).2⟩)
    (fun i k x y z sx sy h => ⟨(mgOP_sound sx sy h).1, ((mgOP_sound sx sy h).2 g0 w0).1, ((mgOP_sound sx sy h).2 g0 w0).2⟩)
    (fun x y z sx sy h => by obtain ⟨e1, e2⟩ := mgOr_eq sx sy h; exact ⟨e1 ▸ sx, fun e w q => e1 ▸ q, fun e w q => e2 ▸ q⟩) hT
  ⟨this.1, this.2 Q⟩

theorem callB_touch (E : Env P C call round) : CallTouch (callB P C mb fuel call round) := by
  intro F f args hp
  unfold callB
  split
  · split
    · refine (callB_all E F hp ⟨fun _ => none, ⟨fun _ => 0, fun _ => false, fun _ => .empty, fun _ _ => 0, fun _ => none⟩, fun _ => none⟩ default _ (fun _ => True) ?_).1
      exact all_bind (Q := fun x => Touch ⟨hp.heap, []⟩ x.2.2) (fun F' x h => endCall_touch E h) ((codeT_sound E _ false).touch F _ _)
    · trivial
  · trivial

theorem callB_sound (E : Env P C call round) : CallSound P C (callB P C mb fuel call round) := by
  intro F f args hp Q g w args' hH ha hs
  unfold callB at hs
  split at hs
  · rename_i fn hfn
    split at hs
    · rename_i c hb
      have hT : AllT (fun y => Touch hp y.2) (bindT F (codeT P C mb fuel call round false c F (entryA args fn.ntmps) ⟨hp.heap, []⟩) fun F' x => endCall P C mb fuel call round F' fn hp x) :=
        all_bind (Q := fun x => Touch ⟨hp.heap, []⟩ x.2.2) (fun F' x h => endCall_touch E h) ((codeT_sound E c false).touch F _ _)
      have hs := (callB_all E F hp g w _ Q hT).2 hs
      have hs := sat_bind (E.ok.facts hH) hs
      refine calls_FR (r := none) (n := 0) (callsIn_of_wp_marks hfn hb trivial ?_)
      refine wpIn_mono ((codeT_sound (mb := mb) (fuel := fuel) E c false).wp F (entryA args fn.ntmps) ⟨hp.heap, []⟩ _ none g w _ (fun _ => rfl) hH ⟨enter_trel ha fn.ntmps, .nil⟩ hs) ?_
      rintro e a' w' ⟨⟨x, t', hp'⟩, ⟨F', hF', q⟩, h0, g', h1, h2, h3, h4, h5⟩
      unfold endCall at q
      split at q
      · rename_i m hmx
        have hHm := E.ok.move h2 (F' := F') (by rw [h3.sub.sig]; exact hF')
        have q := sat_bind (show Holds g.sig F' from hF') q
        have hF0 : Holds g.sig F := E.ok.facts hH
        -- what is told of a value
        have give : ∀ (h : Hp) (vs : List AVal) (g2 : Inj) (w2 : World) (u : Value), Touch ⟨hp.heap, []⟩ h → HRel (C F) g2 h.heap w2 → Ext g hp.heap w g2 h.heap w2 → VRel g2 (packA vs) u → (∃ y, Q y ∧ WO (C F) hp g w (leaveA (packA vs) hp h) y) → ∃ x, Q x ∧ OutQ (C F) hp g w x.1 x.2 (.returned u) w2 := by
          rintro h vs g2 w2 u t2 k1 k2 k3 ⟨y, hy, hw⟩
          refine ⟨y, hy, hw _ _ ?_⟩
          unfold leaveA
          split
          · rename_i hfree
            simp only [Bool.and_eq_true] at hfree
            have hsame : ∀ i, i < hp.heap.length → h.heap[i]? = hp.heap[i]? := by
              intro i hi
              obtain ⟨pre, e1, e2⟩ := t2.log
              simp only [List.append_nil] at e1
              exact e2 i hi (by rw [← e1]; exact oldOnly_spec hfree.2 i hi)
            obtain ⟨m1, m2⟩ := gc_rel hH k1 k2 hsame
            exact ⟨Touch.refl _, g, ⟨u, rfl, idFree_rel k2.sub.sig.symm k3 hfree.1⟩, m1, m2⟩
          · exact ⟨rebase t2, g2, ⟨u, rfl, k3⟩, k1, k2⟩
        have fin : ∀ u, ModeRel g' m u → LeavesInM (FR none) 0 P fn a'.tmps (fun e w' => ∃ x, Q x ∧ OutQ (C F) hp g w x.1 x.2 e w') a'.defers u w' := by
          intro u hu
          refine leaves_T E t'.df a'.defers F' m hp' _ g' w' u hHm h4.2 hu (by rw [h3.sub.sig]; exact q) ?_
          rintro ⟨m2, hp2⟩ g2 w2 u2 ⟨F2, hF2, q2⟩ k1 k2 k3 k4
          have k1' := E.ok.move k1 (F' := F) (by rw [k2.sub.sig, h3.sub.sig]; exact hF0)
          have hE2 := h3.trans hH k2
          have t2 := h0.trans k3
          unfold endOut at q2
          cases m2 with
          | ret =>
            cases k4
            simp only at q2
            split at q2
            · rename_i vs hvs
              obtain ⟨v, r1, r2⟩ := results_run k1' (h4.1.mono k2.sub) hvs
              exact ⟨v, r1, give hp2 vs g2 w2 v t2 k1' hE2 r2 q2⟩
            · exact q2.elim
          | pan v r =>
            obtain ⟨x, rfl, hx⟩ := k4
            cases r with
            | false =>
              obtain ⟨y, hy, hw⟩ := q2
              exact ⟨y, hy, hw _ _ ⟨rebase t2, g2, ⟨x, rfl, hx⟩, k1', hE2⟩⟩
            | true => exact q2.elim
        cases x with
        | pan v =>
          cases e <;> simp only [ExRel] at h1
          obtain ⟨u, rfl, hu⟩ := h1
          simp only [exMode, Option.some.injEq] at hmx
          subst hmx
          exact fin _ ⟨u, rfl, hu⟩
        | exit i => simp [exMode] at hmx
        | normal =>
          cases e <;> simp only [ExRel] at h1
          simp only [exMode, Option.some.injEq] at hmx
          subst hmx
          exact fin _ rfl
        | ret =>
          cases e <;> simp only [ExRel] at h1
          simp only [exMode, Option.some.injEq] at hmx
          subst hmx
          exact fin _ rfl
      · exact q.elim
    · exact hs.elim
  · exact hs.elim

/-- What is reckoned is the model's: at each depth. -/
theorem evD_env (hm : P.follows .mixedOrders = true) (hC : CtxOk C) (hh : ∀ F, Hooks P (C F)) : ∀ d, Env P C (evD P C mb fuel d).1 (evD P C mb fuel d).2
  | 0 => ⟨hm, hC, hh, fun _ _ _ _ => trivial, fun _ _ _ _ => trivial, fun _ _ _ _ _ _ _ _ _ _ h => h.elim, fun _ _ _ _ _ _ _ _ _ _ _ _ _ h => h.elim⟩
  | d + 1 => by
    have E := evD_env hm hC hh d
    exact ⟨hm, hC, hh, callB_touch E, roundB_touch E, callB_sound E, roundB_sound E⟩

end
end Go.Ev
