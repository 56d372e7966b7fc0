/- The evaluator: a region that draws its order, proved. -/
import Derived.Test.YtlhaklmnjdgjgacGreatEwN
namespace Go.Ev

section
variable {P : Program} {ng : Cx} {call : CallR} {ops : Array Oper} {ms : List Nat} {r1 : Nat}

theorem dops_trace : ∀ (l : List Oper) (k : Nat) (d d' : DS), dops P ng call ops ms r1 k l d = .ok d' →
    ∃ st : Nat → DS, st k = d ∧ (∀ (i : Nat) (o : Oper), l[i]? = some o → dstep P ng call ops ms r1 (k + i) o (st (k + i)) = .ok (st (k + i + 1))) ∧ st (k + l.length) = d'
  | [], k, d, d', h => by
    simp only [dops] at h; cases h
    exact ⟨fun _ => d, rfl, fun i o h => by simp at h, rfl⟩
  | o :: l, k, d, d', h => by
    simp only [dops] at h
    split at h
    · rename_i d1 h1
      obtain ⟨st, s1, s2, s3⟩ := dops_trace l (k + 1) d1 d' h
      refine ⟨fun i => if i = k then d else st i, by simp, ?_, ?_⟩
      · intro i q hq
        cases i with
        | zero =>
          simp at hq; subst hq
          simp only [Nat.add_zero, if_true]
          rw [if_neg (by omega), s1]; exact h1
        | succ i =>
          have := s2 i q (by simpa using hq)
          simp only
          rw [if_neg (by omega), if_neg (by omega)]
          rw [show k + (i + 1) = k + 1 + i by omega]; exact this
      · simp only [List.length_cons]
        rw [if_neg (by omega), show k + (l.length + 1) = k + 1 + l.length by omega]; exact s3
    · cases h
    · cases h

def DFact (P : Program) (ng : Cx) (ops : Array Oper) (ms : List Nat) (r1 : Nat) (i : Nat) (o : Oper) (d d' : DS) (v : AVal) (k : DK) : Prop :=
  match k with
  | .lite => d'.s.hp = d.s.hp ∧ d'.nx = d.nx ∧ Lite P ng ops.toList o (only d.t (o.looksAt ops)) v
  | .load b => d'.s.hp = d.s.hp ∧ d'.nx = d.nx ∧ wantedA ng ops.toList (only d.t (o.looksAt ops)) o = some true ∧ loadA P ng (only d.t (o.looksAt ops)) o.op d.s.hp.heap = some (v, b)
  | .fresh x c e => x = d.nx ∧ d'.nx = d.nx + 1 ∧ d.nx < r1 ∧ wantedA ng ops.toList (only d.t (o.looksAt ops)) o = some true ∧ (∃ m, freshA P ng (only d.t (o.looksAt ops)) o.op = some (c, e, m) ∧ v = m.val x) ∧
      d'.s.hp = ⟨d.s.hp.heap.set x (.cells c e), d.s.hp.log⟩
  | .mk x => x = d.nx ∧ d'.nx = d.nx + 1 ∧ d.nx < r1 ∧ wantedA ng ops.toList (only d.t (o.looksAt ops)) o = some true ∧ (∃ ty, o.op = .makeMap ty none) ∧ v = .map x ∧ d'.s.hp = ⟨d.s.hp.heap.set x (.map []), d.s.hp.log⟩
  | .ins x dd kk vv => d'.nx = d.nx ∧ wantedA ng ops.toList (only d.t (o.looksAt ops)) o = some true ∧ InsA P ng (only d.t (o.looksAt ops)) o.op x dd kk vv ∧ v = undefA ∧ ∃ l, d.s.hp.heap[x]? = some (.map l) ∧
      d'.s.hp = ⟨d.s.hp.heap.set x (.map (l ++ [(kk, vv)])), d.s.hp.log⟩
  | .eff pre => d'.nx = d.nx ∧ ∃ hm', Step P ng ops.toList o (only d.t (o.looksAt ops)) ⟨maskL (maskIds ms i 0 d.kds) d.s.hp.heap, []⟩ v hm' ∧
      d'.s.hp = ⟨restL d.s.hp.heap (maskIds ms i 0 d.kds) hm'.heap, hm'.log ++ d.s.hp.log⟩ ∧ pre = hm'.log

/-- What is said of calls in such a region. -/
def CallRSound (P : Program) (ng : Cx) (call : CallR) : Prop := ∀ f args hp v hp', call f args hp = .ok (v, hp') → CallP P ng f args hp (.val v) hp'

theorem mapOp_spec {t : Tm} {kds : List DK} {op : Op} {r : Option (Nat × TypeDesc × AVal × AVal)} (h : mapOp P ng t kds op = some r) :
    (r = none ∧ ∃ ty, op = .makeMap ty none) ∨ ∃ x d k v, r = some (x, d, k, v) ∧ InsA P ng t op x d k v := by
  unfold mapOp at h
  split at h
  · cases h; exact .inl ⟨rfl, _, rfl⟩
  · right
    rename_i ty m k v
    split at h
    · rename_i x hx
      split at h
      · split at h
        · rename_i kt vt hty
          split at h
          · rename_i d hd
            split at h
            · rename_i kv vv hk hv
              split at h
              · rename_i u hu
                cases h
                exact ⟨x, d, kv, vv, rfl, ty, m, k, v, kt, vt, u, rfl, hty, hd, hx, hk, hv, hu⟩
              · cases h
            · cases h
          · cases h
        · cases h
      · cases h
    · cases h
  · cases h

theorem dstep_spec (hcall : CallRSound P ng call) {i : Nat} {o : Oper} {d d' : DS} (h : dstep P ng call ops ms r1 i o d = .ok d') :
    ∃ v k, d'.t = putA d.t o.dst v ∧ d'.kds = d.kds ++ [k] ∧ DFact P ng ops ms r1 i o d d' v k := by
  unfold dstep at h
  split at h
  · split at h <;> cases h
  · rename_i hw
    cases h
    exact ⟨undefA, .lite, rfl, rfl, rfl, rfl, .inl ⟨hw, rfl⟩⟩
  · rename_i hw
    split at h
    · rename_i c hcl
      split at h
      · rename_i f args hres
        split at h
        · rename_i v s' hst
          cases h
          exact ⟨v, .eff s'.log, rfl, rfl, rfl, s', .call c f args v _ hw (isCallA_spec hcl) hres (hcall _ _ _ _ _ hst), rfl, rfl⟩
        · cases h
        · cases h
      · cases h
    · split at h
      · rename_i hmo
        split at h
        · rename_i hlt
          cases h
          rcases mapOp_spec hmo with ⟨_, ty, hty⟩ | ⟨x, d', k, v, hc, _⟩
          · exact ⟨_, .mk d.nx, rfl, rfl, rfl, rfl, Nat.blt_eq ▸ hlt, hw, ⟨ty, hty⟩, rfl, rfl⟩
          · cases hc
        · cases h
      · rename_i x dd kk vv hmo
        split at h
        · rename_i l hl
          cases h
          rcases mapOp_spec hmo with ⟨hc, _⟩ | ⟨x', d', k, v, hc, hi⟩
          · cases hc
          · cases hc
            exact ⟨undefA, .ins x dd kk vv, rfl, rfl, rfl, hw, hi, rfl, l, hl, rfl⟩
        · cases h
      · split at h
        · split at h
          · rename_i v hf
            cases h
            exact ⟨_, .lite, rfl, rfl, rfl, rfl, .inr ⟨hw, resO_ok hf⟩⟩
          · cases h
          · cases h
        · split at h
          · rename_i v b hl
            cases h
            exact ⟨_, .load b, rfl, rfl, rfl, rfl, hw, resO_ok hl⟩
          · cases h
          · cases h
        · split at h
          · rename_i c e m hf
            split at h
            · rename_i hlt
              cases h
              exact ⟨_, .fresh d.nx c e, rfl, rfl, rfl, rfl, Nat.blt_eq ▸ hlt, hw, ⟨m, resO_ok hf, rfl⟩, rfl⟩
            · cases h
          · cases h
          · cases h
        · split at h
          · rename_i v s' hf
            cases h
            exact ⟨v, .eff s'.log, rfl, rfl, rfl, s', .eff v _ hw (resO_ok hf), rfl, rfl⟩
          · cases h
          · cases h

theorem draw1_any {r : Option Nat} (hcall : CallRSound P ng call) {t t' : Tm} {shp shp' : Hp} (h : draw1 P ng call ops t shp = .ok (t', shp')) :
    Touch shp shp' ∧ ∀ g w a (Q : Exit → Act → World → Prop), HRel ng g shp.heap w → FRel g t a → (∀ a' w', CodeQ ng shp g w a (.normal, t', shp') .normal a' w' → Q .normal a' w') →
      wpAnyIn (FR r) 0 P .any ops Q ops.size (Array.replicate ops.size false) a w.drew := by
  unfold draw1 at h
  generalize hms : ancsA [] ops.toList = ms at h
  generalize hnf : nFresh P ops.toList = nf at h
  split at h
  · rename_i hstat
    split at h
    · rename_i d hd
      split at h
      · rename_i hdyn
        cases h
        obtain ⟨st, s1, s2, s3⟩ := dops_trace _ _ _ _ hd
        simp only [Nat.zero_add] at s2 s3
        have hlen : ops.toList.length = ops.size := by simp
        rw [hlen] at s3
        have s2 : ∀ (i : Nat) (o : Oper), ops[i]? = some o → dstep P ng call ops ms (shp.heap.length + nf) i o (st i) = Res.ok (st (i + 1)) := fun i o ho => s2 i o (by simpa using ho)
        have hex : ∀ i, i < ops.size → ∃ v k, ∃ o, ops[i]? = some o ∧ (st (i + 1)).t = putA (st i).t o.dst v ∧ (st (i + 1)).kds = (st i).kds ++ [k] ∧ DFact P ng ops ms (shp.heap.length + nf) i o (st i) (st (i + 1)) v k := by
          intro i hi
          have ho : ops[i]? = some ops[i] := by simp [hi]
          obtain ⟨v, k, h1, h2, h3⟩ := dstep_spec hcall (s2 i _ ho)
          exact ⟨v, k, ops[i], ho, h1, h2, h3⟩
        -- kinds
        have hkl : ∀ i, i ≤ ops.size → (st i).kds.length = i := by
          intro i
          induction i with
          | zero => intro _; rw [s1]; rfl
          | succ i ih =>
            intro hi
            obtain ⟨v, k, o, _, _, h2, _⟩ := hex i hi
            rw [h2]; simp [ih (by omega)]
        have hkp : ∀ i j, i ≤ j → j ≤ ops.size → ∀ m, m < i → (st i).kds[m]? = (st j).kds[m]? := by
          intro i j hij
          induction j with
          | zero => intro _ m hmi; omega
          | succ j ih =>
            intro hj m hmi
            rcases Nat.lt_or_ge i (j + 1) with h9 | h9
            · obtain ⟨v, k, o, _, _, h2, _⟩ := hex j hj
              rw [ih (by omega) (by omega) m hmi, h2, List.getElem?_append_left (by rw [hkl j (by omega)]; omega)]
            · have : i = j + 1 := by omega
              rw [this]
        let kd : Nat → DK := fun i => ((st ops.size).kds[i]?).getD .lite
        have hkd : ∀ i, i < ops.size → ∃ v, ∃ o, ops[i]? = some o ∧ (st (i + 1)).t = putA (st i).t o.dst v ∧ DFact P ng ops ms (shp.heap.length + nf) i o (st i) (st (i + 1)) v (kd i) := by
          intro i hi
          obtain ⟨v, k, o, ho, h1, h2, h3⟩ := hex i hi
          refine ⟨v, o, ho, h1, ?_⟩
          have e1 : (st (i + 1)).kds[i]? = some k := by
            have hl := hkl i (by omega)
            rw [h2, List.getElem?_append_right (by omega), hl]; simp
          have e2 := hkp (i + 1) ops.size hi (Nat.le_refl _) i (Nat.lt_succ_self i)
          have : kd i = k := by simp only [kd, ← e2, e1, Option.getD_some]
          rw [this]; exact h3
        have hkdi : ∀ i, i < ops.size → (st ops.size).kds[i]? = some (kd i) := by
          intro i hi
          have hl : i < (st ops.size).kds.length := by rw [hkl _ (Nat.le_refl _)]; exact hi
          simp only [kd, List.getElem?_eq_getElem hl, Option.getD_some]
        have hkdn : ∀ i, ops.size ≤ i → kd i = .lite := by
          intro i hi
          have hl : (st ops.size).kds.length ≤ i := by rw [hkl _ (Nat.le_refl _)]; exact hi
          simp only [kd, List.getElem?_eq_none hl, Option.getD_none]
        obtain ⟨val, hval⟩ : ∃ val : Nat → AVal, ∀ i, i < ops.size → ∃ o, ops[i]? = some o ∧ (st (i + 1)).t = putA (st i).t o.dst (val i) ∧ DFact P ng ops ms (shp.heap.length + nf) i o (st i) (st (i + 1)) (val i) (kd i) := by
          refine ⟨fun i => @dite _ (i < ops.size) (Classical.propDecidable _) (fun hi => (hkd i hi).choose) (fun _ => undefA), fun i hi => ?_⟩
          simp only [dif_pos hi]
          exact (hkd i hi).choose_spec
        have hvalo : ∀ (i : Nat) (o : Oper), ops[i]? = some o → i < ops.size ∧ (st (i + 1)).t = putA (st i).t o.dst (val i) ∧ DFact P ng ops ms (shp.heap.length + nf) i o (st i) (st (i + 1)) (val i) (kd i) := by
          intro i o ho
          have hi : i < ops.size := (Array.getElem?_eq_some_iff.1 ho).1
          obtain ⟨o', ho', h1, h2⟩ := hval i hi
          rw [ho] at ho'; cases ho'
          exact ⟨hi, h1, h2⟩
        -- next slots
        have hnx : ∀ i j, i ≤ j → j ≤ ops.size → (st i).nx ≤ (st j).nx := by
          intro i j hij
          induction j with
          | zero => intro _; have : i = 0 := by omega
                    subst this; exact Nat.le_refl _
          | succ j ih =>
            intro hj
            rcases Nat.lt_or_ge i (j + 1) with h9 | h9
            · refine Nat.le_trans (ih (by omega) (by omega)) ?_
              obtain ⟨o, ho, _, h2⟩ := hval j hj
              unfold DFact at h2
              cases hk : kd j with
              | lite => rw [hk] at h2; rw [h2.2.1]; exact Nat.le_refl _
              | load b => rw [hk] at h2; rw [h2.2.1]; exact Nat.le_refl _
              | fresh x c e => rw [hk] at h2; rw [h2.2.1]; omega
              | mk x => rw [hk] at h2; rw [h2.2.1]; omega
              | ins x dd kk vv => rw [hk] at h2; rw [h2.1]; exact Nat.le_refl _
              | eff pre => rw [hk] at h2; rw [h2.1]; exact Nat.le_refl _
            · have : i = j + 1 := by omega
              rw [this]; exact Nat.le_refl _
        have hnx0 : (st 0).nx = shp.heap.length := by rw [s1]
        have hfr : ∀ j x c e, kd j = .fresh x c e → j < ops.size ∧ x = (st j).nx ∧ (st (j + 1)).nx = x + 1 ∧ shp.heap.length ≤ x ∧ x < shp.heap.length + nf := by
          intro j x c e hj
          have hjn : j < ops.size := by
            rcases Nat.lt_or_ge j ops.size with h9 | h9
            · exact h9
            · rw [hkdn j h9] at hj; cases hj
          obtain ⟨o, ho, _, h2⟩ := hval j hjn
          unfold DFact at h2
          rw [hj] at h2
          obtain ⟨e1, e2, e3, _⟩ := h2
          have := hnx 0 j (Nat.zero_le _) (by omega)
          refine ⟨hjn, e1, by rw [e1]; exact e2, by omega, by omega⟩
        have hfm : ∀ j x, kd j = .mk x → j < ops.size ∧ x = (st j).nx ∧ (st (j + 1)).nx = x + 1 ∧ shp.heap.length ≤ x ∧ x < shp.heap.length + nf := by
          intro j x hj
          have hjn : j < ops.size := by
            rcases Nat.lt_or_ge j ops.size with h9 | h9
            · exact h9
            · rw [hkdn j h9] at hj; cases hj
          obtain ⟨o, ho, _, h2⟩ := hval j hjn
          unfold DFact at h2
          rw [hj] at h2
          obtain ⟨e1, e2, e3, _⟩ := h2
          have := hnx 0 j (Nat.zero_le _) (by omega)
          refine ⟨hjn, e1, by rw [e1]; exact e2, by omega, by omega⟩
        have h0heap : (st 0).s.hp.heap = shp.heap ++ List.replicate nf .gone := by rw [s1]
        have h0len : (st 0).s.hp.heap.length = shp.heap.length + nf := by rw [h0heap]; simp
        have hmask : ∀ i, i ≤ ops.size → ∀ x, x ∈ maskIds ms i 0 (st i).kds ↔ Masked kd (fun i j => ancB ms i j = true) i x := by
          intro i hi x
          rw [maskIds_spec]
          constructor
          · rintro (⟨j, c, e, h1, h2⟩ | ⟨j, h1⟩)
            · have hj : j < i := by
                have := (List.getElem?_eq_some_iff.1 h1).1
                rw [hkl i hi] at this; exact this
              have e1 := hkp i ops.size hi (Nat.le_refl _) j hj
              rw [h1] at e1
              refine .inl ⟨j, c, e, hj, ?_, ?_⟩
              · have := hkdi j (by omega)
                rw [← e1] at this; exact (Option.some.inj this).symm
              · rw [Nat.zero_add] at h2
                show ¬ ancB ms i j = true
                rw [h2]; simp
            · have hj : j < i := by
                have := (List.getElem?_eq_some_iff.1 h1).1
                rw [hkl i hi] at this; exact this
              have e1 := hkp i ops.size hi (Nat.le_refl _) j hj
              rw [h1] at e1
              refine .inr ⟨j, hj, ?_⟩
              have := hkdi j (by omega)
              rw [← e1] at this; exact (Option.some.inj this).symm
          · rintro (⟨j, c, e, hj, h1, h2⟩ | ⟨j, hj, h1⟩)
            · refine .inl ⟨j, c, e, ?_, ?_⟩
              · rw [hkp i ops.size hi (Nat.le_refl _) j hj, hkdi j (by omega), h1]
              · rw [Nat.zero_add]; simpa using h2
            · exact .inr ⟨j, by rw [hkp i ops.size hi (Nat.le_refl _) j hj, hkdi j (by omega), h1]⟩
        have hlenm : ∀ i, i ≤ ops.size → (st 0).s.hp.heap.length ≤ (st i).s.hp.heap.length := by
          intro i
          induction i with
          | zero => intro _; exact Nat.le_refl _
          | succ i ih =>
            intro hi
            refine Nat.le_trans (ih (by omega)) ?_
            obtain ⟨o, ho, _, h2⟩ := hval i hi
            unfold DFact at h2
            cases hk : kd i with
            | lite => rw [hk] at h2; rw [h2.1]; exact Nat.le_refl _
            | load b => rw [hk] at h2; rw [h2.1]; exact Nat.le_refl _
            | fresh x c e => rw [hk] at h2; rw [h2.2.2.2.2.2]; simp
            | mk x => rw [hk] at h2; rw [h2.2.2.2.2.2.2]; simp
            | ins x dd kk vv => rw [hk] at h2; obtain ⟨_, _, _, _, l, _, h⟩ := h2; rw [h]; simp
            | eff pre =>
              rw [hk] at h2
              obtain ⟨_, hm', h3, h4, _⟩ := h2
              rw [h4]
              have := h3.touch.len
              simp only [maskL_length] at this
              simp only [restL_length]; exact this
        -- the trace
        have T : DTr P ng ops shp.heap.length (fun i => (st i).t) (fun i => only (st i).t (match ops[i]? with
            | some o => o.looksAt ops
            | none => [])) (fun i => (st i).s.hp) val kd (fun i j => ancB ms i j = true) := by
          simp only [statOk, Bool.and_eq_true] at hstat
          obtain ⟨⟨q1, q2⟩, q3⟩ := hstat
          simp only [Bool.and_eq_true] at hdyn
          obtain ⟨q4, q5, q6⟩ := hdyn
          have hedge : ∀ (i : Nat) (o : Oper), ops[i]? = some o → ∀ e, e ∈ o.after → Region.binds .any e = true → e.on < i := by
            intro i o ho e he hb
            have := edgeOk_spec ops.toList 0 q1 i o (by simpa using ho) e he hb
            omega
          constructor
          · show shp.heap.length ≤ (st 0).s.hp.heap.length
            rw [h0len]; omega
          · exact hkdn
          · exact hedge
          · intro i j hij
            have hij : ancB ms i j = true := hij
            unfold ancB at hij
            have hi : i < ops.size := by
              rcases Nat.lt_or_ge i ops.size with h9 | h9
              · exact h9
              · obtain ⟨r, e1, e2⟩ := ancsA_append ops.toList []
                have : ms.length = ops.size := by rw [← hms, e1]; simp [e2]
                rw [List.getElem?_eq_none (by omega)] at hij
                simp at hij
            have ho : ops[i]? = some ops[i] := by simp [hi]
            have h1 := ancsA_get ops.toList [] i ops[i] (by simp [hi])
            rw [hms] at h1
            simp only [List.length_nil, Nat.zero_add] at h1
            rw [h1, Option.getD_some] at hij
            obtain ⟨e, he, hb, h3⟩ := maskOf_bit _ _ _ hij
            refine ⟨ops[i], ho, e, he, hb, ?_⟩
            rcases h3 with h3 | h3
            · exact .inl h3
            · right
              show ancB ms e.on j = true
              unfold ancB
              have hlt := hedge i _ ho e he hb
              rw [List.getElem?_take, if_pos hlt] at h3
              exact h3
          · intro i j x y d hx hy hxd hyd
            exact dstOk_spec ops.toList q2 i j x y d (by simpa using hx) (by simpa using hy) hxd hyd
          · intro i d v hi hd
            have ho : ops[i]? = some ops[i] := by simp [hi]
            simp only [ho] at hd
            obtain ⟨h1, h2⟩ := only_get hd
            refine ⟨h1, fun j y hy hyd hji => ?_⟩
            exact readsOk_spec q3 i j _ y d ho hy h2 hyd hji
          · intro i; rfl
          · intro i j hij hi hj
            have hi' : ∃ p, kd i = .eff p := by cases hk : kd i <;> rw [hk] at hi <;> first | exact hi.elim | exact ⟨_, rfl⟩
            have hj' : ∃ p, kd j = .eff p := by cases hk : kd j <;> rw [hk] at hj <;> first | exact hj.elim | exact ⟨_, rfl⟩
            obtain ⟨p, hp⟩ := hi'
            obtain ⟨q, hq⟩ := hj'
            have hjn : j < ops.size := by
              rcases Nat.lt_or_ge j ops.size with h9 | h9
              · exact h9
              · rw [hkdn j h9] at hq; cases hq
            have e1 := hkdi i (by omega)
            have e2 := hkdi j hjn
            rw [s3] at e1 e2
            exact effsOk_spec q4 i j p q hij (by rw [e1, hp]) (by rw [e2, hq])
          · intro i b j pre hi hj h1 h2
            have hin : i < ops.size := by
              rcases Nat.lt_or_ge i ops.size with h9 | h9
              · exact h9
              · rw [hkdn i h9] at hi; cases hi
            have hjn : j < ops.size := by
              rcases Nat.lt_or_ge j ops.size with h9 | h9
              · exact h9
              · rw [hkdn j h9] at hj; cases hj
            have e1 := hkdi i hin
            have e2 := hkdi j hjn
            rw [s3] at e1 e2
            exact loadsOk_spec q5 i j b pre (by rw [e1, hi]) (by rw [e2, hj]) h1 h2
          · intro i o ho; exact (hvalo i o ho).2.1
          · intro i j x c e c' e' hi hj
            obtain ⟨a1, a2, a3, _⟩ := hfr i x c e hi
            obtain ⟨b1, b2, b3, _⟩ := hfr j x c' e' hj
            rcases Nat.lt_trichotomy i j with h9 | h9 | h9
            · have := hnx (i + 1) j h9 (by omega); omega
            · exact h9
            · have := hnx (j + 1) i h9 (by omega); omega
          · intro i j x hi hj
            obtain ⟨a1, a2, a3, _⟩ := hfm i x hi
            obtain ⟨b1, b2, b3, _⟩ := hfm j x hj
            rcases Nat.lt_trichotomy i j with h9 | h9 | h9
            · have := hnx (i + 1) j h9 (by omega); omega
            · exact h9
            · have := hnx (j + 1) i h9 (by omega); omega
          · intro i j x c e hi hj
            obtain ⟨a1, a2, a3, _⟩ := hfm i x hi
            obtain ⟨b1, b2, b3, _⟩ := hfr j x c e hj
            rcases Nat.lt_trichotomy i j with h9 | h9 | h9
            · have := hnx (i + 1) j h9 (by omega); omega
            · subst h9; rw [hi] at hj; cases hj
            · have := hnx (j + 1) i h9 (by omega); omega
          · intro i j b hi hj
            have hin : i < ops.size := by
              rcases Nat.lt_or_ge i ops.size with h9 | h9
              · exact h9
              · rw [hkdn i h9] at hi; cases hi
            have hjn := (hfm j b hj).1
            have e1 := hkdi i hin
            have e2 := hkdi j hjn
            rw [s3] at e1 e2
            exact loadsOkM_spec q5 i j b (by rw [e1, hi]) (by rw [e2, hj])
          · intro i x d' k v hi
            have hin : i < ops.size := by
              rcases Nat.lt_or_ge i ops.size with h9 | h9
              · exact h9
              · rw [hkdn i h9] at hi; cases hi
            have e1 := hkdi i hin
            rw [s3] at e1
            obtain ⟨⟨j, h1, h2⟩, _⟩ := insOk_spec q6 i x d' k v (by rw [e1, hi])
            refine ⟨j, ?_, h2⟩
            have hjn : j < ops.size := by
              have := (List.getElem?_eq_some_iff.1 h1).1
              rw [← s3, hkl _ (Nat.le_refl _)] at this; exact this
            have e2 := hkdi j hjn
            rw [s3, h1] at e2
            exact (Option.some.inj e2).symm
          · intro i j x d1 k v d2 k' v' hij hi hj
            have hin : i < ops.size := by
              rcases Nat.lt_or_ge i ops.size with h9 | h9
              · exact h9
              · rw [hkdn i h9] at hi; cases hi
            have hjn : j < ops.size := by
              rcases Nat.lt_or_ge j ops.size with h9 | h9
              · exact h9
              · rw [hkdn j h9] at hj; cases hj
            have e1 := hkdi i hin
            have e2 := hkdi j hjn
            rw [s3] at e1 e2
            exact (insOk_spec q6 i x d1 k v (by rw [e1, hi])).2 j d2 k' v' hij (by rw [e2, hj])
          · intro i o ho
            obtain ⟨hi, _, h2⟩ := hvalo i o ho
            unfold DFact at h2
            simp only [ho]
            cases hk : kd i with
            | lite => rw [hk] at h2; exact ⟨h2.1, h2.2.2⟩
            | load b => rw [hk] at h2; exact ⟨h2.1, h2.2.2.1, h2.2.2.2⟩
            | fresh x c e =>
              rw [hk] at h2
              obtain ⟨_, _, _, x0, x1⟩ := hfr i x c e hk
              refine ⟨h2.2.2.2.1, h2.2.2.2.2.1, x0, ?_, h2.2.2.2.2.2⟩
              rw [h0heap, List.getElem?_append_right x0, List.getElem?_replicate, if_pos (by omega)]
            | mk x =>
              rw [hk] at h2
              obtain ⟨_, _, _, x0, x1⟩ := hfm i x hk
              refine ⟨h2.2.2.2.1, h2.2.2.2.2.1, h2.2.2.2.2.2.1, x0, ?_, h2.2.2.2.2.2.2⟩
              rw [h0heap, List.getElem?_append_right x0, List.getElem?_replicate, if_pos (by omega)]
            | ins x dd kk vv =>
              rw [hk] at h2
              exact ⟨h2.2.1, h2.2.2.1, h2.2.2.2.1, h2.2.2.2.2⟩
            | eff pre =>
              rw [hk] at h2
              obtain ⟨_, hm', h3, h4, h5⟩ := h2
              have hmi := hmask i (by omega)
              have hxr : ∀ x, Masked kd (fun i j => ancB ms i j = true) i x → x < (st i).s.hp.heap.length := by
                rintro x (⟨j, c, e, _, hj, _⟩ | ⟨j, _, hj⟩)
                · have := (hfr j x c e hj).2.2.2.2
                  have := hlenm i (by omega)
                  omega
                · have := (hfm j x hj).2.2.2.2
                  have := hlenm i (by omega)
                  omega
              refine ⟨⟨maskL (maskIds ms i 0 (st i).kds) (st i).s.hp.heap, []⟩, hm', h3, maskL_length _ _, ?_, ?_, ?_, ?_, ?_, ?_⟩
              · intro x hx; exact maskL_in _ _ x ((hmi x).2 hx) (hxr x hx)
              · intro x hx; exact maskL_out _ _ x (fun h => hx ((hmi x).1 h))
              · rw [h4]; exact restL_length _ _ _
              · intro x hx
                rw [h4]
                refine restL_in _ _ _ x ((hmi x).2 hx) (hxr x hx) ?_
                have := h3.touch.len
                simpa [maskL_length] using this
              · intro x hx
                rw [h4]; exact restL_out _ _ _ x (fun h => hx ((hmi x).1 h))
              · intro x hxl hxp
                obtain ⟨pr, e1, e2⟩ := h3.touch.log
                simp only [List.append_nil] at e1
                exact e2 x hxl (by rw [← e1, ← h5]; exact hxp)
        -- what was touched
        have htouch : ∀ i, i ≤ ops.size → (∃ q, (st i).s.hp.log = q ++ shp.log ∧ ∀ x, x < shp.heap.length → x ∉ q → (st i).s.hp.heap[x]? = shp.heap[x]?) ∧ (∀ x, x < shp.heap.length → Live (st i).s.hp.heap x → Live shp.heap x) ∧
            (∀ (x : Nat) (la : LoopA), x < shp.heap.length → (st i).s.hp.heap[x]? = some (Blk.loop la) → ∃ l0, shp.heap[x]? = some (Blk.loop l0) ∧ sameLoop l0 la) := by
          intro i
          induction i with
          | zero =>
            intro _
            rw [s1]
            refine ⟨⟨[], by simp, fun x hx _ => List.getElem?_append_left hx⟩, fun x hx ⟨k, hk, hne⟩ => ⟨k, by simpa only [List.getElem?_append_left hx] using hk, hne⟩, fun x la hx hla => ⟨la, by simpa only [List.getElem?_append_left hx] using hla, rfl, rfl, rfl, rfl, rfl⟩⟩
          | succ i ih =>
            intro hi
            obtain ⟨⟨q, i1, i2⟩, i3, i4⟩ := ih (by omega)
            have hs := T.step i _ (by simp : ops[i]? = some ops[i])
            obtain ⟨o, ho, _, h2⟩ := hval i hi
            unfold DFact at h2
            cases hk : kd i with
            | lite => rw [hk] at h2; rw [h2.1]; exact ⟨⟨q, i1, i2⟩, i3, i4⟩
            | load b => rw [hk] at h2; rw [h2.1]; exact ⟨⟨q, i1, i2⟩, i3, i4⟩
            | fresh x c e =>
              rw [hk] at h2
              rw [h2.2.2.2.2.2]
              have hx0 := (hfr i x c e hk).2.2.2.1
              refine ⟨⟨q, i1, fun y hy hn => ?_⟩, fun y hy hl => i3 y hy ?_, fun y la hy hla => ?_⟩
              · rw [List.getElem?_set_ne (by omega)]; exact i2 y hy hn
              · unfold Live at hl ⊢
                rw [List.getElem?_set_ne (by omega)] at hl; exact hl
              · simp only at hla
                rw [List.getElem?_set_ne (by omega)] at hla; exact i4 y la hy hla
            | mk x =>
              rw [hk] at h2
              rw [h2.2.2.2.2.2.2]
              have hx0 := (hfm i x hk).2.2.2.1
              refine ⟨⟨q, i1, fun y hy hn => ?_⟩, fun y hy hl => i3 y hy ?_, fun y la hy hla => ?_⟩
              · rw [List.getElem?_set_ne (by omega)]; exact i2 y hy hn
              · unfold Live at hl ⊢
                rw [List.getElem?_set_ne (by omega)] at hl; exact hl
              · simp only at hla
                rw [List.getElem?_set_ne (by omega)] at hla; exact i4 y la hy hla
            | ins x dd kk vv =>
              obtain ⟨jm, hjm, _⟩ := T.insM i x dd kk vv hk
              rw [hk] at h2
              obtain ⟨_, _, _, _, l, _, hh⟩ := h2
              rw [hh]
              have hx0 := (hfm jm x hjm).2.2.2.1
              refine ⟨⟨q, i1, fun y hy hn => ?_⟩, fun y hy hl => i3 y hy ?_, fun y la hy hla => ?_⟩
              · rw [List.getElem?_set_ne (by omega)]; exact i2 y hy hn
              · unfold Live at hl ⊢
                rw [List.getElem?_set_ne (by omega)] at hl; exact hl
              · simp only at hla
                rw [List.getElem?_set_ne (by omega)] at hla; exact i4 y la hy hla
            | eff pre =>
              rw [hk] at h2 hs
              obtain ⟨_, hm', h3, h4, h5⟩ := h2
              have hmi := hmask i (by omega)
              have hnm : ∀ x, x < shp.heap.length → x ∉ maskIds ms i 0 (st i).kds := by
                intro x hx hin
                rcases (hmi x).1 hin with ⟨j, c, e, _, hj, _⟩ | ⟨j, _, hj⟩
                · have := (hfr j x c e hj).2.2.2.1
                  omega
                · have := (hfm j x hj).2.2.2.1
                  omega
              have hxl : ∀ x, x < shp.heap.length → x < (st i).s.hp.heap.length := fun x hx => by
                have := hlenm i (by omega)
                omega
              obtain ⟨pr, e1, e2⟩ := h3.touch.log
              simp only [List.append_nil] at e1
              rw [h4]
              refine ⟨⟨hm'.log ++ q, by simp [i1, List.append_assoc], fun x hx hn => ?_⟩, fun x hx hl => i3 x hx ?_, fun x la hx hla => ?_⟩
              · simp only [List.mem_append, not_or] at hn
                simp only
                rw [restL_out _ _ _ x (hnm x hx), e2 x (by rw [maskL_length]; exact hxl x hx) (by rw [← e1]; exact hn.1)]
                simp only
                rw [maskL_out _ _ x (hnm x hx)]
                exact i2 x hx hn.2
              · unfold Live at hl
                simp only at hl
                rw [restL_out _ _ _ x (hnm x hx)] at hl
                have := h3.touch.live x (by rw [maskL_length]; exact hxl x hx) hl
                unfold Live at this ⊢
                simp only at this
                rw [maskL_out _ _ x (hnm x hx)] at this
                exact this
              · simp only at hla
                rw [restL_out _ _ _ x (hnm x hx)] at hla
                obtain ⟨lb, hb, f1, f2, f3, f4, f5⟩ := h3.touch.loops x la (by rw [maskL_length]; exact hxl x hx) hla
                simp only at hb
                rw [maskL_out _ _ x (hnm x hx)] at hb
                obtain ⟨lc, hc, e1, e2, e3, e4, e5⟩ := i4 x lb hx hb
                exact ⟨lc, hc, f1.trans e1, f2.trans e2, f3.trans e3, f4.trans e4, f5.trans e5⟩
        have htn := htouch ops.size (Nat.le_refl _)
        rw [s3] at htn
        have htouch0 : Touch shp d.s.hp := by
          refine ⟨?_, htn.1, htn.2.1, htn.2.2⟩
          have := hlenm ops.size (Nat.le_refl _)
          rw [s3, h0len] at this; omega
        refine ⟨htouch0, ?_⟩
        intro g w a Q hH ht hQ
        have ht0 : (st 0).t = t := by rw [s1]
        have hrel0 : HRel ng g (shp.heap ++ List.replicate nf .gone) w.drew := by
          have hlv : ∀ (i : Nat) (k : Blk), (shp.heap ++ List.replicate nf .gone)[i]? = some k → k ≠ .gone → shp.heap[i]? = some k := by
            intro i k hk hne
            rcases Nat.lt_or_ge i shp.heap.length with h9 | h9
            · rwa [List.getElem?_append_left h9] at hk
            · rw [List.getElem?_append_right h9] at hk
              have := List.mem_of_getElem? hk
              simp only [List.mem_replicate] at this
              exact absurd this.2 hne
          refine ⟨fun i L hi => ?_, ?_, ?_, hH.glob, hH.sig, hH.frz.to rfl rfl (by simp) fun b hb q2 => ⟨rfl, fun j L hj ⟨k, hk, hn⟩ => q2 j L hj ⟨k, hlv j k hk hn, hn⟩⟩⟩
          · have := hH.dom i L hi
            exact ⟨by simp; omega, this.2⟩
          · intro i j L M hi hj hb ⟨k, hk, hn⟩ ⟨k', hk', hn'⟩
            exact hH.inj i j L M hi hj hb ⟨k, hlv i k hk hn, hn⟩ ⟨k', hlv j k' hk' hn', hn'⟩
          · intro i k hi hk
            obtain ⟨L, hL, hB⟩ := hH.blk i k (hlv i k hi hk) hk
            exact ⟨L, hL, hB.of_same rfl⟩
        have hext0 : Ext g shp.heap w g (shp.heap ++ List.replicate nf .gone) w.drew := by
          constructor
          · exact Sub.refl g
          · intro i L hi hn; rw [hn] at hi; cases hi
          · intro i L hi hn; rw [hn] at hi; cases hi
          · simp
          · intro i hi ⟨k, hk, hne⟩
            rw [List.getElem?_append_left hi] at hk
            exact ⟨k, hk, hne⟩
          · exact Nat.le_refl _
          · intro _ _ _; rfl
          · rfl
          · rfl
          · rfl
        have hno : ∀ i, ¬ Ls (Array.replicate ops.size false) i := by
          intro i h
          unfold Ls at h
          simp [Array.getElem?_replicate] at h
          split at h <;> simp at h
        have I : Inv P ng ops shp.heap.length (fun i => (st i).t) (fun i => (st i).s.hp) val kd g shp.heap w a (Array.replicate ops.size false) 0 g (shp.heap ++ List.replicate nf .gone) a w.drew := by
          refine ⟨by simp, fun i o _ hl => absurd hl (hno i), Nat.zero_le _, .inl rfl, fun j _ _ => hno j, by rw [h0heap], fun x _ _ => by rw [h0heap], fun j x hj => ⟨fun hl => absurd hl (hno j), fun _ => ?_⟩, fun j x c e _ hl => absurd hl (hno j), ?_, hrel0, hext0, rfl, rfl,
            fun i o d _ _ hl => absurd hl (hno i), ?_⟩
          · obtain ⟨_, _, _, x0, x1⟩ := hfm j x hj
            refine ⟨?_, ?_⟩
            · rw [List.getElem?_append_right x0, List.getElem?_replicate, if_pos (by omega)]
            · cases hg : g x with
              | none => rfl
              | some L => have := (hH.dom x L hg).1; omega
          · intro j x c e hj _
            obtain ⟨_, _, _, x0, x1⟩ := hfr j x c e hj
            refine ⟨?_, ?_⟩
            · rw [List.getElem?_append_right x0, List.getElem?_replicate, if_pos (by omega)]
            · cases hg : g x with
              | none => rfl
              | some L => have := (hH.dom x L hg).1; omega
          · intro d v _ hd
            simp only [ht0] at hd
            exact ht.1.2 d v hd
        refine drawn_any T hH rfl (by simp only [ht0]; exact ht.1.1) ?_ ops.size _ 0 g _ a w.drew I ?_
        · intro g' a' w' k1 k2 k3 k4 k5
          simp only [s3] at k1 k2 k3
          have hdf : d.t.df = t.df := by
            have key : ∀ i, i ≤ ops.size → (st i).t.df = t.df := by
              intro i
              induction i with
              | zero => intro _; rw [ht0]
              | succ i ih =>
                intro hi
                obtain ⟨o, _, h1, _⟩ := hval i hi
                rw [h1, putA_df]; exact ih (by omega)
            rw [← s3]; exact key _ (Nat.le_refl _)
          exact hQ _ _ ⟨htouch0, g', trivial, k1, k2, ⟨k3, by rw [hdf, k5]; exact ht.2.mono k2.sub⟩, k4⟩
        · unfold left
          have : ((List.range ops.size).countP fun i => !(Array.replicate ops.size false).getD i false) = (List.range ops.size).length := by
            rw [List.countP_eq_length]
            intro i hi
            simp [List.mem_range.1 hi]
          rw [this]; simp
      · cases h
    · cases h
    · cases h
  · cases h
end

/-! ### A region in two -/

section
variable {F : Fence} {n : Nat} {P : Program} {QA Q : Exit → Act → World → Prop}

theorem wpIn_to {o : Oper} {a : Act} {w : World} {K K' : Act → World → Prop} (hq : ∀ e a w, e ≠ .normal → QA e a w → Q e a w) (hk : ∀ a w, K a w → K' a w) (h : o.wpIn F n P a w K QA) : o.wpIn F n P a w K' Q := by
  unfold Oper.wpIn at h ⊢
  refine ⟨h.1, ?_⟩
  have h := h.2
  generalize (o.semAt F.round a.eval).run P w = r at h ⊢
  cases r with
  | ok x w' =>
    cases x <;> simp only [Oper.uponIn] at h ⊢ <;> first
      | exact hk _ _ h
      | exact ⟨h.1, CallsIn.mono h.2 (fun e w'' he => by
          cases e with
          | returned v => exact hk _ _ he
          | panicked ch => exact hq _ _ _ (by intro h; cases h) he
          | outgrown => obtain ⟨a1, w1, h1⟩ := he; exact ⟨a1, w1, hq _ _ _ (by intro h; cases h) h1⟩)⟩
      | exact ⟨h.1, RowsIn.mono h.2 (fun _ _ he => hk _ _ he)⟩
      | exact ⟨h.1, RoundIn.mono h.2 (fun e w'' he => by
          cases e with
          | returned v => exact hk _ _ he
          | panicked ch => exact hq _ _ _ (by intro h; cases h) he
          | outgrown => obtain ⟨a1, w1, h1⟩ := he; exact ⟨a1, w1, hq _ _ _ (by intro h; cases h) h1⟩)⟩
  | halt x w' => cases x <;> simp only [Oper.uponIn] at h ⊢ <;> exact hq _ _ _ (by intro h; cases h) h

theorem covers_spec {m : Nat} {o : Oper} (h : coversB m o = true) {j : Nat} (hj : j < m) : ∃ e, e ∈ o.after ∧ Region.binds .any e = true ∧ e.on = j := by
  unfold coversB at h
  simp only [List.all_eq_true, List.any_eq_true, Bool.and_eq_true] at h
  obtain ⟨e, h1, h2, h3⟩ := h j (List.mem_range.2 hj)
  exact ⟨e, by simpa using h1, h2, Nat.eq_of_beq_eq_true h3⟩

theorem chain_spec : ∀ {l : List Oper} {k : Nat}, chainB k l = true → ∀ (i : Nat) (o : Oper), l[i]? = some o → ∃ e, e ∈ o.after ∧ Region.binds .any e = true ∧ e.on = k + i
  | [], _, _, i, o, h => by simp at h
  | q :: l, k, hc, 0, o, h => by
    simp at h; subst h
    simp only [chainB, Bool.and_eq_true, List.any_eq_true] at hc
    obtain ⟨⟨e, h1, h2, h3⟩, _⟩ := hc
    exact ⟨e, by simpa using h1, h2, by rw [Nat.eq_of_beq_eq_true h3]; rfl⟩
  | q :: l, k, hc, i + 1, o, h => by
    simp only [chainB, Bool.and_eq_true] at hc
    obtain ⟨e, h1, h2, h3⟩ := chain_spec hc.2 i o (by simpa using h)
    exact ⟨e, h1, h2, by omega⟩

/-- How a region is cut in two. -/
structure Cut (ops : Array Oper) (m : Nat) : Prop where
  edge : ∀ (i : Nat) (o : Oper), ops[i]? = some o → ∀ e, e ∈ o.after → Region.binds .any e = true → e.on < i
  lt : m < ops.size
  first : ∀ o, ops[m]? = some o → ∀ j, j < m → ∃ e, e ∈ o.after ∧ Region.binds .any e = true ∧ e.on = j
  next : ∀ (k : Nat) (o : Oper), m < k → ops[k]? = some o → ∃ e, e ∈ o.after ∧ Region.binds .any e = true ∧ e.on + 1 = k
  guard : ∀ (i : Nat) (o : Oper), i < m → ops[i]? = some o → ∀ j want, o.guard = some (j, want) → j < m

theorem splitOk_spec {ops : Array Oper} {m : Nat} (h : splitOk ops m = true) : Cut ops m := by
  unfold splitOk at h
  simp only [Bool.and_eq_true] at h
  obtain ⟨h1, h2, h3⟩ := h
  split at h3
  · cases h3
  · rename_i o l hd
    simp only [Bool.and_eq_true] at h3
    obtain ⟨h3, h4⟩ := h3
    have hlt : m < ops.size := by
      have : (ops.toList.drop m).length = l.length + 1 := by rw [hd]; simp
      simp at this; omega
    have hget : ∀ i, (o :: l)[i]? = ops[m + i]? := by intro i; rw [← hd]; simp
    refine ⟨fun i o ho e he hb => ?_, hlt, fun o' ho' j hj => ?_, fun k o' hk ho' => ?_, fun i o' hi ho' j want hg => ?_⟩
    · have := edgeOk_spec ops.toList 0 h1 i o (by simpa using ho) e he hb
      omega
    · have := hget 0
      simp only [List.getElem?_cons_zero, Nat.add_zero, ho', Option.some.injEq] at this
      subst this
      exact covers_spec h3 hj
    · have := hget (k - m)
      rw [show m + (k - m) = k by omega, ho', show k - m = (k - m - 1) + 1 by omega, List.getElem?_cons_succ] at this
      obtain ⟨e, q1, q2, q3⟩ := chain_spec h4 (k - m - 1) o' this
      exact ⟨e, q1, q2, by omega⟩
    · unfold guardsB at h2
      rw [List.all_eq_true] at h2
      have hm : o' ∈ ops.toList.take m := by
        refine List.mem_of_getElem? (i := i) ?_
        rw [List.getElem?_take, if_pos hi]; simpa using ho'
      have := h2 o' hm
      rw [hg] at this
      simpa using this

/-- Just those ahead of t are listed. -/
def Upto (listed : Array Bool) (n t : Nat) : Prop := listed.size = n ∧ ∀ i, Ls listed i ↔ i < t

theorem upto_set {listed : Array Bool} {n t : Nat} (h : Upto listed n t) (ht : t < n) : Upto (listed.setIfInBounds t true) n (t + 1) := by
  refine ⟨by simp [h.1], fun i => ?_⟩
  rw [ls_set listed t i (by rw [h.1]; exact ht), h.2 i]
  omega

theorem any_seq {ops : Array Oper} {m : Nat} (C : Cut ops m) : ∀ (r t : Nat), t + r = ops.size → m ≤ t → ∀ (listed : Array Bool) (a : Act) (w : World), Upto listed ops.size t → wpListIn F n P ops Q (ops.toList.drop t) a w →
    wpAnyIn F n P .any ops Q r listed a w := by
  have hready : ∀ (t : Nat) (listed : Array Bool), m ≤ t → Upto listed ops.size t → ∀ i ∈ Region.ready .any ops listed, i = t := by
    intro t listed hmt hu i hi
    obtain ⟨o, hr⟩ := mem_ready hu.1 hi
    have hno : ¬ i < t := fun h => hr.no ((hu.2 i).2 h)
    rcases Nat.lt_or_ge t i with h9 | h9
    · obtain ⟨e, e1, e2, e3⟩ := C.next i o (by omega) hr.op
      have := (hu.2 e.on).1 (hr.edges e e1 e2)
      omega
    · omega
  intro r
  induction r with
  | zero =>
    intro t ht hmt listed a w hu h
    refine ⟨?_, ?_⟩
    · rw [List.eq_nil_iff_forall_not_mem]
      intro i hi
      have := hready t listed hmt hu i hi
      obtain ⟨o, hr⟩ := mem_ready hu.1 hi
      have := rdy_lt hr
      omega
    · rw [List.drop_eq_nil_of_le (by simp; omega)] at h
      exact h
  | succ r ih =>
    intro t ht hmt listed a w hu h
    have htn : t < ops.size := by omega
    have ho : ops[t]? = some ops[t] := by simp [htn]
    have hdrop : ops.toList.drop t = ops[t] :: ops.toList.drop (t + 1) := by
      rw [List.drop_eq_getElem_cons (by simpa using htn)]; simp
    rw [hdrop] at h
    constructor
    · intro hnil
      exfalso
      have hin : t ∈ Region.ready .any ops listed := by
        unfold Region.ready
        simp only [List.mem_filter, List.mem_range, Bool.and_eq_true, Bool.not_eq_true']
        refine ⟨htn, ?_, ?_⟩
        · have := hu.2 t
          unfold Ls at this
          have hs := hu.1
          simp [show t < listed.size by omega] at this ⊢
          exact this
        · rw [ho]
          simp only [Option.map_some, Option.getD_some, Array.all_eq_true_iff_forall_mem]
          intro e he
          by_cases hb : Region.binds .any e = true
          · have := (hu.2 e.on).2 (C.edge t _ ho e he hb)
            unfold Ls at this
            simp [this]
          · simp [hb]
      rw [hnil] at hin; cases hin
    · intro i hi
      have := hready t listed hmt hu i hi
      subst this
      have hnext := fun a w (h : wpListIn F n P ops Q (ops.toList.drop (i + 1)) a w) => ih (i + 1) (by omega) (by omega) (listed.setIfInBounds i true) a w (upto_set hu htn) h
      unfold wpOpIn
      rw [ho]
      simp only
      unfold wpListIn at h
      split
      · rename_i hw
        rw [if_pos hw] at h
        exact wpIn_to (fun _ _ _ _ h => h) hnext h
      · rename_i hw
        rw [if_neg hw] at h
        exact ⟨h.1, hnext _ _ h.2⟩

theorem any_split {ops : Array Oper} {m : Nat} (C : Cut ops m) (hq : ∀ e a w, e ≠ .normal → QA e a w → Q e a w) (hb : ∀ a w, QA .normal a w → wpListIn F n P ops Q (ops.toList.drop m) a w) :
    ∀ (fuel : Nat) (lA listed : Array Bool) (a : Act) (w : World), lA.size = m → listed.size = ops.size → (∀ i, Ls listed i ↔ Ls lA i) → left m lA = fuel → wpAnyIn F n P .any (ops.toList.take m).toArray QA fuel lA a w →
      wpAnyIn F n P .any ops Q (fuel + (ops.size - m)) listed a w := by
  have hsz : (ops.toList.take m).toArray.size = m := by have := C.lt; simp; omega
  have hgetA : ∀ i, i < m → (ops.toList.take m).toArray[i]? = ops[i]? := by
    intro i hi
    simp [hi]
  have lsA : ∀ (lA : Array Bool), lA.size = m → ∀ i, Ls lA i → i < m := by
    intro lA h i hi
    unfold Ls at hi
    rcases Nat.lt_or_ge i m with h9 | h9
    · exact h9
    · rw [Array.getD_eq_getD_getElem?, Array.getElem?_eq_none (by omega)] at hi
      simp at hi
  -- what is ready, of all, while the first part is not done
  have hmem : ∀ (lA listed : Array Bool), lA.size = m → listed.size = ops.size → (∀ i, Ls listed i ↔ Ls lA i) → (∃ j, j < m ∧ ¬ Ls lA j) → ∀ i ∈ Region.ready .any ops listed, i < m ∧ i ∈ Region.ready .any (ops.toList.take m).toArray lA := by
    intro lA listed h1 h2 h3 ⟨j, hj, hnj⟩ i hi
    obtain ⟨o, hr⟩ := mem_ready h2 hi
    have him : i < m := by
      rcases Nat.lt_trichotomy i m with h9 | h9 | h9
      · exact h9
      · subst h9
        obtain ⟨e, e1, e2, e3⟩ := C.first o hr.op j hj
        have := (h3 e.on).1 (hr.edges e e1 e2)
        rw [e3] at this; exact absurd this hnj
      · obtain ⟨e, e1, e2, e3⟩ := C.next i o h9 hr.op
        have := lsA lA h1 _ ((h3 e.on).1 (hr.edges e e1 e2))
        omega
    refine ⟨him, ?_⟩
    unfold Region.ready
    simp only [List.mem_filter, List.mem_range, Bool.and_eq_true, Bool.not_eq_true']
    refine ⟨by rw [hsz]; exact him, ?_, ?_⟩
    · have : ¬ Ls lA i := fun h => hr.no ((h3 i).2 h)
      unfold Ls at this
      simp [show i < lA.size by omega] at this ⊢
      exact this
    · rw [hgetA i him, hr.op]
      simp only [Option.map_some, Option.getD_some, Array.all_eq_true_iff_forall_mem]
      intro e he
      by_cases hb : Region.binds .any e = true
      · have := (h3 e.on).1 (hr.edges e he hb)
        unfold Ls at this
        simp [this]
      · simp [hb]
  intro fuel
  induction fuel with
  | zero =>
    intro lA listed a w h1 h2 h3 hf h
    have hall : ∀ i, i < m → Ls lA i := by
      intro i hi
      unfold left at hf
      rw [List.countP_eq_zero] at hf
      have := hf i (List.mem_range.2 hi)
      simpa [Ls] using this
    have hu : Upto listed ops.size m := ⟨h2, fun i => ⟨fun h => lsA lA h1 i ((h3 i).1 h), fun h => (h3 i).2 (hall i h)⟩⟩
    rw [Nat.zero_add]
    exact any_seq C (ops.size - m) m (by have := C.lt; omega) (Nat.le_refl _) listed a w hu (hb a w h.2)
  | succ fuel ih =>
    intro lA listed a w h1 h2 h3 hf h
    have hex : ∃ j, j < m ∧ ¬ Ls lA j := by
      refine Classical.byContradiction fun hn => ?_
      have : left m lA = 0 := by
        unfold left
        rw [List.countP_eq_zero]
        intro i hi
        have : Ls lA i := Classical.byContradiction fun h => hn ⟨i, List.mem_range.1 hi, h⟩
        simpa [Ls] using this
      omega
    rw [Nat.succ_add]
    refine ⟨?_, ?_⟩
    · intro hnil
      exfalso
      -- the first that is not listed is ready
      obtain ⟨j, hj, hnj, hmin⟩ : ∃ j, j < m ∧ ¬ Ls lA j ∧ ∀ i, i < j → Ls lA i := by
        obtain ⟨j, hj, hnj⟩ := hex
        induction j using Nat.strongRecOn with
        | _ j ihj =>
          by_cases hc : ∃ i, i < j ∧ ¬ Ls lA i
          · obtain ⟨i, q1, q2⟩ := hc
            exact ihj i q1 (by omega) q2
          · exact ⟨j, hj, hnj, fun i hi => Classical.byContradiction fun h => hc ⟨i, hi, h⟩⟩
      have hjn : j < ops.size := by have := C.lt; omega
      have ho : ops[j]? = some ops[j] := by simp [hjn]
      have hin : j ∈ Region.ready .any ops listed := by
        unfold Region.ready
        simp only [List.mem_filter, List.mem_range, Bool.and_eq_true, Bool.not_eq_true']
        refine ⟨hjn, ?_, ?_⟩
        · have : ¬ Ls listed j := fun h => hnj ((h3 j).1 h)
          unfold Ls at this
          simp [show j < listed.size by omega] at this ⊢
          exact this
        · rw [ho]
          simp only [Option.map_some, Option.getD_some, Array.all_eq_true_iff_forall_mem]
          intro e he
          by_cases hb : Region.binds .any e = true
          · have := (h3 e.on).2 (hmin e.on (C.edge j _ ho e he hb))
            unfold Ls at this
            simp [this]
          · simp [hb]
      rw [hnil] at hin; cases hin
    · intro i hi
      obtain ⟨him, hiA⟩ := hmem lA listed h1 h2 h3 hex i hi
      have hop := h.2 i hiA
      obtain ⟨o, hr⟩ := mem_ready h2 hi
      have hnl : ¬ Ls lA i := fun h => hr.no ((h3 i).2 h)
      have hnext : ∀ a w, wpAnyIn F n P .any (ops.toList.take m).toArray QA fuel (lA.setIfInBounds i true) a w → wpAnyIn F n P .any ops Q (fuel + (ops.size - m)) (listed.setIfInBounds i true) a w := by
        intro a w h
        refine ih _ _ a w (by simp [h1]) (by simp [h2]) (fun j => ?_) ?_ h
        · rw [ls_set listed i j (by have := rdy_lt hr; omega), ls_set lA i j (by omega), h3 j]
        · have := left_set him h1 hnl
          omega
      unfold wpOpIn at hop ⊢
      rw [hgetA i him, hr.op] at hop
      rw [hr.op]
      simp only at hop ⊢
      have hyl : Region.wanted o (yielded (ops.toList.take m).toArray a.tmps) = Region.wanted o (yielded ops a.tmps) := by
        unfold Region.wanted
        cases hg : o.guard with
        | none => rfl
        | some q =>
          obtain ⟨j, want⟩ := q
          have := C.guard i o him hr.op j want hg
          simp only [yielded, hgetA j this]
      rw [hyl] at hop
      split
      · rename_i hw
        rw [if_pos hw] at hop
        exact wpIn_to hq hnext hop
      · rename_i hw
        rw [if_neg hw] at hop
        exact ⟨hop.1, hnext _ _ hop.2⟩
end

section
variable {P : Program} {ng : Cx} {call : CallR} {ops : Array Oper}

theorem seqS_sound {r : Option Nat} (hcall : CallRSound P ng call) : ∀ (rest : List Oper) (t t' : Tm) (hp hp' : Hp), seqS P ng call ops.toList rest t hp = .ok (t', hp') →
    Touch hp hp' ∧ ∀ (g : Inj) (w : World) (a : Act), HRel ng g hp.heap w → FRel g t a → wpListIn (FR r) 0 P ops (CodeQ ng hp g w a (.normal, t', hp')) rest a w
  | [], t, t', hp, hp', h => by
    simp only [seqS] at h
    cases h
    exact ⟨Touch.refl _, fun g w a hH ht => ⟨Touch.refl _, g, trivial, hH, Ext.refl _ _ _, ht, rfl⟩⟩
  | o :: l, t, t', hp, hp', h => by
    have fin : ∀ v h1, Step P ng ops.toList o t hp v h1 → seqS P ng call ops.toList l (putA t o.dst v) h1 = .ok (t', hp') →
        Touch hp hp' ∧ ∀ (g : Inj) (w : World) (a : Act), HRel ng g hp.heap w → FRel g t a → wpListIn (FR r) 0 P ops (CodeQ ng hp g w a (.normal, t', hp')) (o :: l) a w := by
      intro v h1 hst hrec
      obtain ⟨ih1, ih2⟩ := seqS_sound hcall l _ t' h1 hp' hrec
      refine ⟨hst.touch.trans ih1, fun g w a hH ht => wpListIn_step fun K hK => ?_⟩
      refine hst.wp hH ht.1 fun g' u w' hv hH' hE => hK _ _ ?_
      refine wpListIn_mono (fun e a' w'' hq => CodeQ.trans hH hst.touch hE (put_size a o.dst u).1 hq) l _ _ (ih2 g' w' _ hH' ((ht.mono hE.sub).put o.dst hv))
    simp only [seqS] at h
    split at h
    · split at h <;> cases h
    · rename_i hw
      exact fin _ _ (.skip hw) h
    · rename_i hw
      split at h
      · rename_i c hcl
        split at h
        · rename_i f args hres
          split at h
          · rename_i v h1 hst
            exact fin _ _ (.call c f args v _ hw (isCallA_spec hcl) hres (hcall _ _ _ _ _ hst)) h
          · cases h
          · cases h
        · cases h
      · split at h
        · rename_i v h1 ho
          exact fin _ _ (opA_step hw (resO_ok ho)) h
        · cases h
        · cases h

theorem drawA_sound {r : Option Nat} (hm : P.follows .mixedOrders = true) (hcall : CallRSound P ng call) {t t' : Tm} {shp shp' : Hp} (h : drawA P ng call ops t shp = .ok (t', shp')) :
    Touch shp shp' ∧ ∀ (id : Nat) g w a, HRel ng g shp.heap w → FRel g t a → (Code.region id ops true).wpIn (FR r) 0 P (CodeQ ng shp g w a (.normal, t', shp')) a w := by
  have plain : draw1 P ng call ops t shp = .ok (t', shp') → Touch shp shp' ∧ ∀ (id : Nat) g w a, HRel ng g shp.heap w → FRel g t a → (Code.region id ops true).wpIn (FR r) 0 P (CodeQ ng shp g w a (.normal, t', shp')) a w := by
    intro h
    obtain ⟨h1, h2⟩ := draw1_any (r := r) hcall h
    exact ⟨h1, fun id g w a hH ht => wpIn_region_any hm (h2 g w a _ hH ht fun _ _ q => q)⟩
  unfold drawA at h
  split at h
  · exact plain h
  · rename_i m hs
    split at h
    · rename_i hok
      have C := splitOk_spec hok
      split at h
      · rename_i t1 s1 h1
        obtain ⟨a1, a2⟩ := draw1_any (r := r) hcall h1
        obtain ⟨b1, b2⟩ := seqS_sound (r := r) hcall _ _ _ _ _ h
        refine ⟨a1.trans b1, fun id g w a hH ht => wpIn_region_any hm ?_⟩
        have hsz : (ops.toList.take m).toArray.size = m := by have := C.lt; simp; omega
        have hA := a2 g w a (fun e a' w' => e = .normal ∧ CodeQ ng shp g w a (.normal, t1, s1) .normal a' w') hH ht (fun a' w' q => ⟨rfl, q⟩)
        rw [hsz] at hA
        have key := any_split C (F := FR r) (n := 0) (P := P) (Q := CodeQ ng shp g w a (.normal, t', shp')) (QA := fun e a' w' => e = .normal ∧ CodeQ ng shp g w a (.normal, t1, s1) .normal a' w') (fun e a w hne h => absurd h.1 hne)
          (fun a' w' h => by
            obtain ⟨_, k0, g', k1, k2, k3, k4, k5⟩ := h
            exact wpListIn_mono (fun e a'' w'' q => CodeQ.trans hH a1 k3 k5 q) _ _ _ (b2 g' w' a' k2 k4)) m (Array.replicate m false) (Array.replicate ops.size false) a w.drew (by simp) (by simp)
          (fun i => by unfold Ls; simp [Array.getElem?_replicate]; split <;> split <;> simp) ?_ hA
        · rw [show m + (ops.size - m) = ops.size by have := C.lt; omega] at key
          exact key
        · unfold left
          have : ((List.range m).countP fun i => !(Array.replicate m false).getD i false) = (List.range m).length := by
            rw [List.countP_eq_length]
            intro i hi
            simp [List.mem_range.1 hi]
          rw [this]; simp
      · cases h
      · cases h
    · exact plain h
end
end Go.Ev
