/- The evaluator: code, calls; that what it reckons is what the model does. -/
import Derived.Test.YtgifnmiggloclaaEvO
import Derived.LoopN
import Derived.Below
namespace Go.Ev

/-- Code, on the abstract heap. -/
structure CodeP (P : Program) (ng : Cx) (c : Code) (t : Tm) (hp : Hp) (x : Ex) (t' : Tm) (hp' : Hp) : Prop where
  touch : Touch hp hp'
  wp : ∀ g w a, HRel ng g hp.heap w → TRel g t a → c.wp P (CodeQ ng hp x t' hp' g w a) a w

def loopA (body : Tm → St → Option (Ex × Tm × St)) : Nat → Tm → St → Option (Ex × Tm × St)
  | 0, _, _ => none
  | n + 1, t, s => match body t s with
    | some (x, t', s') => match x with
      | .normal => loopA body n t' s'
      | x => some (x, t', s')
    | none => none

def codeA (P : Program) (ng : Cx) (fuel : Nat) (call : CallF) : Code → Tm → St → Option (Ex × Tm × St)
  | .skip, t, s => some (.normal, t, s)
  | .label _, t, s => some (.normal, t, s)
  | .region _ ops draw, t, s => match draw with
    | false => opsA P ng call ops.toList ops.toList t s
    | true => match drawA P ng call ops t s with
      | some (t', s') => some (.normal, t', s')
      | none => none
  | .seq a b, t, s => match codeA P ng fuel call a t s with
    | some (x, t', s') => match x with
      | .normal => codeA P ng fuel call b t' s'
      | x => some (x, t', s')
    | none => none
  | .cond c a b, t, s => match ev ng t c with
    | some (.bool v) => match v with
      | true => codeA P ng fuel call a t s
      | false => codeA P ng fuel call b t s
    | _ => none
  | .block id c, t, s => match codeA P ng fuel call c t s with
    | some (x, t', s') => match x with
      | .exit i => if i = id then some (.normal, t', s') else some (.exit i, t', s')
      | x => some (x, t', s')
    | none => none
  | .loop c, t, s => match s.orc with
    | [] => loopA (codeA P ng fuel call c) fuel t s
    | (0, d) :: q => match d with
      | .loop x t' hp' => some (x, t', ⟨hp', q, CodeP P ng (.loop c) t s.hp x t' hp' :: s.cnd⟩)
      | _ => none
    | (n + 1, d) :: q => loopA (codeA P ng fuel call c) fuel t ⟨s.hp, (n, d) :: q, s.cnd⟩
  | .exit i, t, s => some (.exit i, t, s)
  | .ret, t, s => some (.ret, t, s)
  | _, _, _ => none

def CodeSound (P : Program) (ng : Cx) (c : Code) (run : Tm → St → Option (Ex × Tm × St)) : Prop :=
  ∀ t s x t' s', run t s = some (x, t', s') → AllP s'.cnd → CodeP P ng c t s.hp x t' s'.hp ∧ AllP s.cnd

theorem codeQ_then {P : Program} {ng : Cx} {b : Code} {t1 t2 : Tm} {hp hp1 hp2 : Hp} {x : Ex} {g : Inj} {w : World} {a : Act} (h0 : HRel ng g hp.heap w) (h2 : CodeP P ng b t1 hp1 x t2 hp2) {e : Exit} {a' : Act} {w' : World}
    (h : CodeQ ng hp .normal t1 hp1 g w a e a' w') : Exit.then (b.wp P (CodeQ ng hp x t2 hp2 g w a)) (CodeQ ng hp x t2 hp2 g w a) e a' w' := by
  obtain ⟨g', k1, k2, k3, k4, k5, k6⟩ := h
  cases e <;> simp only [ExRel] at k1
  exact wp_mono (h2.wp g' w' a' k2 k4) fun e a'' w'' hq => CodeQ.trans h0 k3 k5 k6 hq

theorem codeQ_pass {ng : Cx} {t1 : Tm} {hp hp1 : Hp} {x : Ex} {g : Inj} {w : World} {a : Act} (hx : x ≠ .normal) {K : Act → World → Prop} {e : Exit} {a' : Act} {w' : World}
    (h : CodeQ ng hp x t1 hp1 g w a e a' w') : Exit.then K (CodeQ ng hp x t1 hp1 g w a) e a' w' := by
  cases e with
  | normal =>
    obtain ⟨g', k1, _⟩ := h
    cases x <;> simp only [ExRel] at k1
    exact absurd rfl hx
  | _ => exact h

theorem loopA_sound {P : Program} {ng : Cx} {c : Code} {run : Tm → St → Option (Ex × Tm × St)} (hs : CodeSound P ng c run) : ∀ (n : Nat) (t : Tm) (s : St) (x : Ex) (t' : Tm) (s' : St), loopA run n t s = some (x, t', s') → AllP s'.cnd →
    AllP s.cnd ∧ Touch s.hp s'.hp ∧ ∀ g w a, HRel ng g s.hp.heap w → TRel g t a → Code.rounds P c (CodeQ ng s.hp x t' s'.hp g w a) n a w
  | 0, t, s, x, t', s', h, _ => by simp [loopA] at h
  | n + 1, t, s, x, t', s', h, hc => by
    simp only [loopA] at h
    split at h
    · rename_i x1 t1 s1 h1
      split at h
      · obtain ⟨c1, k1, k2⟩ := loopA_sound hs n t1 s1 x t' s' h hc
        obtain ⟨m1, m2⟩ := hs _ _ _ _ _ h1 c1
        refine ⟨m2, m1.touch.trans k1, fun g w a hH ht => ?_⟩
        rw [rounds_succ]
        refine wp_mono (m1.wp g w a hH ht) fun e a' w' hq => ?_
        obtain ⟨g', q1, q2, q3, q4, q5, q6⟩ := hq
        cases e <;> simp only [ExRel] at q1
        have mono : ∀ (n : Nat) (Q Q' : Exit → Act → World → Prop) (b : Act) (w2 : World), (∀ e a w, Q e a w → Q' e a w) → Code.rounds P c Q n b w2 → Code.rounds P c Q' n b w2 := by
          intro n
          induction n with
          | zero => intro Q Q' b w2 _ h; exact h
          | succ n ih =>
            intro Q Q' b w2 hq h
            rw [rounds_succ] at h ⊢
            refine wp_mono h fun e a w h => ?_
            cases e with
            | normal => exact ih Q Q' a w hq h
            | _ => exact hq _ _ _ h
        exact mono n _ _ _ _ (fun e a'' w'' hq => CodeQ.trans hH q3 q5 q6 hq) (k2 g' w' a' q2 q4)
      · rename_i hne
        cases h
        obtain ⟨m1, m2⟩ := hs _ _ _ _ _ h1 hc
        refine ⟨m2, m1.touch, fun g w a hH ht => ?_⟩
        rw [rounds_succ]
        exact wp_mono (m1.wp g w a hH ht) fun e a' w' hq => codeQ_pass (fun e => hne e) hq
    · cases h

theorem codeA_sound {P : Program} {ng : Cx} {fuel : Nat} {call : CallF} (hm : P.follows .mixedOrders = true) (hcall : CallSound P ng call) : ∀ (c : Code), CodeSound P ng c (codeA P ng fuel call c)
  | .skip => by
    intro t s x t' s' h hc
    simp only [codeA] at h; cases h
    exact ⟨⟨Touch.refl _, fun g w a hH ht => wp_skip ⟨g, trivial, hH, Ext.refl _ _ _, ht, rfl, rfl⟩⟩, hc⟩
  | .label l => by
    intro t s x t' s' h hc
    simp only [codeA] at h; cases h
    exact ⟨⟨Touch.refl _, fun g w a hH ht => wp_label ⟨g, trivial, hH, Ext.refl _ _ _, ht, rfl, rfl⟩⟩, hc⟩
  | .region id ops draw => by
    intro t s x t' s' h hc
    cases draw with
    | false =>
      simp only [codeA] at h
      obtain ⟨k1, k2, k3⟩ := opsA_sound hcall ops.toList t s x t' s' h hc
      exact ⟨⟨k2, fun g w a hH ht => wp_region_list (k3 g w a hH ht)⟩, k1⟩
    | true =>
      simp only [codeA] at h
      split at h
      · rename_i h1
        cases h
        obtain ⟨k1, k2, k3⟩ := drawA_sound hm hcall h1 hc
        exact ⟨⟨k2, k3 id⟩, k1⟩
      · cases h
  | .seq c d => by
    intro t s x t' s' h hc
    simp only [codeA] at h
    split at h
    · rename_i x1 t1 s1 h1
      split at h
      · obtain ⟨k1, k2⟩ := codeA_sound hm hcall d _ _ _ _ _ h hc
        obtain ⟨m1, m2⟩ := codeA_sound hm hcall c _ _ _ _ _ h1 k2
        refine ⟨⟨m1.touch.trans k1.touch, fun g w a hH ht => wp_seq ?_⟩, m2⟩
        exact wp_mono (m1.wp g w a hH ht) fun e a' w' hq => codeQ_then hH k1 hq
      · rename_i hne
        cases h
        obtain ⟨m1, m2⟩ := codeA_sound hm hcall c _ _ _ _ _ h1 hc
        refine ⟨⟨m1.touch, fun g w a hH ht => wp_seq ?_⟩, m2⟩
        exact wp_mono (m1.wp g w a hH ht) fun e a' w' hq => codeQ_pass (fun e => hne e) hq
    · cases h
  | .cond o c d => by
    intro t s x t' s' h hc
    simp only [codeA] at h
    split at h
    · rename_i b hb
      have hcond : ∀ g w a, HRel ng g s.hp.heap w → TRel g t a → a.eval o = .bool b := by
        intro g w a hH ht
        have := ht.eval hH.sig hH.glob hb
        cases hh : a.eval o <;> rw [hh] at this <;> cases this
        rfl
      cases b with
      | true =>
        obtain ⟨k1, k2⟩ := codeA_sound hm hcall c _ _ _ _ _ h hc
        exact ⟨⟨k1.touch, fun g w a hH ht => wp_cond_true (hcond g w a hH ht) (k1.wp g w a hH ht)⟩, k2⟩
      | false =>
        obtain ⟨k1, k2⟩ := codeA_sound hm hcall d _ _ _ _ _ h hc
        exact ⟨⟨k1.touch, fun g w a hH ht => wp_cond_false (hcond g w a hH ht) (k1.wp g w a hH ht)⟩, k2⟩
    · cases h
  | .block id c => by
    intro t s x t' s' h hc
    simp only [codeA] at h
    split at h
    · rename_i x1 t1 s1 h1
      have close : ∀ (x2 : Ex), (∀ g e, ExRel g x1 e → (∃ i, e = .exit i ∧ i = id ∧ x2 = .normal) ∨ ((∀ i, e = .exit i → i ≠ id) ∧ ExRel g x2 e)) → AllP s1.cnd → CodeP P ng (.block id c) t s.hp x2 t1 s1.hp ∧ AllP s.cnd := by
        intro x2 hx hc1
        obtain ⟨m1, m2⟩ := codeA_sound hm hcall c _ _ _ _ _ h1 hc1
        refine ⟨⟨m1.touch, fun g w a hH ht => wp_block ?_⟩, m2⟩
        refine wp_mono (m1.wp g w a hH ht) fun e a' w' hq => ?_
        obtain ⟨g', q1, q2⟩ := hq
        rcases hx g' e q1 with ⟨i, rfl, rfl, rfl⟩ | ⟨hi, q3⟩
        · simp only [Exit.inBlock, if_true]; exact ⟨g', trivial, q2⟩
        · cases e with
          | exit i => simp only [Exit.inBlock]; rw [if_neg (hi i rfl)]; exact ⟨g', q3, q2⟩
          | _ => exact ⟨g', q3, q2⟩
      split at h
      · rename_i i
        split at h
        · rename_i hid
          cases h
          refine close .normal (fun g e he => ?_) hc
          cases e <;> simp only [ExRel] at he
          exact .inl ⟨_, rfl, he.symm.trans hid, rfl⟩
        · rename_i hid
          cases h
          refine close (.exit i) (fun g e he => ?_) hc
          cases e <;> simp only [ExRel] at he
          refine .inr ⟨fun j hj => ?_, he⟩
          cases hj
          exact fun e => hid (he.trans e)
      · rename_i hne
        cases h
        refine close x (fun g e he => ?_) hc
        refine .inr ⟨fun j hj => ?_, he⟩
        subst hj
        cases x <;> simp only [ExRel] at he
        exact absurd rfl (hne _)
    · cases h
  | .loop c => by
    intro t s x t' s' h hc
    simp only [codeA] at h
    split at h
    · obtain ⟨k1, k2, k3⟩ := loopA_sound (codeA_sound hm hcall c) fuel t s x t' s' h hc
      exact ⟨⟨k2, fun g w a hH ht => wp_loop_rounds fuel (k3 g w a hH ht)⟩, k1⟩
    · split at h
      · cases h; exact ⟨hc.1, hc.2⟩
      · cases h
    · obtain ⟨k1, k2, k3⟩ := loopA_sound (codeA_sound hm hcall c) fuel t _ x t' s' h hc
      exact ⟨⟨k2, fun g w a hH ht => wp_loop_rounds fuel (k3 g w a hH ht)⟩, k1⟩
  | .exit i => by
    intro t s x t' s' h hc
    simp only [codeA] at h; cases h
    exact ⟨⟨Touch.refl _, fun g w a hH ht => wp_exit ⟨g, rfl, hH, Ext.refl _ _ _, ht, rfl, rfl⟩⟩, hc⟩
  | .ret => by
    intro t s x t' s' h hc
    simp only [codeA] at h; cases h
    exact ⟨⟨Touch.refl _, fun g w a hH ht => wp_ret ⟨g, trivial, hH, Ext.refl _ _ _, ht, rfl, rfl⟩⟩, hc⟩
  | .rangeFunc _ _ _ _ => by intro t s x t' s' h _; simp [codeA] at h
  | .scope _ => by intro t s x t' s' h _; simp [codeA] at h
  | .goto _ => by intro t s x t' s' h _; simp [codeA] at h
  | .refuse _ => by intro t s x t' s' h _; simp [codeA] at h

/-! ### Calls -/

def resA (P : Program) (t : Tm) (H : List Blk) : List ResultVar → Option (List AVal)
  | [] => some []
  | r :: l => match (match r with
      | .tmp i => t.get i
      | .cell i ty => match t.get i with
        | some x => loadV P ty x H
        | _ => none : Option AVal) with
    | some v => match resA P t H l with
      | some vs => some (v :: vs)
      | none => none
    | none => none

mutual
def idFree : AVal → Bool
  | .bool _ => true
  | .int _ _ => true
  | .float _ _ => true
  | .str _ => true
  | .nilptr => true
  | .nilslice => true
  | .nilmap => true
  | .nilfunc => true
  | .niliface => true
  | .symi _ _ => true
  | .symb _ => true
  | .syms _ => true
  | .func _ f c => idFreeL f && idFreeL c
  | .iface _ v => idFree v
  | .agg l => idFreeL l
  | .tuple l => idFreeL l
  | _ => false
def idFreeL : List AVal → Bool
  | [] => true
  | v :: l => idFree v && idFreeL l
end

def oldOnly (n : Nat) : List Nat → Bool
  | [] => true
  | i :: l => Nat.ble n i && oldOnly n l

def packA : List AVal → AVal
  | [v] => v
  | vs => .tuple vs

/-- The call's end: what it made is forgotten, where nothing of it can be reached. -/
def leaveA (v : AVal) (s s' : St) : Out × St :=
  match idFree v && oldOnly s.hp.heap.length s'.hp.log with
  | true => (.val v, ⟨s.hp, s'.orc, s'.cnd⟩)
  | false => (.val v, ⟨⟨s'.hp.heap, s'.hp.log ++ s.hp.log⟩, s'.orc, s'.cnd⟩)

def entryA (args : List AVal) (n : Nat) : Tm := ⟨n, TT.mk args n undefA 12 0 1⟩

def callA (P : Program) (ng : Cx) (fuel : Nat) : Nat → CallF
  | 0, _, _, _ => none
  | d + 1, f, args, s => match P.funcs[f]? with
    | some fn => match fn.body with
      | some c => match codeA P ng fuel (callA P ng fuel d) c (entryA args fn.ntmps) ⟨⟨s.hp.heap, []⟩, s.orc, s.cnd⟩ with
        | some (x, t', s') => match x with
          | .normal => match resA P t' s'.hp.heap fn.results.toList with
            | some vs => some (leaveA (packA vs) s s')
            | none => none
          | .ret => match resA P t' s'.hp.heap fn.results.toList with
            | some vs => some (leaveA (packA vs) s s')
            | none => none
          | .pan v => some (.pan v, ⟨⟨s'.hp.heap, s'.hp.log ++ s.hp.log⟩, s'.orc, s'.cnd⟩)
          | .exit _ => none
        | none => none
      | none => none
    | none => none

section
variable {P : Program} {ng : Cx}

mutual
theorem idFree_rel {g g' : Inj} (hs : g'.sig = g.sig) : ∀ {a : AVal} {v : Value}, VRel g a v → idFree a = true → VRel g' a v
  | _, _, .bool b, _ => .bool b
  | _, _, .int k n, _ => .int k n
  | _, _, .float k n, _ => .float k n
  | _, _, .str s, _ => .str s
  | _, _, .nilptr, _ => .nilptr
  | _, _, .ptr _ _ _ _, h => by simp [idFree] at h
  | _, _, .nilslice, _ => .nilslice
  | _, _, .slice _ _ _ _ _ _ _ _ _ _ _ _, h => by simp [idFree] at h
  | _, _, .nilmap, _ => .nilmap
  | _, _, .map _ _ _, h => by simp [idFree] at h
  | _, _, .nilfunc, _ => .nilfunc
  | _, _, .func fn f c f' c' h1 h2, h => by
    simp only [idFree, Bool.and_eq_true] at h
    exact .func fn f c f' c' (idFreeL_rel hs h1 h.1) (idFreeL_rel hs h2 h.2)
  | _, _, .niliface, _ => .niliface
  | _, _, .symi k i, _ => by rw [← hs]; exact .symi k i
  | _, _, .symb i, _ => by rw [← hs]; exact .symb i
  | _, _, .syms i, _ => by rw [← hs]; exact .syms i
  | _, _, .iface t v v' h1, h => by
    simp only [idFree] at h
    exact .iface t v v' (idFree_rel hs h1 h)
  | _, _, .agg l l' h1, h => by
    simp only [idFree] at h
    exact .agg l l' (idFreeL_rel hs h1 h)
  | _, _, .tuple l l' h1, h => by
    simp only [idFree] at h
    exact .tuple l l' (idFreeL_rel hs h1 h)
theorem idFreeL_rel {g g' : Inj} (hs : g'.sig = g.sig) : ∀ {a : List AVal} {v : List Value}, LRel g a v → idFreeL a = true → LRel g' a v
  | _, _, .nil, _ => .nil
  | _, _, .cons a v l m h1 h2, h => by
    simp only [idFreeL, Bool.and_eq_true] at h
    exact .cons a v l m (idFree_rel hs h1 h.1) (idFreeL_rel hs h2 h.2)
end

theorem oldOnly_spec {n : Nat} : ∀ {l : List Nat}, oldOnly n l = true → ∀ i, i < n → i ∉ l
  | [], _, _, _ => by simp
  | j :: l, h, i, hi => by
    simp only [oldOnly, Bool.and_eq_true, Nat.ble_eq] at h
    simp only [List.mem_cons, not_or]
    exact ⟨by omega, oldOnly_spec h.2 i hi⟩

def resOne (tmps : Array Value) : ResultVar → Sem Value
  | .tmp t => pure (tmps.getD t undef)
  | .cell x t => do loadVar t (← asAddr (tmps.getD x undef))

theorem results_eq (fn : Func) (tmps : Array Value) : results fn tmps = (do
    let vs ← fn.results.mapM (resOne tmps)
    pure (if h : vs.size = 1 then vs[0] else .tuple vs)) := by
  unfold results
  congr 2

theorem resA_sound {g : Inj} {H : List Blk} {w : World} {t : Tm} {a : Act} (hH : HRel ng g H w) (ht : TRel g t a) : ∀ (l : List ResultVar) (vs : List AVal), resA P t H l = some vs →
    ∃ us : List Value, (l.mapM (resOne a.tmps)).run P w = .ok us w ∧ LRel g vs us
  | [], vs, h => by simp [resA] at h; subst h; exact ⟨[], by simp, .nil⟩
  | r :: l, vs, h => by
    simp only [resA] at h
    split at h
    · rename_i v hv
      split at h
      · rename_i vs' hvs
        cases h
        obtain ⟨us, h1, h2⟩ := resA_sound hH ht l vs' hvs
        cases r with
        | tmp i =>
          simp only at hv
          obtain ⟨u, k1, k2⟩ := ht.2 i v hv
          refine ⟨u :: us, ?_, .cons _ _ _ _ k2 h2⟩
          rw [List.mapM_cons]
          simp only [resOne, Sem.run_bind, Sem.run_pure, Result.andThen_ok, h1]
          simp [k1]
        | cell i ty =>
          simp only at hv
          split at hv
          · rename_i x hx
            obtain ⟨u, k1, k2⟩ := ht.2 i x hx
            obtain ⟨y, m1, m2⟩ := run_loadV (P := P) hH hv k2
            refine ⟨y :: us, ?_, .cons _ _ _ _ m2 h2⟩
            rw [List.mapM_cons]
            have hu : ∃ ad, u = .pointer (some ad) := by
              unfold loadV at hv
              split at hv
              · cases k2; exact ⟨_, rfl⟩
              · cases hv
            obtain ⟨ad, rfl⟩ := hu
            have m1' : (loadVar ty ad).run P w = .ok y w := by simpa [Instr.loadAt, Instr.sureAddr] using m1
            simp only [resOne, Sem.run_bind, Array.getD_eq_getD_getElem?, k1, Option.getD_some, asAddr, Sem.run_pure, Result.andThen_ok, m1', h1]
          · cases hv
      · cases h
    · cases h

theorem results_run {g : Inj} {H : List Blk} {w : World} {t : Tm} {a : Act} (hH : HRel ng g H w) (ht : TRel g t a) {fn : Func} {vs : List AVal} (h : resA P t H fn.results.toList = some vs) :
    ∃ u, (results fn a.tmps).run P w = .ok u w ∧ VRel g (packA vs) u := by
  obtain ⟨us, h1, h2⟩ := resA_sound (P := P) hH ht fn.results.toList vs h
  have hl := h2.length
  rw [results_eq, Array.mapM_eq_mapM_toList]
  simp only [Sem.run_bind, Sem.run_map, Sem.run_pure]
  rw [h1]
  simp only [Result.andThen_ok]
  cases h2 with
  | nil => exact ⟨.tuple #[], by simp, .tuple _ _ .nil⟩
  | cons b v l m hb hl' =>
    cases hl' with
    | nil => exact ⟨v, by simp, by simpa [packA] using hb⟩
    | cons b' v' l' m' hb' hl'' =>
      refine ⟨.tuple (v :: v' :: m').toArray, by simp, ?_⟩
      exact .tuple _ _ (by simpa using LRel.cons b v _ _ hb (.cons b' v' _ _ hb' hl''))

theorem enter_trel {g : Inj} {args : List AVal} {args' : Array Value} (h : LRel g args args'.toList) (n : Nat) :
    TRel g (entryA args n) { tmps := args' ++ Array.replicate (n - args'.size) undef, defers := [] } := by
  have hl := h.length
  simp at hl
  refine ⟨by simp [entryA]; omega, ?_⟩
  intro i v hi
  have hlt : i < n := Tm.get_lt hi
  have hv := TT.get_mk _ _ _ _ _ _ _ _ (Tm.get_tr hi)
  simp only [Nat.zero_add, Nat.one_mul] at hv
  rcases Nat.lt_or_ge i args.length with h9 | h9
  · obtain ⟨u, k1, k2⟩ := h.get i args[i] (by simp [h9])
    refine ⟨u, ?_, ?_⟩
    · rw [Array.getElem?_append_left (by omega)]
      simpa using k1
    · rw [hv]; simpa [List.getD_eq_getElem?_getD, h9] using k2
  · refine ⟨undef, ?_, ?_⟩
    · rw [Array.getElem?_append_right (by omega), Array.getElem?_replicate, if_pos (by omega)]
    · rw [hv, List.getD_eq_getElem?_getD, List.getElem?_eq_none h9]
      exact .tuple _ _ .nil

theorem gc_rel {g g' : Inj} {H H' : List Blk} {w w' : World} (h : HRel ng g H w) (h' : HRel ng g' H' w') (hE : Ext g H w g' H' w') (hsame : ∀ i, i < H.length → H'[i]? = H[i]?) : HRel ng g H w' ∧ Ext g H w g H w' := by
  constructor
  · refine ⟨fun i L hi => ⟨(h.dom i L hi).1, Nat.lt_of_lt_of_le (h.dom i L hi).2 hE.size⟩, h.inj, ?_, h.glob, h.sig, fun i X hi hl => ⟨(h'.frz i X (by rw [hE.sub.sig]; exact hi) hl).1, (h.frz i X hi hl).2⟩⟩
    intro i k hi hk
    obtain ⟨L, hL, hB⟩ := h.blk i k hi hk
    refine ⟨L, hL, ?_⟩
    have hil : i < H.length := (List.getElem?_eq_some_iff.1 hi).1
    obtain ⟨L', hL', hB'⟩ := h'.blk i k (by rw [hsame i hil]; exact hi) hk
    have := hE.sub i L hL
    rw [this] at hL'; cases hL'
    cases k with
    | gone => trivial
    | map l =>
      obtain ⟨_, _, es1, _, _, b3⟩ := hB
      obtain ⟨es, cl, es', d1, d2, d3⟩ := hB'
      exact ⟨es, cl, es', d1, d2, MRel.back hE.sub b3 d3⟩
    | cells c e =>
      obtain ⟨C, fr, _, _, _, _, b5⟩ := hB
      obtain ⟨C', fr', d1, d2, d3, d4, d5⟩ := hB'
      refine ⟨C', fr', d1, d2, d3, d4, ?_⟩
      intro j x hj
      obtain ⟨v, _, m2, _⟩ := b5 j x hj
      obtain ⟨v', n1, n2, n3⟩ := d5 j x hj
      exact ⟨v', n1, VRel.back' hE.sub m2 n2, n3⟩
  · exact ⟨Sub.refl g, (fun i L hi hn => by rw [hn] at hi; cases hi), Nat.le_refl _, fun _ _ hl => hl, hE.size, hE.frame, hE.os, hE.tape, hE.output⟩

theorem callA_sound {fuel : Nat} (hm : P.follows .mixedOrders = true) (hh : Hooks P ng) : ∀ (d : Nat), CallSound P ng (callA P ng fuel d)
  | 0 => ⟨hh, by intro f args s o s' h _; simp [callA] at h⟩
  | d + 1 => by
    refine ⟨hh, ?_⟩
    intro f args s o s' h hc
    simp only [callA] at h
    split at h
    · rename_i fn hfn
      split at h
      · rename_i c hb
        split at h
        · rename_i x t1 s1 hcode
          have body : AllP s1.cnd → CodeP P ng c (entryA args fn.ntmps) ⟨s.hp.heap, []⟩ x t1 s1.hp ∧ AllP s.cnd := fun hc1 => codeA_sound hm (callA_sound hm hh d) c _ _ _ _ _ hcode hc1
          have htouch : Touch ⟨s.hp.heap, []⟩ s1.hp → Touch s.hp ⟨s1.hp.heap, s1.hp.log ++ s.hp.log⟩ := by
            intro k
            obtain ⟨pre, e1, e2⟩ := k.log
            simp only [List.append_nil] at e1
            exact ⟨k.len, ⟨pre, by rw [e1], e2⟩, k.live⟩
          -- a plain end
          have plain : ∀ vs, (x = .normal ∨ x = .ret) → resA P t1 s1.hp.heap fn.results.toList = some vs → leaveA (packA vs) s s1 = (o, s') → CallP P ng f args s.hp o s'.hp ∧ AllP s.cnd := by
            intro vs hx hres hlv
            have hc1 : AllP s1.cnd := by
              unfold leaveA at hlv
              split at hlv <;> (cases hlv; exact hc)
            obtain ⟨m1, m2⟩ := body hc1
            refine ⟨?_, m2⟩
            have run : ∀ g w args', HRel ng g s.hp.heap w → LRel g args args'.toList → Calls P f args' w fun e w' => ∃ g', (∃ u, e = .returned u ∧ VRel g' (packA vs) u) ∧ HRel ng g' s1.hp.heap w' ∧ Ext g s.hp.heap w g' s1.hp.heap w' := by
              intro g w args' hH hargs
              refine calls_of_wp hfn hb ?_
              refine wp_mono (m1.wp g w _ hH (enter_trel hargs fn.ntmps)) fun e a' w' hq => ?_
              obtain ⟨g', q1, q2, q3, q4, q5, q6⟩ := hq
              obtain ⟨u, r1, r2⟩ := results_run (P := P) q2 q4 hres
              rcases hx with rfl | rfl <;> (cases e <;> simp only [ExRel] at q1) <;> exact ⟨q6, u, r1, g', ⟨u, rfl, r2⟩, q2, q3⟩
            unfold leaveA at hlv
            split at hlv
            · rename_i hgc
              cases hlv
              simp only [Bool.and_eq_true] at hgc
              refine ⟨Touch.refl _, fun g w args' hH hargs => ?_⟩
              refine (run g w args' hH hargs).mono ?_
              rintro e w' ⟨g', ⟨u, rfl, hu⟩, k1, k2⟩
              have hsame : ∀ i, i < s.hp.heap.length → s1.hp.heap[i]? = s.hp.heap[i]? := by
                intro i hi
                obtain ⟨pre, e1, e2⟩ := m1.touch.log
                simp only [List.append_nil] at e1
                exact e2 i hi (by rw [← e1]; exact oldOnly_spec hgc.2 i hi)
              obtain ⟨r1, r2⟩ := gc_rel hH k1 k2 hsame
              exact ⟨g, ⟨u, rfl, idFree_rel k2.sub.sig.symm hu hgc.1⟩, r1, r2⟩
            · cases hlv
              refine ⟨htouch m1.touch, fun g w args' hH hargs => ?_⟩
              exact run g w args' hH hargs
          split at h
          · split at h
            · rename_i vs hres
              exact plain vs (.inl rfl) hres (Option.some.inj h)
            · cases h
          · split at h
            · rename_i vs hres
              exact plain vs (.inr rfl) hres (Option.some.inj h)
            · cases h
          · rename_i v
            cases h
            obtain ⟨m1, m2⟩ := body hc
            refine ⟨⟨htouch m1.touch, fun g w args' hH hargs => ?_⟩, m2⟩
            refine calls_of_wp hfn hb ?_
            refine wp_mono (m1.wp g w _ hH (enter_trel hargs fn.ntmps)) fun e a' w' hq => ?_
            obtain ⟨g', q1, q2, q3, q4, q5, q6⟩ := hq
            cases e <;> simp only [ExRel] at q1
            obtain ⟨u, rfl, hu⟩ := q1
            exact ⟨q6, g', ⟨u, rfl, hu⟩, q2, q3⟩
          · cases h
        · cases h
      · cases h
    · cases h

/-- From the abstract heap to the model: a call whose arguments and result hold no address. -/
theorem CallP.closed (h0n : ng.n = 0) {σ : Sig} (hz : ∀ i, σ.ext i = none) (hσ : ng.Good σ) {f : FuncId} {args : List AVal} {v : AVal} {hp' : Hp} (h : CallP P ng f args ⟨[], []⟩ (.val v) hp') (hv : idFree v = true) {args' : Array Value}
    (ha : LRel ⟨fun _ => none, σ⟩ args args'.toList) (w : World) :
    Calls P f args' w fun e w' => ∃ u, e = .returned u ∧ VRel ⟨fun _ => none, σ⟩ v u ∧ RowKit.Below w.heap.size w w' := by
  have h0 : HRel ng ⟨fun _ => none, σ⟩ [] w := ⟨fun i L hi => by simp at hi, fun i j L M hi => by simp at hi, fun i k hi => by simp at hi, fun i hi => by omega, hσ, fun i X hi _ => by have hi : σ.ext i = some X := hi; rw [hz i] at hi; cases hi⟩
  refine (h.calls _ w args' h0 ha).mono ?_
  rintro e w' ⟨g', ⟨u, rfl, hu⟩, h1, h2⟩
  exact ⟨u, rfl, idFree_rel h2.sub.sig.symm hu hv, ⟨h2.os, h2.tape, h2.output, h2.size, fun k hk => h2.frame k hk (fun i L hi => by simp at hi)⟩⟩

def isTrue : Option (Out × St) → Bool
  | some (.val (.bool true), s) => match s.cnd with
    | [] => true
    | _ => false
  | _ => false

/-- A call without addresses that is reckoned to give true. -/
theorem sym_true {fuel d : Nat} {f : FuncId} {args : List AVal} (hm : P.follows .mixedOrders = true) (h : isTrue (callA P ng fuel d f args ⟨⟨[], []⟩, [], []⟩) = true) (hh : Hooks P ng) (h0n : ng.n = 0) {σ : Sig} (hz : ∀ i, σ.ext i = none) (hσ : ng.Good σ)
    {args' : Array Value} (ha : LRel ⟨fun _ => none, σ⟩ args args'.toList) (w : World) :
    Calls P f args' w fun e w' => e = .returned (.bool true) ∧ RowKit.Below w.heap.size w w' := by
  unfold isTrue at h
  split at h
  · rename_i s hs
    split at h
    · rename_i hcnd
      have := ((callA_sound (fuel := fuel) hm hh d).2 _ _ _ _ _ hs (by rw [hcnd]; trivial)).1
      refine (CallP.closed h0n hz hσ this rfl ha w).mono ?_
      rintro e w' ⟨u, rfl, hu, hb⟩
      cases hu
      exact ⟨rfl, hb⟩
    · cases h
  · cases h

def noCx : Cx := ⟨0, fun _ => none, fun _ => none, fun _ => none, fun _ _ => none, fun _ _ => 0, fun _ => none, fun _ _ => none⟩

/-- A closed call that is reckoned to give true. -/
theorem closed_true {fuel d : Nat} {f : FuncId} (hm : P.follows .mixedOrders = true) (h : isTrue (callA P noCx fuel d f [] ⟨⟨[], []⟩, [], []⟩) = true) (w : World) :
    Calls P f #[] w fun e w' => e = .returned (.bool true) ∧ RowKit.Below w.heap.size w w' :=
  sym_true (σ := ⟨fun _ => 0, fun _ => false, fun _ => .empty, fun _ _ => 0, fun _ => none⟩) hm h (fun _ _ _ h => by simp [noCx] at h) rfl (fun _ => rfl) ⟨fun _ _ h => by simp [noCx] at h, fun _ _ h => by simp [noCx] at h, fun _ _ h => by simp [noCx] at h, rfl, fun _ _ _ h => by simp [noCx] at h, fun _ _ _ _ h => by simp [noCx] at h⟩ .nil w
end
end Go.Ev
