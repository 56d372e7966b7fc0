/- Calls known ahead by their operations: a contract's operations, with the call's arguments, looked up one by one. -/
import Derived.Test.YtgifnmiggloclaaEwZh
namespace Go.Ev
open Go.RowKit
set_option linter.unusedVariables false
set_option linter.unusedSimpArgs false
set_option linter.unnecessarySimpa false

structure Mac where
  f : FuncId
  ins : List Sh
  outs : List Sh
  m : Nat
  G : List SDef
  cs : List AVal

structure MacOk (P : Program) (tab : TabF) (e : Mac) : Prop where
  fn : FnOk P e.f e.ins e.outs (dagF tab e.m e.G e.cs)
  ok : okG e.G e.m = true
  m : e.m = (cellsOf e.ins).length
  cells : okCells (kdF e.m ((cellsOf e.ins).map kindC) e.G 12) (cellsOf e.outs) e.cs = true

/-- what the callee's unknowns are here -/
def EnvOk (σ τ : Sig) (env : TT) : Prop := ∀ i a, env.get i = some a → (∀ k, skOf a = some (.i k) → den σ a = .int k (τ.ival i)) ∧ (skOf a = some .b → den σ a = .bool (τ.bval i))

def envA (env : TT) (a : AVal) : Option AVal :=
  match a with
  | .symi k i => match env.get i with
    | some v => match skOf v with
      | some (.i k') => match decide (k = k') with
        | true => some v
        | false => none
      | _ => none
    | none => none
  | .symb i => match env.get i with
    | some v => match skOf v with
      | some .b => some v
      | _ => none
    | none => none
  | .int _ _ => some a
  | .bool _ => some a
  | _ => none

theorem envA_ok {σ τ : Sig} {env : TT} (h : EnvOk σ τ env) {a v : AVal} (he : envA env a = some v) : den σ v = den τ a := by
  unfold envA at he
  split at he
  · rename_i k i
    split at he
    · rename_i w hw
      split at he
      · rename_i k' hk
        split at he
        · rename_i hd
          simp only [decide_eq_true_eq] at hd
          subst hd
          cases he
          exact (h i _ hw).1 _ hk
        · cases he
      · cases he
    · cases he
  · rename_i i
    split at he
    · rename_i w hw
      split at he
      · rename_i hk
        cases he
        exact (h i _ hw).2 hk
      · cases he
    · cases he
  · cases he; rfl
  · cases he; rfl
  · cases he

def envL (env : TT) : List AVal → Option (List AVal)
  | [] => some []
  | a :: l => match envA env a with
    | some b => match envL env l with
      | some m => some (b :: m)
      | none => none
    | none => none

theorem envL_ok {σ τ : Sig} {env : TT} (h : EnvOk σ τ env) : ∀ {l m : List AVal}, envL env l = some m → m.map (den σ) = l.map (den τ)
  | [], m, he => by simp only [envL, Option.some.injEq] at he; subst he; rfl
  | a :: l, m, he => by
    simp only [envL] at he
    split at he
    · rename_i b hb
      split at he
      · rename_i m' hm
        cases he
        simp only [List.map_cons, envA_ok h hb, envL_ok h hm]
      · cases he
    · cases he

def envP (env : TT) : List (AVal × AVal) → Option (List (AVal × AVal))
  | [] => some []
  | a :: l => match envA env a.1 with
    | some b => match envA env a.2 with
      | some c => match envP env l with
        | some m => some ((b, c) :: m)
        | none => none
      | none => none
    | none => none

theorem envP_ok {σ τ : Sig} {env : TT} (h : EnvOk σ τ env) : ∀ {l m : List (AVal × AVal)}, envP env l = some m → (m.all fun x => eqS (den σ x.1) (den σ x.2)) = (l.all fun x => eqS (den τ x.1) (den τ x.2))
  | [], m, he => by simp only [envP, Option.some.injEq] at he; subst he; rfl
  | a :: l, m, he => by
    simp only [envP] at he
    split at he
    · rename_i b hb
      split at he
      · rename_i c hc
        split at he
        · rename_i m' hm
          cases he
          simp only [List.all_cons, envA_ok h hb, envA_ok h hc, envP_ok h hm]
        · cases he
      · cases he
    · cases he

def envD (env : TT) (d : SDef) : Option SDef :=
  match d with
  | .bin o a b => match envA env a, envA env b with
    | some a, some b => some (.bin o a b)
    | _, _ => none
  | .un o a => match envA env a with
    | some a => some (.un o a)
    | none => none
  | .conv k a => match envA env a with
    | some a => some (.conv k a)
    | none => none
  | .low l => match envL env l with
    | some l => some (.low l)
    | none => none
  | .high l => match envL env l with
    | some l => some (.high l)
    | none => none
  | .all l => match envP env l with
    | some l => some (.all l)
    | none => none
  | .fn i k l => match envL env l with
    | some l => some (.fn i k l)
    | none => none
  | .fnb i l => match envL env l with
    | some l => some (.fnb i l)
    | none => none
  | .ite c a b => match envA env c, envA env a, envA env b with
    | some c, some a, some b => some (.ite c a b)
    | _, _, _ => none
  | _ => none

theorem envD_ok {σ τ : Sig} {env : TT} (h : EnvOk σ τ env) (ht : σ.tab = τ.tab) {d e : SDef} (he : envD env d = some e) : evalS σ e = evalS τ d := by
  have num : ∀ (ρ : Sig) (l : List AVal), (l.map fun a => numS (den ρ a)) = (l.map (den ρ)).map numS := fun ρ l => by simp
  cases d <;> simp only [envD, reduceCtorEq] at he
  · split at he
    · rename_i a b ha hb; cases he; simp only [evalS, envA_ok h ha, envA_ok h hb]
    · cases he
  · split at he
    · rename_i a ha; cases he; simp only [evalS, envA_ok h ha]
    · cases he
  · split at he
    · rename_i a ha; cases he; simp only [evalS, envA_ok h ha]
    · cases he
  · split at he
    · rename_i a ha; cases he; simp only [evalS, envL_ok h ha]
    · cases he
  · split at he
    · rename_i a ha; cases he; simp only [evalS, envL_ok h ha]
    · cases he
  · split at he
    · rename_i a ha; cases he; simp only [evalS]; rw [envP_ok h ha]
    · cases he
  · split at he
    · rename_i a ha; cases he; simp only [evalS]; rw [num, num, envL_ok h ha, ht]
    · cases he
  · split at he
    · rename_i a ha; cases he; simp only [evalS]; rw [num, num, envL_ok h ha, ht]
    · cases he
  · split at he
    · rename_i a b c ha hb hc; cases he; simp only [evalS, envA_ok h ha, envA_ok h hb, envA_ok h hc]
    · cases he

/-- one operation: what it is here -/
def stepE (look : SDef → Option AVal) (env : TT) (d : SDef) : Option AVal :=
  match condD d with
  | some _ => none
  | none =>
    let gen : Option AVal := match envD env d with
      | some e => match foldD e with
        | some a => some a
        | none => look e
      | none => none
    match d with
    | .ite c a b => match envA env c with
      | some (.bool true) => envA env a
      | some (.bool false) => envA env b
      | _ => gen
    | _ => gen

def expandG (look : SDef → Option AVal) : List SDef → Nat → TT → TT
  | [], _, env => env
  | d :: G, i, env => match stepE look env d with
    | some a => expandG look G (i + 1) (env.put i a)
    | none => expandG look G (i + 1) env

theorem symS_den {ng : Cx} {σ : Sig} (hg : ng.Good σ) {d : SDef} {r : AVal} (h : symS ng d = some r) : evalS σ d = some (den σ r) := by
  unfold symS at h
  split at h
  · rename_i i hi
    have hl := hg.look d i hi
    rw [hl]
    split at h
    · rename_i j hr
      rw [hr]
      split at h
      · rename_i b hb; cases h; simp only [den]; rw [hg.fact _ _ hb]
      · cases h; rfl
    · rename_i k j hr
      rw [hr]
      split at h
      · rename_i n hn; cases h; simp only [den]; rw [hg.num _ _ hn]
      · cases h; rfl
    · rename_i r' hr1 hr2; cases h; rfl
  · cases h

theorem stepE_ok {σ τ : Sig} {env : TT} {look : SDef → Option AVal} (h : EnvOk σ τ env) (ht : σ.tab = τ.tab) (hl : ∀ d r, look d = some r → evalS σ d = some (den σ r)) {d : SDef} {i : Nat} (he : condD d = none → evalS τ d = some (den τ (resS d i))) {a : AVal} (hs : stepE look env d = some a) : den σ a = den τ (resS d i) := by
  unfold stepE at hs
  split at hs
  · cases hs
  · rename_i hc
    have he := he hc
    have gen : ∀ b, (match envD env d with
      | some e => match foldD e with
        | some a => some a
        | none => look e
      | none => none) = some b → den σ b = den τ (resS d i) := by
      intro b hb
      split at hb
      · rename_i e hd
        have h1 := envD_ok h ht hd
        split at hb
        · rename_i a' ha
          cases hb
          have := foldD_spec (σ := σ) ha
          rw [h1, he, Option.some.injEq] at this
          exact this.symm
        · have := hl _ _ hb
          rw [h1, he, Option.some.injEq] at this
          exact this.symm
      · cases hb
    simp only at hs
    split at hs
    · rename_i c x y
      split at hs
      · rename_i hcc
        have h1 := envA_ok h hcc
        simp only [evalS] at he
        rw [← h1] at he
        simp only [den, cond_true, Option.some.injEq] at he
        rw [envA_ok h hs]
        exact he
      · rename_i hcc
        have h1 := envA_ok h hcc
        simp only [evalS] at he
        rw [← h1] at he
        simp only [den, cond_false, Option.some.injEq] at he
        rw [envA_ok h hs]
        exact he
      · exact gen _ hs
    · exact gen _ hs

theorem EnvOk.put {σ τ : Sig} {env : TT} (h : EnvOk σ τ env) {i : Nat} {a : AVal} {d : SDef} (ha : den σ a = den τ (resS d i)) : EnvOk σ τ (env.put i a) := by
  intro j b hb
  rcases TT.get_put _ _ _ _ _ hb with ⟨rfl, rfl⟩ | ⟨_, h2⟩
  · rcases resS_cases d j with ⟨k, e⟩ | e | e <;> rw [e] at ha <;> refine ⟨fun k' hk => ?_, fun hk => ?_⟩ <;> cases b <;> simp only [skOf, reduceCtorEq, Option.some.injEq, SK.i.injEq] at hk <;> simp only [den, AVal.int.injEq, AVal.bool.injEq, reduceCtorEq] at ha ⊢ <;> (first | (subst hk; exact ⟨rfl, ha.2⟩) | exact ha)
  · exact h j b h2

theorem expandG_ok {σ τ : Sig} {look : SDef → Option AVal} (ht : σ.tab = τ.tab) (hl : ∀ d r, look d = some r → evalS σ d = some (den σ r)) : ∀ {G : List SDef} {i : Nat} {env : TT}, EnvOk σ τ env → (∀ k d, G[k]? = some d → condD d = none → evalS τ d = some (den τ (resS d (i + k)))) → EnvOk σ τ (expandG look G i env)
  | [], _, _, h, _ => h
  | d :: G, i, env, h, he => by
    have hr : ∀ k e, G[k]? = some e → condD e = none → evalS τ e = some (den τ (resS e (i + 1 + k))) := fun k e hk hc => by
      have := he (k + 1) e (by simpa using hk) hc
      rw [show i + 1 + k = i + (k + 1) by omega]; exact this
    simp only [expandG]
    split
    · rename_i a ha
      exact expandG_ok ht hl (h.put (stepE_ok h ht hl (he 0 d rfl) ha)) hr
    · exact expandG_ok ht hl h hr

/-- the arguments' cells -/
def env0 : List AVal → Nat → TT → TT
  | [], _, env => env
  | a :: l, i, env => env0 l (i + 1) (env.put i a)

def groupS : List Sh → List AVal → Option (List AVal)
  | [], [] => some []
  | [], _ :: _ => none
  | .one _ :: r, l => match l with
    | a :: l => match groupS r l with
      | some m => some (a :: m)
      | none => none
    | [] => none
  | .agg cs :: r, l => match groupS r (l.drop cs.length) with
    | some m => some (.agg (l.take cs.length) :: m)
    | none => none

theorem outCs_append {σ : Sig} : ∀ (a b : List Cl) (vs : List AVal) (L : List Int), OutCs σ (a ++ b) vs L → OutCs σ a (vs.take a.length) L ∧ OutCs σ b (vs.drop a.length) (L.drop a.length)
  | [], b, vs, L, h => ⟨by simp [OutCs], by simpa using h⟩
  | c :: a, b, [], L, h => by simp [OutCs] at h
  | c :: a, b, v :: vs, L, h => by
    obtain ⟨h1, h2⟩ := h
    obtain ⟨h3, h4⟩ := outCs_append a b vs L.tail h2
    refine ⟨⟨h1, h3⟩, ?_⟩
    cases L with
    | nil => simpa using h4
    | cons n L => simpa using h4

theorem groupS_ok {σ : Sig} : ∀ (ss : List Sh) (vs : List AVal) (L : List Int) (gs : List AVal), OutCs σ (cellsOf ss) vs L → groupS ss vs = some gs → OutSh σ ss gs L
  | [], [], L, gs, _, hg => by simp only [groupS, Option.some.injEq] at hg; subst hg; trivial
  | [], _ :: _, _, _, _, hg => by simp [groupS] at hg
  | .one c :: r, [], L, gs, h, hg => by simp [groupS] at hg
  | .one c :: r, v :: vs, L, gs, h, hg => by
    simp only [groupS] at hg
    split at hg
    · rename_i m hm
      cases hg
      exact ⟨h.1, groupS_ok r vs L.tail m h.2 hm⟩
    · cases hg
  | .agg cs :: r, vs, L, gs, h, hg => by
    simp only [groupS] at hg
    split at hg
    · rename_i m hm
      cases hg
      obtain ⟨h1, h2⟩ := outCs_append cs (cellsOf r) vs L h
      exact ⟨h1, groupS_ok r _ _ m h2 hm⟩
    · cases hg

def findMac (f : FuncId) : List Mac → Option Mac
  | [] => none
  | e :: r => match Nat.beq e.f f with
    | true => some e
    | false => findMac f r

theorem findMac_mem {f : FuncId} : ∀ {tbl : List Mac} {e : Mac}, findMac f tbl = some e → e ∈ tbl ∧ e.f = f
  | [], _, h => by simp [findMac] at h
  | x :: r, e, h => by
    simp only [findMac] at h
    split at h
    · rename_i hb; cases h; exact ⟨by simp, Nat.eq_of_beq_eq_true hb⟩
    · obtain ⟨h1, h2⟩ := findMac_mem h; exact ⟨by simp [h1], h2⟩

def macHook (tbl : List Mac) : HookF := fun look kd f args =>
  match findMac f tbl with
  | some e => match flatS e.ins args with
    | some as => match okCells kd (cellsOf e.ins) as with
      | true => match envL (expandG look e.G e.m (env0 as 0 (TT.skel (e.m + e.G.length) 12 0 1))) e.cs with
        | some vs => match groupS e.outs vs with
          | some gs => packS e.outs gs
          | none => none
        | none => none
      | false => none
    | none => none
  | none => none

theorem env0_ok {σ τ : Sig} : ∀ (l : List AVal) (cl : List Cl) (kd : Nat → Option IntKind) (i : Nat) (env : TT), okCells kd cl l = true → EnvOk σ τ env → (∀ j, j < l.length → τ.ival (i + j) = numS (den σ (l.getD j .nilptr)) ∧ τ.bval (i + j) = !(numS (den σ (l.getD j .nilptr)) == 0)) → EnvOk σ τ (env0 l i env)
  | [], _, _, _, _, _, h, _ => h
  | a :: l, [], _, _, _, hc, _, _ => by simp [okCells] at hc
  | a :: l, c :: cl, kd, i, env, hc, h, hv => by
    simp only [okCells, Bool.and_eq_true] at hc
    have h0 := hv 0 (by simp)
    simp only [Nat.add_zero, List.getD_cons_zero] at h0
    refine env0_ok l cl kd (i + 1) (env.put i a) hc.2 ?_ (fun j hj => ?_)
    · intro j b hb
      rcases TT.get_put _ _ _ _ _ hb with ⟨rfl, rfl⟩ | ⟨_, h2⟩
      · refine ⟨fun k hk => ?_, fun hk => ?_⟩
        · rw [h0.1]
          cases b <;> simp only [skOf, reduceCtorEq, Option.some.injEq, SK.i.injEq] at hk <;> subst hk <;> simp [den, numS]
        · rw [h0.2]
          cases b <;> simp only [skOf, reduceCtorEq, Option.some.injEq] at hk
          · rename_i x; cases x <;> simp [den, numS]
          · rename_i x; simp only [den, numS]; cases σ.bval x <;> simp
      · exact h j b h2
    · have := hv (j + 1) (by simpa using hj)
      rw [show i + 1 + j = i + (j + 1) by omega]
      simpa using this

theorem outs_env {σ τ : Sig} {kd : Nat → Option IntKind} (hk : ∀ i k, kd i = some k → k.wrap (τ.ival i) = τ.ival i) {env : TT} (h : EnvOk σ τ env) : ∀ (cl : List Cl) (cs vs : List AVal), okCells kd cl cs = true → envL env cs = some vs → OutCs σ cl vs (numsOf τ cs)
  | [], [], vs, _, he => by simp only [envL, Option.some.injEq] at he; subst he; trivial
  | [], _ :: _, _, hc, _ => by simp [okCells] at hc
  | _ :: _, [], _, hc, _ => by simp [okCells] at hc
  | c :: cl, a :: cs, vs, hc, he => by
    simp only [okCells, Bool.and_eq_true] at hc
    simp only [envL] at he
    split at he
    · rename_i b hb
      split at he
      · rename_i m hm
        cases he
        refine ⟨?_, outs_env hk h cl cs m hc.2 hm⟩
        rw [envA_ok h hb, cell_den hk hc.1]
        rfl
      · cases he
    · cases he

theorem mac_at {P : Program} {X : Ing} {tbl : List Mac} (hT : okLT X.m X.G X.T = true) (h : ∀ e, e ∈ tbl → MacOk P X.tab e) (F : List Fact) (f : FuncId) (args : List AVal) (v : AVal)
    (hv : macHook tbl (symS (baseOf X F)) (kdX X) f args = some v) (hp : Hp) : CallP P (cxOf X F) f args hp (.val v) hp := by
  unfold macHook at hv
  split at hv
  · rename_i e he
    obtain ⟨hmem, hf⟩ := findMac_mem he
    subst hf
    have hok := h e hmem
    split at hv
    · rename_i as has
      split at hv
      · rename_i hcell
        split at hv
        · rename_i vs hvs
          split at hv
          · rename_i gs hgs
            refine callP_below (fun g w args' hg ha => ?_) hp
            have hk : ∀ i k, kdX X i = some k → k.wrap (g.sig.ival i) = g.sig.ival i := fun i k h => hg.kd i k h
            have ea := flat_num hk e.ins args as args'.toList has hcell ha
            have hin := okCells_inR hk (cellsOf e.ins) as hcell (okCells_rel _ _ hcell)
            have hargs : args' = (encS e.ins (as.map fun a => numS (den g.sig a))).toArray := by rw [← ea]
            rw [hargs]
            refine (hok.fn _ hin w).mono ?_
            rintro en w' ⟨rfl, hB⟩
            refine ⟨_, rfl, ?_, hB⟩
            -- the callee's unknowns
            let l : List Int := as.map fun a => numS (den g.sig a)
            let τ : Sig := solve e.G e.m (sigL X.tab l)
            have ag := agree_solve e.G e.m (sigL X.tab l)
            have hlen : as.length = e.m := by rw [hok.m, ← inR_length hin]; simp
            have eq : Eqs τ e.m e.G := eqs_solve hok.ok
            have hins : InsOk τ e.m ((cellsOf e.ins).map kindC) := by
              intro i k him hk'
              rw [← (ag.val i him).1]
              refine inR_get (l := l) hin i k ?_
              rw [List.getElem?_map] at hk'
              cases hc : (cellsOf e.ins)[i]? with
              | none => rw [hc] at hk'; simp at hk'
              | some c =>
                rw [hc] at hk'
                cases c with
                | i k' => simp [kindC] at hk'; rw [hk']
                | b => simp [kindC] at hk'
            have hkd : ∀ i k, kdF e.m ((cellsOf e.ins).map kindC) e.G 12 i = some k → k.wrap (τ.ival i) = τ.ival i := fun i k h => kdF_spec eq hins 12 i k h
            have htab : g.sig.tab = τ.tab := by
              have h1 : g.sig.tab = X.tab := hg.tab
              rw [h1, ← ag.tab]; rfl
            have henv0 : EnvOk g.sig τ (env0 as 0 (TT.skel (e.m + e.G.length) 12 0 1)) := by
              refine env0_ok as (cellsOf e.ins) _ 0 _ hcell (fun i a h => by rw [TT.get_skel] at h; cases h) (fun j hj => ?_)
              rw [Nat.zero_add, ← (ag.val j (by omega)).1, ← (ag.val j (by omega)).2.1]
              have : l.getD j 0 = numS (den g.sig (as.getD j .nilptr)) := by
                simp only [l, List.getD_eq_getElem?_getD, List.getElem?_map, List.getElem?_eq_getElem hj, Option.map_some, Option.getD_some]
              exact ⟨this, by show (!(l.getD j 0 == 0)) = _; rw [this]⟩
            have henv := expandG_ok (look := symS (baseOf X F)) htab (fun d r h => symS_den (base_good hT hg.ok.2 hg.ok.1) h) henv0 (fun k d hd hc => eq.at k d hd hc)
            have hout := outs_env hkd henv (cellsOf e.outs) e.cs vs hok.cells hvs
            have hsh := groupS_ok e.outs vs _ gs hout hgs
            have hR : numsOf τ e.cs = dagF X.tab e.m e.G e.cs l := rfl
            rw [hR] at hsh
            have hrel := outSh_of hsh
            show VRel g v (encR e.outs (dagF X.tab e.m e.G e.cs l))
            generalize dagF X.tab e.m e.G e.cs l = R at hrel ⊢
            generalize e.outs = outs at hv hrel ⊢
            unfold packS at hv
            unfold encR
            split at hv
            · rename_i s
              split at hv
              · rename_i a
                cases hv
                cases hE : encS [s] R with
                | nil => rw [hE] at hrel; cases hrel
                | cons u us => rw [hE] at hrel; cases hrel with | cons _ _ _ _ h1 _ => exact h1
              · cases hv
            · rename_i hne
              cases hv
              exact .tuple _ _ (by simpa using hrel)
          · cases hv
        · cases hv
      · cases hv
    · cases hv
  · cases hv

/-- Hooks: the row's call, functions that are true, macros. -/
theorem row_hooksM {P : Program} {X : Ing} {f : FuncId} {cl ecl : List Cl} {FR : Fz → List Int} {W0 : World} {v0 : Value} {Y : Fz} {l : List Int} {tt : List Ent} {tbl : List Mac}
    (hf : RowFn P f cl [.agg ecl] FR) (hY : RowV W0 cl v0 Y) (hT : okLT X.m X.G X.T = true) (hX : X.hook = orHook (rowHook f 0 (.agg (symCs ecl l.length))) (orHook (trueHook tt) (macHook tbl)))
    (hinv : X.inv = rowInv Y X.m (l ++ FR Y)) (hm : X.m = l.length + ecl.length)
    (h1 : ∀ e, e ∈ tt → FnOk P e.f e.ins [.one .b] (fun _ => [1])) (h2 : ∀ e, e ∈ tbl → MacOk P X.tab e) (F : List Fact) (hmh : X.mh = noMh := by rfl) : Hooks P (cxOf X F) := by
  refine hooks_of hmh ?_
  intro f' args v hv hp
  replace hv : X.hook (symS (baseOf X F)) (kdX X) f' args = some v := hv
  rw [hX] at hv
  have hin : InR ecl (FR Y) := by
    have := (hf W0 v0 Y hY).1
    simpa [cellsOf] using this
  refine or_at (fun f args v hp hv => row_at hf hY ?_ F f args v hv hp) (or_at (fun f args v hp hv => true_at h1 F f args v hv hp) (fun f args v hp hv => mac_at hT h2 F f args v hv hp)) f' args v hp hv
  intro σ hσ
  rw [hinv] at hσ
  obtain ⟨g1, g2⟩ := hσ
  refine ⟨g1, outCs_sym ecl (FR Y) l.length hin (fun i hi => ?_), trivial⟩
  have hlen := inR_length hin
  have := g2 (l.length + i) (by omega)
  have e1 : (l ++ FR Y).getD (l.length + i) 0 = (FR Y).getD i 0 := by
    simp [List.getD_eq_getElem?_getD, List.getElem?_append_right]
  rw [e1] at this
  exact this

/-- Hooks: functions that are true, macros. -/
theorem mac_hooks {P : Program} {X : Ing} {tt : List Ent} {tbl : List Mac} (hT : okLT X.m X.G X.T = true) (hX : X.hook = orHook (trueHook tt) (macHook tbl))
    (h1 : ∀ e, e ∈ tt → FnOk P e.f e.ins [.one .b] (fun _ => [1])) (h2 : ∀ e, e ∈ tbl → MacOk P X.tab e) (F : List Fact) (hmh : X.mh = noMh := by rfl) : Hooks P (cxOf X F) := by
  refine hooks_of hmh ?_
  intro f' args v hv hp
  replace hv : X.hook (symS (baseOf X F)) (kdX X) f' args = some v := hv
  rw [hX] at hv
  exact or_at (fun f args v hp hv => true_at h1 F f args v hv hp) (fun f args v hp hv => mac_at hT h2 F f args v hv hp) f' args v hp hv

/-- Pieces of code from a shape. -/
def runOf (P : Program) (X : Ing) (c : List Code) (s : Shape) (n : Nat) (F : List Fact) : Tree (Ex × Tm × Hp) :=
  runL P (cxOf X) true X.fu (evD P (cxOf X) true X.fu 40).1 (evD P (cxOf X) true X.fu 40).2 c F (tmOf s n) ⟨s.heap, []⟩
end Go.Ev
