/- Functions of numbers: contracts, a table of them as calls known ahead. -/
import Derived.Test.YtlhaklmnjdgjgacGreatEwV
set_option linter.unusedVariables false
set_option linter.unnecessarySimpa false
namespace Go.Ev

inductive Cl where
  | i (k : IntKind)
  | b

inductive Sh where
  | one (c : Cl)
  | agg (l : List Cl)

def cellsOf : List Sh → List Cl
  | [] => []
  | .one c :: r => c :: cellsOf r
  | .agg l :: r => l ++ cellsOf r

def encC : Cl → Int → Value
  | .i k, n => .int k (k.wrap n)
  | .b, n => .bool (!(n == 0))

def encCs : List Cl → List Int → List Value
  | [], _ => []
  | c :: r, l => encC c (l.headD 0) :: encCs r l.tail

def encS : List Sh → List Int → List Value
  | [], _ => []
  | .one c :: r, l => encC c (l.headD 0) :: encS r l.tail
  | .agg cs :: r, l => .agg (encCs cs l).toArray :: encS r (l.drop cs.length)

def encR (outs : List Sh) (l : List Int) : Value :=
  match outs with
  | [s] => (encS [s] l).headD (.tuple #[])
  | ss => .tuple (encS ss l).toArray

def inC : Cl → Int → Prop
  | .i k, n => k.wrap n = n
  | .b, n => n = 0 ∨ n = 1

def InR : List Cl → List Int → Prop
  | [], l => l = []
  | c :: r, l => match l with
    | [] => False
    | n :: l => inC c n ∧ InR r l

/-- For all numbers within their kinds the call gives what F makes of them. -/
def FnOk (P : Program) (f : FuncId) (ins outs : List Sh) (F : List Int → List Int) : Prop :=
  ∀ l, InR (cellsOf ins) l → ∀ w, Calls P f (encS ins l).toArray w fun e w' => e = .returned (encR outs (F l)) ∧ RowKit.Below w.heap.size w w'

theorem FnOk.congr {P : Program} {f : FuncId} {ins outs : List Sh} {F F' : List Int → List Int} (h : FnOk P f ins outs F) (he : ∀ l, InR (cellsOf ins) l → F l = F' l) : FnOk P f ins outs F' :=
  fun l hl w => by rw [← he l hl]; exact h l hl w

/-! ### As abstract values -/

def symC : Cl → Nat → AVal
  | .i k, j => .symi k j
  | .b, j => .symb j

def symCs : List Cl → Nat → List AVal
  | [], _ => []
  | c :: r, j => symC c j :: symCs r (j + 1)

def symSh : List Sh → Nat → List AVal
  | [], _ => []
  | .one c :: r, j => symC c j :: symSh r (j + 1)
  | .agg cs :: r, j => .agg (symCs cs j) :: symSh r (j + cs.length)

def kindC : Cl → Option IntKind
  | .i k => some k
  | .b => none

theorem symC_rel {g : Inj} {c : Cl} {j : Nat} {n : Int} (hi : g.sig.ival j = n) (hb : g.sig.bval j = !(n == 0)) (hr : inC c n) : VRel g (symC c j) (encC c n) := by
  cases c with
  | i k =>
    simp only [inC] at hr
    simp only [symC, encC]
    rw [hr, ← hi]
    exact .symi k j
  | b =>
    simp only [symC, encC, ← hb]
    exact .symb j

theorem symCs_rel {g : Inj} : ∀ (cs : List Cl) (l : List Int) (j : Nat) (r : List Cl), InR (cs ++ r) l → (∀ i, i < l.length → g.sig.ival (j + i) = l.getD i 0 ∧ g.sig.bval (j + i) = !(l.getD i 0 == 0)) →
    LRel g (symCs cs j) (encCs cs l) ∧ InR r (l.drop cs.length) ∧ cs.length ≤ l.length
  | [], l, j, r, h, _ => ⟨.nil, by simpa using h, Nat.zero_le _⟩
  | c :: cs, [], j, r, h, _ => h.elim
  | c :: cs, n :: l, j, r, h, hσ => by
    obtain ⟨h1, h2⟩ := h
    have h0 := hσ 0 (by simp)
    obtain ⟨k1, k2, k3⟩ := symCs_rel cs l (j + 1) r h2 (fun i hi => by
      have := hσ (i + 1) (by simpa using hi)
      rw [show j + 1 + i = j + (i + 1) by omega]
      simpa using this)
    refine ⟨?_, by simpa using k2, by simpa using k3⟩
    simp only [symCs, encCs, List.headD_cons, List.tail_cons]
    exact .cons _ _ _ _ (symC_rel (by simpa using h0.1) (by simpa using h0.2) h1) k1

theorem symSh_rel {g : Inj} : ∀ (ss : List Sh) (l : List Int) (j : Nat), InR (cellsOf ss) l → (∀ i, i < l.length → g.sig.ival (j + i) = l.getD i 0 ∧ g.sig.bval (j + i) = !(l.getD i 0 == 0)) → LRel g (symSh ss j) (encS ss l)
  | [], l, j, h, _ => .nil
  | .one c :: r, [], j, h, _ => h.elim
  | .one c :: r, n :: l, j, h, hσ => by
    obtain ⟨h1, h2⟩ := h
    have h0 := hσ 0 (by simp)
    simp only [symSh, encS, List.headD_cons, List.tail_cons]
    refine .cons _ _ _ _ (symC_rel (by simpa using h0.1) (by simpa using h0.2) h1) (symSh_rel r l (j + 1) h2 (fun i hi => ?_))
    have := hσ (i + 1) (by simpa using hi)
    rw [show j + 1 + i = j + (i + 1) by omega]
    simpa using this
  | .agg cs :: r, l, j, h, hσ => by
    obtain ⟨k1, k2, k3⟩ := symCs_rel cs l j (cellsOf r) h hσ
    simp only [symSh, encS]
    refine .cons _ _ _ _ (.agg _ _ (by simpa using k1)) (symSh_rel r (l.drop cs.length) (j + cs.length) k2 (fun i hi => ?_))
    simp only [List.length_drop] at hi
    have := hσ (cs.length + i) (by omega)
    rw [show j + cs.length + i = j + (cs.length + i) by omega]
    simpa [List.getD_eq_getElem?_getD, List.getElem?_drop] using this

/-! ### Results -/

/-- what stands for a cell of a result -/
def denC : Cl → Int → AVal
  | .i k, n => .int k (k.wrap n)
  | .b, n => .bool (!(n == 0))

def OutCs (σ : Sig) : List Cl → List AVal → List Int → Prop
  | [], [], _ => True
  | c :: cs, a :: as, l => den σ a = denC c (l.headD 0) ∧ OutCs σ cs as l.tail
  | _, _, _ => False

def OutSh (σ : Sig) : List Sh → List AVal → List Int → Prop
  | [], [], _ => True
  | .one c :: r, a :: as, l => den σ a = denC c (l.headD 0) ∧ OutSh σ r as l.tail
  | .agg cs :: r, a :: as, l => match a with
    | .agg es => OutCs σ cs es l ∧ OutSh σ r as (l.drop cs.length)
    | _ => False
  | _, _, _ => False

def OutOk (σ : Sig) (outs : List Sh) (v : AVal) (l : List Int) : Prop :=
  match outs with
  | [s] => OutSh σ [s] [v] l
  | ss => match v with
    | .tuple vs => OutSh σ ss vs l
    | _ => False

theorem denC_rel {g : Inj} {c : Cl} {a : AVal} {n : Int} {u : Value} (h : den g.sig a = denC c n) (hu : VRel g a u) : u = encC c n := by
  have := den_rel.2 hu
  rw [h] at this
  cases c with
  | i k => simp only [denC] at this; cases this; rfl
  | b => simp only [denC] at this; cases this; rfl

theorem denC_of {g : Inj} {c : Cl} {a : AVal} {n : Int} (h : den g.sig a = denC c n) : VRel g a (encC c n) := by
  refine den_rel.1 ?_
  rw [h]
  cases c with
  | i k => exact .int k _
  | b => exact .bool _

theorem outCs_rel {g : Inj} : ∀ {cs : List Cl} {as : List AVal} {l : List Int} {us : List Value}, OutCs g.sig cs as l → LRel g as us → us = encCs cs l
  | [], [], _, _, _, h => by cases h; rfl
  | c :: cs, a :: as, l, us, ho, h => by
    cases h with
    | cons _ u _ m h1 h2 =>
      simp only [encCs]
      rw [denC_rel ho.1 h1, outCs_rel ho.2 h2]
  | [], _ :: _, _, _, ho, _ => ho.elim
  | _ :: _, [], _, _, ho, _ => ho.elim

theorem outCs_of {g : Inj} : ∀ {cs : List Cl} {as : List AVal} {l : List Int}, OutCs g.sig cs as l → LRel g as (encCs cs l)
  | [], [], _, _ => .nil
  | c :: cs, a :: as, l, ho => .cons _ _ _ _ (denC_of ho.1) (outCs_of ho.2)
  | [], _ :: _, _, ho => ho.elim
  | _ :: _, [], _, ho => ho.elim

theorem outSh_rel {g : Inj} : ∀ {ss : List Sh} {as : List AVal} {l : List Int} {us : List Value}, OutSh g.sig ss as l → LRel g as us → us = encS ss l
  | [], [], _, _, _, h => by cases h; rfl
  | .one c :: r, a :: as, l, us, ho, h => by
    cases h with
    | cons _ u _ m h1 h2 =>
      simp only [encS]
      rw [denC_rel ho.1 h1, outSh_rel ho.2 h2]
  | .agg cs :: r, a :: as, l, us, ho, h => by
    simp only [OutSh] at ho
    split at ho
    · rename_i es
      cases h with
      | cons _ u _ m h1 h2 =>
        cases h1 with
        | agg _ l' h1 =>
          obtain ⟨l'⟩ := l'
          simp only [encS]
          rw [outSh_rel ho.2 h2]
          have : l' = encCs cs l := outCs_rel ho.1 h1
          rw [this]
    · exact ho.elim
  | [], _ :: _, _, _, ho, _ => ho.elim
  | .one _ :: _, [], _, _, ho, _ => ho.elim
  | .agg _ :: _, [], _, _, ho, _ => ho.elim

theorem outSh_of {g : Inj} : ∀ {ss : List Sh} {as : List AVal} {l : List Int}, OutSh g.sig ss as l → LRel g as (encS ss l)
  | [], [], _, _ => .nil
  | .one c :: r, a :: as, l, ho => .cons _ _ _ _ (denC_of ho.1) (outSh_of ho.2)
  | .agg cs :: r, a :: as, l, ho => by
    simp only [OutSh] at ho
    split at ho
    · exact .cons _ _ _ _ (.agg _ _ (by simpa using outCs_of ho.1)) (outSh_of ho.2)
    · exact ho.elim
  | [], _ :: _, _, ho => ho.elim
  | .one _ :: _, [], _, ho => ho.elim
  | .agg _ :: _, [], _, ho => ho.elim

theorem outOk_rel {g : Inj} {outs : List Sh} {v : AVal} {l : List Int} {u : Value} (h : OutOk g.sig outs v l) (hu : VRel g v u) : u = encR outs l := by
  unfold OutOk at h
  unfold encR
  split at h
  · rename_i s
    have := outSh_rel h (.cons _ u _ _ hu .nil)
    rw [← this]; rfl
  · rename_i hne
    split at h
    · rename_i vs
      cases hu with
      | tuple _ l' h1 =>
        obtain ⟨l'⟩ := l'
        have : l' = encS outs l := outSh_rel h h1
        rw [this]
    · exact h.elim

theorem outOk_of {g : Inj} {outs : List Sh} {v : AVal} {l : List Int} (h : OutOk g.sig outs v l) : VRel g v (encR outs l) := by
  unfold OutOk at h
  unfold encR
  split at h
  · rename_i s
    have := outSh_of h
    cases hs : encS [s] l with
    | nil => rw [hs] at this; cases this
    | cons u us => rw [hs] at this; cases this with | cons _ _ _ _ h1 _ => exact h1
  · rename_i hne
    split at h
    · rename_i vs
      exact .tuple _ _ (by simpa using outSh_of h)
    · exact h.elim

/-! ### A contract out of a run -/

def sigL (tab : TabF) (l : List Int) : Sig := ⟨fun i => l.getD i 0, fun i => !(l.getD i 0 == 0), fun _ => .empty, tab, fun _ => none⟩

theorem inR_length : ∀ {cs : List Cl} {l : List Int}, InR cs l → l.length = cs.length
  | [], l, h => by simp only [InR] at h; subst h; rfl
  | _ :: _, [], h => h.elim
  | _ :: cs, _ :: l, h => by simpa using inR_length h.2

theorem inR_get : ∀ {cs : List Cl} {l : List Int}, InR cs l → ∀ (i : Nat) (k : IntKind), cs[i]? = some (.i k) → k.wrap (l.getD i 0) = l.getD i 0
  | c :: cs, n :: l, h, 0, k, hi => by simp at hi; subst hi; simpa [inC] using h.1
  | c :: cs, n :: l, h, i + 1, k, hi => by simpa using inR_get h.2 i k (by simpa using hi)
  | [], _, _, _, _, hi => by simp at hi
  | _ :: _, [], h, _, _, _ => h.elim

theorem fn_of_run {P : Program} {X : Ing} {mb : Bool} {fuel d : Nat} {f : FuncId} {ins outs : List Sh} {F : List Int → List Int} {W : Wr'} (hm : P.follows .mixedOrders = true)
    (hX : X.n = 0 ∧ X.rows = [] ∧ X.cuts = [] ∧ X.m = (cellsOf ins).length ∧ X.ins = (cellsOf ins).map kindC) (hG : okG X.G X.m = true) (hT : okLT X.m X.G X.T = true) (hh : ∀ F, Hooks P (cxOf X F))
    (h : okW (fun F => (evD P (cxOf X) mb fuel d).1 F f (symSh ins 0) ⟨[], []⟩) W [] = true)
    (hv : ∀ (l : List Int) (σ : Sig), InR (cellsOf ins) l → Eqs σ X.m X.G → σ.tab = X.tab → (∀ i, i < X.m → σ.ival i = l.getD i 0) → (∀ i, i < X.m → σ.bval i = !(l.getD i 0 == 0)) → valsW σ (fun v => OutOk σ outs v (F l)) W []) (hinv : ∀ σ, X.inv σ := by exact fun _ => True.intro) (hkt : okKt X = true := by exact rfl) :
    FnOk P f ins outs F := by
  intro l hl w
  obtain ⟨x1, x2, x3, x4, x5⟩ := hX
  have hlen := inR_length hl
  have ag := agree_solve X.G X.m (sigL X.tab l)
  have hi : ∀ i, i < X.m → (solve X.G X.m (sigL X.tab l)).ival i = l.getD i 0 := fun i hi => (ag.val i hi).1.symm
  have hb : ∀ i, i < X.m → (solve X.G X.m (sigL X.tab l)).bval i = !(l.getD i 0 == 0) := fun i hi => (ag.val i hi).2.1.symm
  have hbase : BaseOk X (solve X.G X.m (sigL X.tab l)) := by
    refine ⟨eqs_solve hG, ag.tab.symm, fun i k him hk => ?_, by rw [x2]; exact rows_nil, by rw [x3]; exact cuts_nil, hinv _, hkt⟩
    rw [hi i him]
    refine inR_get hl i k ?_
    rw [x5, List.getElem?_map] at hk
    cases hc : (cellsOf ins)[i]? with
    | none => rw [hc] at hk; simp at hk
    | some c =>
      rw [hc] at hk
      cases c with
      | i k' => simp [kindC] at hk; rw [hk]
      | b => simp [kindC] at hk
  refine (sym_val (Q := fun v => OutOk (solve X.G X.m (sigL X.tab l)) outs v (F l)) hm hT hh x1 (fun i => congrFun ag.ext.symm i) hbase h (hv l _ hl (eqs_solve hG) ag.tab.symm hi hb) (args' := (encS ins l).toArray) ?_ w).mono ?_
  · refine symSh_rel ins l 0 hl (fun i hil => ?_)
    have him : i < X.m := by rw [x4, ← hlen]; exact hil
    rw [Nat.zero_add]
    exact ⟨hi i him, hb i him⟩
  · rintro e w' ⟨v, u, rfl, ho, hu, hB⟩
    exact ⟨by rw [outOk_rel ho hu], hB⟩

/-! ### A table of contracts -/

structure Ent where
  f : FuncId
  ins : List Sh
  outs : List Sh
  id : Nat

def flatS : List Sh → List AVal → Option (List AVal)
  | [], [] => some []
  | .one _ :: r, a :: as => match flatS r as with
    | some l => some (a :: l)
    | none => none
  | .agg cs :: r, a :: as => match a with
    | .agg es => match Nat.beq es.length cs.length with
      | true => match flatS r as with
        | some l => some (es ++ l)
        | none => none
      | false => none
    | _ => none
  | _, _ => none

def okCell (kd : Nat → Option IntKind) : Cl → AVal → Bool
  | .i k, a => inK kd k a
  | .b, a => match a with
    | .bool _ => true
    | .symb _ => true
    | _ => false

def okCells (kd : Nat → Option IntKind) : List Cl → List AVal → Bool
  | [], [] => true
  | c :: cs, a :: as => okCell kd c a && okCells kd cs as
  | _, _ => false

def isLit : AVal → Bool
  | .int _ _ => true
  | .bool _ => true
  | _ => false

def outC (look : SDef → Option AVal) (tab : TabF) (lit : Bool) (cs : List AVal) (j : Nat) : Cl → Option AVal
  | .i k => match lit with
    | true => some (.int k (k.wrap (tab j (cs.map numS))))
    | false => look (.fn j k cs)
  | .b => match lit with
    | true => some (.bool (!(tab j (cs.map numS) == 0)))
    | false => look (.fnb j cs)

def outCs' (look : SDef → Option AVal) (tab : TabF) (lit : Bool) (cs : List AVal) : Nat → List Cl → Option (List AVal)
  | _, [] => some []
  | j, c :: r => match outC look tab lit cs j c, outCs' look tab lit cs (j + 1) r with
    | some a, some l => some (a :: l)
    | _, _ => none

def outSs' (look : SDef → Option AVal) (tab : TabF) (lit : Bool) (cs : List AVal) : Nat → List Sh → Option (List AVal)
  | _, [] => some []
  | j, .one c :: r => match outC look tab lit cs j c, outSs' look tab lit cs (j + 1) r with
    | some a, some l => some (a :: l)
    | _, _ => none
  | j, .agg c :: r => match outCs' look tab lit cs j c, outSs' look tab lit cs (j + c.length) r with
    | some a, some l => some (.agg a :: l)
    | _, _ => none

def packS (outs : List Sh) (l : List AVal) : Option AVal :=
  match outs with
  | [_] => match l with
    | [a] => some a
    | _ => none
  | _ => some (.tuple l)

def findEnt (f : FuncId) : List Ent → Option Ent
  | [] => none
  | e :: r => match Nat.beq e.f f with
    | true => some e
    | false => findEnt f r

def tblHook (tab : TabF) (tbl : List Ent) : HookF := fun look kd f args =>
  match findEnt f tbl with
  | some e => match flatS e.ins args with
    | some cs => match okCells kd (cellsOf e.ins) cs with
      | true => match outSs' look tab (cs.all isLit) cs (64 * e.id) e.outs with
        | some l => packS e.outs l
        | none => none
      | false => none
    | none => none
  | none => none

/-- The functions of a table, by their numbers; 64 results each. -/
def tabOf (Fs : Nat → List Int → List Int) : TabF := fun id l => (Fs (id / 64) l).getD (id % 64) 0

/-- What is known of a call, of all arguments of a form, is known of it at each heap. -/
theorem callP_below {P : Program} {ng : Cx} {f : FuncId} {args : List AVal} {v : AVal}
    (h : ∀ (g : Inj) (w : World) (args' : Array Value), ng.Good g.sig → LRel g args args'.toList → Calls P f args' w fun e w' => ∃ u, e = .returned u ∧ VRel g v u ∧ RowKit.Below w.heap.size w w') (hp : Hp) : CallP P ng f args hp (.val v) hp := by
  refine ⟨Touch.refl _, fun g w args' hH ha => (h g w args' hH.sig ha).mono ?_⟩
  rintro e w' ⟨u, rfl, hu, hb⟩
  obtain ⟨h1, h2⟩ := hH.below hb
  exact ⟨g, ⟨u, rfl, hu⟩, h1, h2⟩

theorem look_sound {X : Ing} {F : List Fact} {g : Inj} {d : SDef} {r : AVal} (hT : okLT X.m X.G X.T = true) (hg : (cxOf X F).Good g.sig) (h : symS (baseOf X F) d = some r) : ∃ q, evalS g.sig d = some q ∧ ∀ v, VRel g q v → VRel g r v :=
  symS_sound (base_good hT hg.ok.2 hg.ok.1) h

section
variable {X : Ing} {F : List Fact} {g : Inj} {tab : TabF} {lit : Bool} {cs : List AVal}

theorem lit_den {σ : Sig} : ∀ {l : List AVal}, l.all isLit = true → (l.map fun a => numS (den σ a)) = l.map numS
  | [], _ => rfl
  | a :: l, h => by
    simp only [List.all_cons, Bool.and_eq_true] at h
    simp only [List.map_cons, lit_den h.2]
    cases a <;> simp only [isLit, Bool.false_eq_true, false_and] at h <;> rfl

theorem outC_sound (hT : okLT X.m X.G X.T = true) (hg : (cxOf X F).Good g.sig) (ht : X.tab = tab) (hl : lit = true → cs.all isLit = true) {j : Nat} {c : Cl} {a : AVal} (h : outC (symS (baseOf X F)) tab lit cs j c = some a) :
    ∀ v, VRel g (denC c (tab j (cs.map fun a => numS (den g.sig a)))) v → VRel g a v := by
  unfold outC at h
  split at h
  · rename_i k
    split at h
    · cases h
      rw [lit_den (hl rfl)]
      exact fun v hv => hv
    · obtain ⟨q, h1, h2⟩ := look_sound hT hg h
      simp only [evalS, Option.some.injEq] at h1
      subst h1
      intro v hv
      refine h2 v ?_
      rw [show g.sig.tab = tab from by rw [← ht]; exact hg.tab]
      exact hv
  · split at h
    · cases h
      rw [lit_den (hl rfl)]
      exact fun v hv => hv
    · obtain ⟨q, h1, h2⟩ := look_sound hT hg h
      simp only [evalS, Option.some.injEq] at h1
      subst h1
      intro v hv
      refine h2 v ?_
      rw [show g.sig.tab = tab from by rw [← ht]; exact hg.tab]
      exact hv

theorem denC_enc {c : Cl} {n : Int} : VRel g (denC c n) (encC c n) := by
  cases c with
  | i k => exact .int k _
  | b => exact .bool _

/-- the numbers that a table gives, from the j-th on -/
def numsFrom (tab : TabF) (l : List Int) (j : Nat) : Nat → List Int
  | 0 => []
  | n + 1 => tab j l :: numsFrom tab l (j + 1) n

theorem outCs_sound (hT : okLT X.m X.G X.T = true) (hg : (cxOf X F).Good g.sig) (ht : X.tab = tab) (hl : lit = true → cs.all isLit = true) : ∀ {cl : List Cl} {j : Nat} {as : List AVal}, outCs' (symS (baseOf X F)) tab lit cs j cl = some as →
    LRel g as (encCs cl (numsFrom tab (cs.map fun a => numS (den g.sig a)) j cl.length))
  | [], j, as, h => by simp only [outCs'] at h; cases h; exact .nil
  | c :: cl, j, as, h => by
    simp only [outCs'] at h
    split at h
    · rename_i a l h1 h2
      cases h
      simp only [List.length_cons, numsFrom, encCs, List.headD_cons, List.tail_cons]
      exact .cons _ _ _ _ (outC_sound hT hg ht hl h1 _ denC_enc) (outCs_sound hT hg ht hl h2)
    · cases h

theorem numsFrom_drop (l : List Int) : ∀ (k j n : Nat), k ≤ n → (numsFrom tab l j n).drop k = numsFrom tab l (j + k) (n - k)
  | 0, j, n, _ => by simp
  | k + 1, j, 0, h => by omega
  | k + 1, j, n + 1, h => by
    simp only [numsFrom, List.drop_succ_cons]
    rw [numsFrom_drop l k (j + 1) n (by omega)]
    congr 1
    · omega
    · omega

theorem encCs_congr : ∀ {cl : List Cl} {l m : List Int}, (∀ i, i < cl.length → l.getD i 0 = m.getD i 0) → encCs cl l = encCs cl m
  | [], _, _, _ => rfl
  | c :: cl, l, m, h => by
    have h0 := h 0 (by simp)
    simp only [encCs]
    have e0 : l.headD 0 = m.headD 0 := by cases l <;> cases m <;> simpa using h0
    rw [e0, encCs_congr (l := l.tail) (m := m.tail) (fun i hi => by
      have := h (i + 1) (by simpa using hi)
      cases l <;> cases m <;> simpa using this)]

theorem numsFrom_getD (l : List Int) : ∀ (n j i : Nat), i < n → (numsFrom tab l j n).getD i 0 = tab (j + i) l
  | n + 1, j, 0, _ => by simp [numsFrom]
  | n + 1, j, i + 1, h => by
    simp only [numsFrom, List.getD_cons_succ]
    rw [numsFrom_getD l n (j + 1) i (by omega)]
    congr 1
    omega

theorem outSs_sound (hT : okLT X.m X.G X.T = true) (hg : (cxOf X F).Good g.sig) (ht : X.tab = tab) (hl : lit = true → cs.all isLit = true) : ∀ {ss : List Sh} {j : Nat} {as : List AVal}, outSs' (symS (baseOf X F)) tab lit cs j ss = some as →
    LRel g as (encS ss (numsFrom tab (cs.map fun a => numS (den g.sig a)) j (cellsOf ss).length))
  | [], j, as, h => by simp only [outSs'] at h; cases h; exact .nil
  | .one c :: r, j, as, h => by
    simp only [outSs'] at h
    split at h
    · rename_i a l h1 h2
      cases h
      simp only [cellsOf, List.length_cons, numsFrom, encS, List.headD_cons, List.tail_cons]
      exact .cons _ _ _ _ (outC_sound hT hg ht hl h1 _ denC_enc) (outSs_sound hT hg ht hl h2)
    · cases h
  | .agg c :: r, j, as, h => by
    simp only [outSs'] at h
    split at h
    · rename_i a l h1 h2
      cases h
      simp only [cellsOf, List.length_append, encS]
      refine .cons _ _ _ _ (.agg _ _ ?_) ?_
      · have := outCs_sound hT hg ht hl h1
        rw [encCs_congr (m := numsFrom tab (cs.map fun a => numS (den g.sig a)) j (c.length + (cellsOf r).length)) (fun i hi => by rw [numsFrom_getD _ _ _ _ hi, numsFrom_getD _ _ _ _ (by omega)])] at this
        simpa using this
      · have := outSs_sound hT hg ht hl h2
        rw [numsFrom_drop _ _ _ _ (by omega)]
        rw [show c.length + (cellsOf r).length - c.length = (cellsOf r).length by omega]
        exact this
    · cases h

theorem cell_num {kd : Nat → Option IntKind} (hk : ∀ i k, kd i = some k → k.wrap (g.sig.ival i) = g.sig.ival i) {c : Cl} {a : AVal} (h : okCell kd c a = true) {u : Value} (hu : VRel g a u) :
    u = encC c (numS (den g.sig a)) ∧ inC c (numS (den g.sig a)) := by
  cases c with
  | i k =>
    obtain ⟨n, h1, h2⟩ := inK_spec hk (show inK kd k a = true from h)
    have hd := den_rel.2 hu
    rw [h1] at hd
    cases hd
    simp only [h1, numS, encC, h2, inC]
    exact ⟨trivial, trivial⟩
  | b =>
    have : ∃ x, den g.sig a = .bool x := by
      unfold okCell at h
      cases a <;> simp only [Bool.false_eq_true] at h <;> exact ⟨_, rfl⟩
    obtain ⟨x, hx⟩ := this
    have hd := den_rel.2 hu
    rw [hx] at hd
    cases hd
    simp only [hx, numS, encC, inC]
    cases x <;> simp

theorem cells_num {kd : Nat → Option IntKind} (hk : ∀ i k, kd i = some k → k.wrap (g.sig.ival i) = g.sig.ival i) : ∀ (cl r : List Cl) (as rest : List AVal) (us : List Value), okCells kd (cl ++ r) (as ++ rest) = true → as.length = cl.length → LRel g as us →
    us = encCs cl ((as ++ rest).map fun a => numS (den g.sig a)) ∧ okCells kd r rest = true
  | [], r, [], rest, us, h, _, ha => by cases ha; exact ⟨rfl, h⟩
  | c :: cl, r, a :: as, rest, us, h, hl, ha => by
    cases ha with
    | cons _ u _ m h1 h2 =>
      simp only [List.cons_append, okCells, Bool.and_eq_true] at h
      obtain ⟨e1, e2⟩ := cells_num hk cl r as rest m h.2 (by simpa using hl) h2
      refine ⟨?_, e2⟩
      simp only [List.cons_append, List.map_cons, encCs, List.headD_cons, List.tail_cons]
      rw [← (cell_num hk h.1 h1).1, ← e1]
  | [], _, _ :: _, _, _, _, hl, _ => by simp at hl
  | _ :: _, _, [], _, _, _, hl, _ => by simp at hl

theorem flat_num {kd : Nat → Option IntKind} (hk : ∀ i k, kd i = some k → k.wrap (g.sig.ival i) = g.sig.ival i) : ∀ (ss : List Sh) (args cs : List AVal) (us : List Value), flatS ss args = some cs → okCells kd (cellsOf ss) cs = true → LRel g args us → us = encS ss (cs.map fun a => numS (den g.sig a))
  | [], [], cs, us, h, _, ha => by cases ha; rfl
  | .one c :: r, a :: as, cs, us, h, ho, ha => by
    cases ha with
    | cons _ u _ m h1 h2 =>
      simp only [flatS] at h
      split at h
      · rename_i l hl
        cases h
        simp only [cellsOf, okCells, Bool.and_eq_true] at ho
        simp only [List.map_cons, encS, List.headD_cons, List.tail_cons]
        rw [← (cell_num hk ho.1 h1).1, ← flat_num hk r as l m hl ho.2 h2]
      · cases h
  | .agg cl :: r, a :: as, cs, us, h, ho, ha => by
    cases ha with
    | cons _ u _ m h1 h2 =>
      simp only [flatS] at h
      split at h
      · rename_i es
        split at h
        · rename_i hlen
          have hlen := Nat.eq_of_beq_eq_true hlen
          split at h
          · rename_i l hl
            cases h
            cases h1 with
            | agg _ l' h1 =>
            obtain ⟨l'⟩ := l'
            simp only [cellsOf] at ho
            obtain ⟨e1, e2⟩ := cells_num hk cl (cellsOf r) es l l' ho hlen h1
            simp only [encS]
            rw [← e1, flat_num hk r as l m hl e2 h2]
            congr 1
            rw [List.map_append, List.drop_append_of_le_length (by simp [hlen]), List.drop_eq_nil_of_le (by simp [hlen])]
            simp
          · cases h
        · cases h
      · cases h
  | [], _ :: _, _, _, h, _, _ => by simp [flatS] at h
  | .one _ :: _, [], _, _, h, _, _ => by simp [flatS] at h
  | .agg _ :: _, [], _, _, h, _, _ => by simp [flatS] at h

theorem okCells_inR {kd : Nat → Option IntKind} (hk : ∀ i k, kd i = some k → k.wrap (g.sig.ival i) = g.sig.ival i) : ∀ (cl : List Cl) (cs : List AVal), okCells kd cl cs = true → (∀ a, a ∈ cs → ∃ u, VRel g a u) → InR cl (cs.map fun a => numS (den g.sig a))
  | [], [], _, _ => rfl
  | c :: cl, a :: as, h, hu => by
    simp only [okCells, Bool.and_eq_true] at h
    obtain ⟨u, h1⟩ := hu a (by simp)
    exact ⟨(cell_num hk h.1 h1).2, okCells_inR hk cl as h.2 (fun b hb => hu b (by simp [hb]))⟩
  | [], _ :: _, h, _ => by simp [okCells] at h
  | _ :: _, [], h, _ => by simp [okCells] at h

theorem okCells_rel {kd : Nat → Option IntKind} : ∀ (cl : List Cl) (cs : List AVal), okCells kd cl cs = true → ∀ a, a ∈ cs → ∃ u, VRel g a u
  | c :: cl, b :: as, h, a, ha => by
    simp only [okCells, Bool.and_eq_true] at h
    rcases List.mem_cons.1 ha with rfl | ha
    · have h1 := h.1
      cases c with
      | i k =>
        cases a <;> simp only [okCell, inK, Bool.false_eq_true] at h1
        · exact ⟨_, .int _ _⟩
        · exact ⟨_, .symi _ _⟩
      | b =>
        cases a <;> simp only [okCell, Bool.false_eq_true] at h1
        · exact ⟨_, .bool _⟩
        · exact ⟨_, .symb _⟩
    · exact okCells_rel cl as h.2 a ha
  | [], _ :: _, h, _, _ => by simp [okCells] at h
  | _, [], _, _, ha => by cases ha

end

theorem findEnt_mem {f : FuncId} : ∀ {tbl : List Ent} {e : Ent}, findEnt f tbl = some e → e ∈ tbl ∧ e.f = f
  | [], _, h => by simp [findEnt] at h
  | x :: r, e, h => by
    simp only [findEnt] at h
    split at h
    · rename_i hb; cases h; exact ⟨by simp, Nat.eq_of_beq_eq_true hb⟩
    · obtain ⟨h1, h2⟩ := findEnt_mem h; exact ⟨by simp [h1], h2⟩

theorem encS_congr : ∀ {ss : List Sh} {l m : List Int}, (∀ i, i < (cellsOf ss).length → l.getD i 0 = m.getD i 0) → encS ss l = encS ss m
  | [], _, _, _ => rfl
  | .one c :: r, l, m, h => by
    have h0 := h 0 (by simp [cellsOf])
    simp only [encS]
    have e0 : l.headD 0 = m.headD 0 := by cases l <;> cases m <;> simpa using h0
    rw [e0, encS_congr (l := l.tail) (m := m.tail) (fun i hi => by
      have := h (i + 1) (by simpa [cellsOf] using hi)
      cases l <;> cases m <;> simpa using this)]
  | .agg cs :: r, l, m, h => by
    simp only [encS]
    rw [encCs_congr (l := l) (m := m) (fun i hi => h i (by simp [cellsOf]; omega)), encS_congr (l := l.drop cs.length) (m := m.drop cs.length) (fun i hi => by
      have := h (cs.length + i) (by simp [cellsOf]; omega)
      simpa [List.getD_eq_getElem?_getD, List.getElem?_drop] using this)]

/-- A table of contracts is known ahead. -/
theorem tbl_hooks {P : Program} {X : Ing} {Fs : Nat → List Int → List Int} {tbl : List Ent} (hT : okLT X.m X.G X.T = true) (hX : X.hook = tblHook (tabOf Fs) tbl) (ht : X.tab = tabOf Fs)
    (h : ∀ e, e ∈ tbl → (cellsOf e.outs).length ≤ 64 ∧ FnOk P e.f e.ins e.outs (Fs e.id)) (F : List Fact) (hmh : X.mh = noMh := by rfl) (hin : X.insf = none := by rfl) (hat : X.atoms = [] := by rfl) : Hooks P (cxOf X F) := by
  refine hooks_of hmh hin hat ?_
  intro f args v hv hp
  replace hv : X.hook (symS (baseOf X F)) (kdX X) f args = some v := hv
  rw [hX] at hv
  unfold tblHook at hv
  split at hv
  · rename_i e he
    obtain ⟨hmem, hf⟩ := findEnt_mem he
    subst hf
    obtain ⟨h64, hok⟩ := h e hmem
    split at hv
    · rename_i cs hcs
      split at hv
      · rename_i hcell
        split at hv
        · rename_i l hl
          refine callP_below (fun g w args' hg ha => ?_) hp
          have hk : ∀ i k, kdX X i = some k → k.wrap (g.sig.ival i) = g.sig.ival i := fun i k h => hg.kd i k h
          have ea := flat_num hk e.ins args cs args'.toList hcs hcell ha
          have hin := okCells_inR hk (cellsOf e.ins) cs hcell (okCells_rel _ _ hcell)
          have hargs : args' = (encS e.ins (cs.map fun a => numS (den g.sig a))).toArray := by rw [← ea]
          rw [hargs]
          refine (hok _ hin w).mono ?_
          rintro en w' ⟨rfl, hB⟩
          have hout := outSs_sound (lit := cs.all isLit) hT hg ht (fun h => h) hl
          have hnum : encS e.outs (numsFrom (tabOf Fs) (cs.map fun a => numS (den g.sig a)) (64 * e.id) (cellsOf e.outs).length) = encS e.outs (Fs e.id (cs.map fun a => numS (den g.sig a))) := by
            refine encS_congr fun i hi => ?_
            rw [numsFrom_getD _ _ _ _ hi]
            unfold tabOf
            rw [show (64 * e.id + i) / 64 = e.id by omega, show (64 * e.id + i) % 64 = i by omega]
          rw [hnum] at hout
          refine ⟨_, rfl, ?_, hB⟩
          generalize Fs e.id (cs.map fun a => numS (den g.sig a)) = R at hout ⊢
          generalize e.outs = outs at hv hout ⊢
          unfold packS at hv
          unfold encR
          split at hv
          · rename_i s
            split at hv
            · rename_i a
              cases hv
              cases hE : encS [s] R with
              | nil => rw [hE] at hout; cases hout
              | cons u us => rw [hE] at hout; cases hout with | cons _ _ _ _ h1 _ => exact h1
            · cases hv
          · rename_i hne
            cases hv
            exact .tuple _ _ (by simpa using hout)
        · cases hv
      · cases hv
    · cases hv
  · cases hv

end Go.Ev
