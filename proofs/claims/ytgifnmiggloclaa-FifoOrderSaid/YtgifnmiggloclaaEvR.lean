/- Arguments that are unknown numbers. -/
import Derived.Test.YtgifnmiggloclaaEvQ
namespace Go.Ev

/-- The unknowns of a list of numbers, and of truths. -/
def sigL (tab : TabF) (l : List Int) (b : List Bool) : Sig := ⟨fun i => l.getD i 0, fun i => b.getD i false, fun _ => .empty, tab, fun _ => none⟩

theorem rel_symi {g : Inj} {k : IntKind} {i : Nat} {n : Int} (h : g.sig.ival i = n) : VRel g (.symi k i) (.int k n) := h ▸ .symi k i
theorem rel_symb {g : Inj} {i : Nat} {n : Bool} (h : g.sig.bval i = n) : VRel g (.symb i) (.bool n) := h ▸ .symb i

theorem solve_ival (tab : TabF) (G : List SDef) (m : Nat) (l : List Int) (b : List Bool) (i : Nat) (hi : i < m) : (solve G m (sigL tab l b)).ival i = l.getD i 0 :=
  ((agree_solve G m (sigL tab l b)).val i hi).1.symm

theorem solve_bval (tab : TabF) (G : List SDef) (m : Nat) (l : List Int) (b : List Bool) (i : Nat) (hi : i < m) : (solve G m (sigL tab l b)).bval i = b.getD i false :=
  ((agree_solve G m (sigL tab l b)).val i hi).2.1.symm

theorem solve_ext (tab : TabF) (G : List SDef) (m : Nat) (l : List Int) (b : List Bool) (i : Nat) : (solve G m (sigL tab l b)).ext i = none := by
  rw [← (agree_solve G m (sigL tab l b)).ext]
  rfl

theorem solve_tab (tab : TabF) (G : List SDef) (m : Nat) (l : List Int) (b : List Bool) : (solve G m (sigL tab l b)).tab = tab :=
  (agree_solve G m (sigL tab l b)).tab.symm

theorem Eqs.at {σ : Sig} {m : Nat} {G : List SDef} (e : Eqs σ m G) (k : Nat) (d : SDef) (h : G[k]? = some d) (hc : condD d = none) : evalS σ d = some (den σ (resS d (m + k))) :=
  e k d h (fun j hj => by rw [hc] at hj; cases hj)

theorem rel_num {g : Inj} {a : AVal} {u : Value} {k : IntKind} {n : Int} (h : VRel g a u) (hd : den g.sig a = .int k n) : u = .int k n := by
  have := den_rel.2 h
  rw [hd] at this
  cases this
  rfl

theorem num_rel {g : Inj} {a : AVal} {k : IntKind} {n : Int} (hd : den g.sig a = .int k n) : VRel g a (.int k n) := by
  rw [← den_rel, hd]
  exact .int k n

theorem look_sound {n m : Nat} {tab : TabF} {hook : HookF} {G : List SDef} {F : List Fact} {rows : List RowS} {g : Inj} {d : SDef} {r : AVal} (hg : (cxOf n m tab hook G F rows).Good g.sig) (h : symS (baseOf n m tab G F) d = some r) :
    ∃ q, evalS g.sig d = some q ∧ ∀ v, VRel g q v → VRel g r v := symS_sound (ng := baseOf n m tab G F) ⟨hg.look, hg.fact, hg.num, hg.tab, fun _ _ _ h => by simp [baseOf] at h, fun _ _ _ _ h => by simp [baseOf] at h⟩ h

theorem look_true {n m : Nat} {tab : TabF} {hook : HookF} {G : List SDef} {F : List Fact} {rows : List RowS} {g : Inj} {d : SDef} {b : Bool} (hg : (cxOf n m tab hook G F rows).Good g.sig) (h : symS (baseOf n m tab G F) d = some (.bool true)) (hd : evalS g.sig d = some (.bool b)) : b = true := by
  obtain ⟨q, h1, h2⟩ := look_sound hg h
  rw [hd] at h1
  cases h1
  have := h2 _ (.bool b)
  cases this
  rfl

theorem look_fn {n m : Nat} {tab : TabF} {hook : HookF} {G : List SDef} {F : List Fact} {rows : List RowS} {g : Inj} {id : Nat} {k : IntKind} {l : List AVal} {r : AVal} (hg : (cxOf n m tab hook G F rows).Good g.sig) (h : symS (baseOf n m tab G F) (.fn id k l) = some r) :
    VRel g r (.int k (tab id (l.map fun a => numS (den g.sig a)))) := by
  obtain ⟨q, h1, h2⟩ := look_sound hg h
  simp only [evalS] at h1
  cases h1
  refine h2 _ ?_
  have : g.sig.tab = tab := hg.tab
  rw [this]
  exact .int _ _

/-- a number of a kind, known or not -/
def isK (k : IntKind) (a : AVal) : Bool :=
  match skOf a with
  | some (.i k') => decide (k = k')
  | _ => false

theorem isK_rel {g : Inj} {k : IntKind} {a : AVal} {u : Value} (h : isK k a = true) (hu : VRel g a u) : den g.sig a = .int k (numS (den g.sig a)) ∧ u = .int k (numS (den g.sig a)) := by
  unfold isK at h
  split at h
  · rename_i k' hk
    have := of_decide_eq_true h
    subst this
    obtain ⟨⟨x, hx⟩, _⟩ := sk_i hk g.sig
    have h1 : numS (den g.sig a) = x := by rw [hx]; rfl
    exact ⟨by rw [h1, hx], rel_num hu (by rw [h1, hx])⟩
  · cases h

theorem leq_lo {σ : Sig} {p : AVal} {k : IntKind} {x c : Int} (h : den σ p = .int k x) : evalS σ (.bin .leq (.int k c) p) = some (.bool (decide (c ≤ x))) := by
  have e : den σ (.int k c) = .int k c := rfl
  simp only [evalS, h, e, binS, intA, if_true]

theorem leq_hi {σ : Sig} {p : AVal} {k : IntKind} {x c : Int} (h : den σ p = .int k x) : evalS σ (.bin .leq p (.int k c)) = some (.bool (decide (x ≤ c))) := by
  have e : den σ (.int k c) = .int k c := rfl
  simp only [evalS, h, e, binS, intA, if_true]

/-- Functions without arguments that are known to give true. -/
def okHook (fs : List Nat) : HookF := fun _ f args =>
  match args with
  | [] => match fs.any (Nat.beq f) with
    | true => some (.bool true)
    | false => none
  | _ => none

theorem ok_hooks {P : Program} {ng : Cx} {look : SDef → Option AVal} {fs : List Nat} (h : ∀ f, f ∈ fs → ∀ w, Calls P f #[] w fun e w' => e = .returned (.bool true) ∧ RowKit.Below w.heap.size w w')
    {f : FuncId} {args : List AVal} {v : AVal} (hv : okHook fs look f args = some v) (hp : Hp) : CallP P ng f args hp (.val v) hp := by
  unfold okHook at hv
  split at hv
  · split at hv
    · rename_i hm
      cases hv
      simp only [List.any_eq_true] at hm
      obtain ⟨x, hx, hb⟩ := hm
      have := Nat.eq_of_beq_eq_true hb
      subst this
      refine callP_below (fun g w args' _ ha => ?_) hp
      have : args' = #[] := by
        cases args' with
        | mk l => cases ha; rfl
      subst this
      refine (h _ hx w).mono ?_
      rintro e w' ⟨rfl, hb⟩
      exact ⟨_, rfl, .bool true, hb⟩
    · cases hv
  · cases hv

/-- A call whose arguments are numbers, reckoned true at each leaf of a tree of splits. -/
theorem nums_true {P : Program} {fuel d m : Nat} {f : FuncId} {args : List AVal} {tab : TabF} {hook : HookF} {G : List SDef} {T : Tr} {l : List Int} {b : List Bool} (hm : P.follows .mixedOrders = true) (hG : okG G m = true) (hh : ∀ F, Hooks P (cxOf 0 m tab hook G F))
    (h : okTree (fun F => isTrue (callA P (cxOf 0 m tab hook G F) fuel d f args ⟨⟨[], []⟩, [], []⟩)) T [] = true)
    (hd : ∀ σ : Sig, Eqs σ m G → σ.tab = tab → (∀ i, i < m → σ.ival i = l.getD i 0) → (∀ i, i < m → σ.bval i = b.getD i false) → deads σ T []) {args' : Array Value}
    (ha : ∀ g : Inj, (∀ i, i < m → g.sig.ival i = l.getD i 0) → (∀ i, i < m → g.sig.bval i = b.getD i false) → LRel g args args'.toList) (w : World) :
    Calls P f args' w fun e w' => e = .returned (.bool true) ∧ RowKit.Below w.heap.size w w' :=
  split_true (σ := solve G m (sigL tab l b)) hm hh (eqs_solve hG) (solve_tab tab G m l b) (solve_ext tab G m l b) h
    (hd _ (eqs_solve hG) (solve_tab tab G m l b) (fun i hi => solve_ival tab G m l b i hi) (fun i hi => solve_bval tab G m l b i hi)) (ha _ (fun i hi => solve_ival tab G m l b i hi) (fun i hi => solve_bval tab G m l b i hi)) w

/-- A call whose arguments are numbers: what it gives. -/
theorem nums_val {P : Program} {fuel d m : Nat} {f : FuncId} {args : List AVal} {tab : TabF} {hook : HookF} {G : List SDef} {T : Vr} {l : List Int} {b : List Bool} {Q : Sig → AVal → Prop} (hm : P.follows .mixedOrders = true) (hG : okG G m = true) (hh : ∀ F, Hooks P (cxOf 0 m tab hook G F))
    (h : okVr (fun F => callA P (cxOf 0 m tab hook G F) fuel d f args ⟨⟨[], []⟩, [], []⟩) T [] = true)
    (hd : ∀ σ : Sig, Eqs σ m G → σ.tab = tab → (∀ i, i < m → σ.ival i = l.getD i 0) → (∀ i, i < m → σ.bval i = b.getD i false) → vals σ (Q σ) T []) {args' : Array Value}
    (ha : ∀ g : Inj, (∀ i, i < m → g.sig.ival i = l.getD i 0) → (∀ i, i < m → g.sig.bval i = b.getD i false) → LRel g args args'.toList) (w : World) :
    Calls P f args' w fun e w' => ∃ σ v u, e = .returned u ∧ Q σ v ∧ VRel ⟨fun _ => none, σ⟩ v u ∧ RowKit.Below w.heap.size w w' := by
  refine (split_val (σ := solve G m (sigL tab l b)) hm hh (eqs_solve hG) (solve_tab tab G m l b) (solve_ext tab G m l b) h
    (hd _ (eqs_solve hG) (solve_tab tab G m l b) (fun i hi => solve_ival tab G m l b i hi) (fun i hi => solve_bval tab G m l b i hi)) (ha _ (fun i hi => solve_ival tab G m l b i hi) (fun i hi => solve_bval tab G m l b i hi)) w).mono ?_
  rintro e w' ⟨v, u, h1, h2, h3, h4⟩
  exact ⟨_, v, u, h1, h2, h3, h4⟩

end Go.Ev
