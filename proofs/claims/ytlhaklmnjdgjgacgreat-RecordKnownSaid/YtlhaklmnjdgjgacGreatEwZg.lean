/- What a function makes of a row: a loop over it, and a result of numbers; and a call of such as known ahead. -/
import Derived.Test.YtlhaklmnjdgjgacGreatEwZf
namespace Go.Ev
open Go.RowKit
set_option linter.unusedVariables false
set_option linter.unusedSimpArgs false
set_option linter.unnecessarySimpa false

/-- The end that the unknowns lead to. -/
def endsV (σ : Sig) : Sv → Option (SEx × Shape × Sig)
  | .leaf x s _ l ex => some (x, s, asgS σ (l ++ ex))
  | .leafE x s _ l ex => some (x, s, asgS σ (l ++ ex))
  | .req _ v => endsV σ v
  | .dead => none
  | .node i y n => if σ.bval i = true then endsV σ y else endsV σ n
  | .pick i k y n => if σ.ival i = k then endsV σ y else endsV σ n

def endsW (σ : Sig) : Sw → Option (SEx × Shape × Sig)
  | .run v => endsV σ v
  | .dead => none
  | .node i y n => if σ.bval i = true then endsW σ y else endsW σ n
  | .pick i k y n => if σ.ival i = k then endsW σ y else endsW σ n

theorem segs_ends {σ : Sig} {Q : SEx → Shape → Sig → Prop} {E : Option (SEx × Shape × Sig)} : ∀ {V : Sv} {F : List Fact}, segs σ Q V F → (Holds σ F → endsV σ V = E) → segs σ (fun x s σ2 => Q x s σ2 ∧ E = some (x, s, σ2)) V F
  | .leaf x s f l ex, F, h, he => fun hF => ⟨h hF, (he hF).symm⟩
  | .leafE x s f l ex, F, h, he => fun hF => ⟨(h hF).1, (h hF).2, (he hF).symm⟩
  | .req o v, F, h, he => ⟨h.1, segs_ends h.2 he⟩
  | .dead, F, h, _ => h
  | .node i y n, F, h, he => ⟨segs_ends h.1 (fun hF => by
    have := he hF.2
    have h1 := hF.1
    simp only [Fact.holds] at h1
    simp only [endsV, h1, if_true] at this; exact this), segs_ends h.2 (fun hF => by
    have := he hF.2
    have h1 := hF.1
    simp only [Fact.holds] at h1
    simp only [endsV, h1, Bool.false_eq_true, if_false] at this; exact this)⟩
  | .pick i k y n, F, h, he => ⟨segs_ends h.1 (fun hF => by
    have := he hF.2
    have h1 := hF.1
    simp only [Fact.holds] at h1
    simp only [endsV, h1, if_true] at this; exact this), segs_ends h.2 (fun hF => by
    have := he hF.2
    have h1 : ¬ (σ.ival i = k) := hF.1
    simp only [endsV, h1, if_false] at this; exact this)⟩

theorem segsW_ends' {σ : Sig} {Q : SEx → Shape → Sig → Prop} {E : Option (SEx × Shape × Sig)} : ∀ {V : Sw} {F : List Fact}, segsW σ Q V F → (Holds σ F → endsW σ V = E) → segsW σ (fun x s σ2 => Q x s σ2 ∧ E = some (x, s, σ2)) V F
  | .run v, F, h, he => segs_ends h he
  | .dead, F, h, _ => h
  | .node i y n, F, h, he => ⟨segsW_ends' h.1 (fun hF => by
    have := he hF.2
    have h1 := hF.1
    simp only [Fact.holds] at h1
    simp only [endsW, h1, if_true] at this; exact this), segsW_ends' h.2 (fun hF => by
    have := he hF.2
    have h1 := hF.1
    simp only [Fact.holds] at h1
    simp only [endsW, h1, Bool.false_eq_true, if_false] at this; exact this)⟩
  | .pick i k y n, F, h, he => ⟨segsW_ends' h.1 (fun hF => by
    have := he hF.2
    have h1 := hF.1
    simp only [Fact.holds] at h1
    simp only [endsW, h1, if_true] at this; exact this), segsW_ends' h.2 (fun hF => by
    have := he hF.2
    have h1 : ¬ (σ.ival i = k) := hF.1
    simp only [endsW, h1, if_false] at this; exact this)⟩

theorem segsW_ends {σ : Sig} {Q : SEx → Shape → Sig → Prop} {V : Sw} (h : segsW σ Q V []) : segsW σ (fun x s σ2 => Q x s σ2 ∧ endsW σ V = some (x, s, σ2)) V [] := segsW_ends' h (fun _ => rfl)

/-- For each row the call gives the numbers that FR makes of it. -/
def RowFn (P : Program) (f : FuncId) (cl : List Cl) (outs : List Sh) (FR : Fz → List Int) : Prop :=
  ∀ (W : World) (v : Value) (X : Fz), RowV W cl v X → InR (cellsOf outs) (FR X) ∧ Calls P f #[v] W fun e W' => e = .returned (encR outs (FR X)) ∧ Below W.heap.size W W'

/-- A call that ends: its results, from the shape. -/
theorem at_end_res {P : Program} {tab : TabF} {s : Shape} {n : Nat} {σ : Sig} {w0 : World} {a : Act} {w : World} {fn : Func} {vs : List AVal} {outs : List Sh} {l : List Int} (hm : resA P (tmOf s n) s.heap fn.results.toList = some vs) (hA : At tab s n σ w0 a w) (hd : OutOk σ outs (packA vs) l) {e : Exit} (he : SExRel .ret e ∨ SExRel .normal e) :
    bodyPost P fn (fun e w' => e = .returned (encR outs l) ∧ RowKit.Below w0.heap.size w0 w') e a w := by
  obtain ⟨g, rfl, hH, hT, _⟩ := hA.ex
  have hT1 : TRel g (tmOf s n) a := by
    refine ⟨by simp only [tmOf, hA.size]; exact Nat.le_refl _, ?_⟩
    intro i v hv
    exact hT _ (tmOf_get hv)
  obtain ⟨u, hres, h2⟩ := results_run hH hT1 hm
  have hu : u = encR outs l := outOk_rel hd h2
  subst hu
  have : a.defers = [] ∧ ∃ v, (results fn a.tmps).run P w = .ok v w ∧ (Ending.returned v = .returned (encR outs l) ∧ RowKit.Below w0.heap.size w0 w) := ⟨hA.defers, _, hres, rfl, hA.below⟩
  cases e with
  | normal => exact this
  | ret => exact this
  | _ => rcases he with he | he <;> exact he.elim

def kdIns (ins : List (Option IntKind)) (i : Nat) : Option IntKind := (ins[i]?).getD none

theorem inR_cells {σ : Sig} {kd : Nat → Option IntKind} (hk : ∀ i k, kd i = some k → k.wrap (σ.ival i) = σ.ival i) : ∀ (cl : List Cl) (cs : List AVal), okCells kd cl cs = true → InR cl (numsOf σ cs)
  | [], [], _ => rfl
  | [], _ :: _, h => by simp [okCells] at h
  | _ :: _, [], h => by simp [okCells] at h
  | c :: cl, a :: cs, h => by
    simp only [okCells, Bool.and_eq_true] at h
    refine ⟨?_, inR_cells hk cl cs h.2⟩
    have h1 := h.1
    cases c with
    | i k =>
      simp only [okCell] at h1
      obtain ⟨n, h3, h4⟩ := inK_spec hk h1
      show k.wrap (numS (den σ a)) = numS (den σ a)
      rw [h3]; exact h4
    | b =>
      cases a <;> simp only [okCell, Bool.false_eq_true] at h1
      · rename_i b; cases b <;> simp [inC, den, numS]
      · rename_i i; simp only [inC, den, numS]; cases σ.bval i <;> simp

def fitC : Cl → Int → Int
  | .i k, n => k.wrap n
  | .b, n => if n = 0 then 0 else 1

/-- cells within their kinds -/
def fitR : List Cl → List Int → List Int
  | [], _ => []
  | c :: r, l => fitC c (l.headD 0) :: fitR r l.tail

theorem fitR_in : ∀ (cs : List Cl) (l : List Int), InR cs (fitR cs l)
  | [], _ => rfl
  | c :: r, l => by
    refine ⟨?_, fitR_in r l.tail⟩
    cases c with
    | i k => exact wrap_wrap _ _
    | b => simp only [inC, fitC]; split <;> simp

theorem fitR_id : ∀ {cs : List Cl} {l : List Int}, InR cs l → fitR cs l = l
  | [], l, h => (show l = [] from h).symm
  | c :: r, [], h => h.elim
  | c :: r, n :: l, h => by
    have h1 := h.1
    simp only [fitR, List.headD_cons, List.tail_cons, fitR_id h.2]
    congr 1
    cases c with
    | i k => exact h1
    | b => rcases h1 with rfl | rfl <;> rfl

section
variable (tab : TabF) (q : Nat) (XA XB XC : Ing) (WA WB WC : Sw) (cl : List Cl) (cs : List AVal)

def sig0 (X : Fz) : Sig := ⟨fun i => if i = 1 then X.len else 0, fun _ => false, fun _ => .empty, tab, fun i => if i = 0 then some X else none⟩

def nextS (σ : Sig) (Y : Ing) (W : Sw) : Sig :=
  match endsW (solve Y.G Y.m σ) W with
  | some (_, _, σ2) => σ2
  | none => σ

def loopF (X : Fz) : Nat → Sig → Sig
  | 0, σ => σ
  | k + 1, σ => match endsW (solve XB.G XB.m (elSig σ q X)) WB with
    | some (.normal, _, σ2) => loopF X k σ2
    | some (_, _, σ2) => σ2
    | none => σ

/-- What comes out of a row. -/
def rowF (X : Fz) : List Int := fitR cl (numsOf (nextS (loopF q XB WB X (X.len + 1) (nextS (sig0 tab X) XA WA)) XC WC) cs)
end

theorem rows_fold {P : Program} {f : FuncId} {fn : Func} {tab : TabF} {cl : List Cl} {q n : Nat} {insq ins2 insE : List (Option IntKind)} {S0 S1 S2 SE : Shape} {XA XB XC : Ing} {WA WB WC : Sw} {vs : List AVal} {outs : List Sh} {cs : List AVal} {mE : Nat}
    (hm : P.follows .mixedOrders = true) (hf : P.funcs[f]? = some fn) (hb : fn.body = some (bodyOf fn)) (hn : fn.ntmps = n) (hcut : (cutC (bodyOf fn)).isSome = true)
    (hq : insq.length = q) (h2q : 2 ≤ q) (hS0 : S0 = ⟨argT 0 [.row 0], []⟩) (h1n : 1 ≤ n) (hid1 : idOk S1 q = true) (hSE : resA P (tmOf SE n) SE.heap fn.results.toList = some vs)
    (hfl : flatS outs (unpack outs (packA vs)) = some cs) (hcE : okCells (kdIns insE) (cellsOf outs) cs = true) (hmE : insE.length = mE)
    (sA : SegOk P tab n (preOf (bodyOf fn)) S0 XA WA) (aA : XA.m = 2 ∧ XA.ins = [some .i64, some .i64] ∧ XA.rows = [⟨.symi .i64 1, []⟩])
    (sB : SegOk P tab n [loopOf (bodyOf fn)] S1 XB WB) (aB : XB.m = q + cl.length ∧ XB.ins = insq ++ cl.map kindC ∧ XB.rows = [⟨.symi .i64 1, [(.symi .i64 0, elCells q cl)]⟩])
    (sC : SegOk P tab n (postOf (bodyOf fn)) S2 XC WC) (aC : XC.ins = ins2 ∧ XC.rows = [])
    (oA : ∀ τ : Sig, Eqs τ 2 XA.G → τ.tab = tab → InsOk τ 2 XA.ins → segsW τ (fun x s σ2 => x = .normal ∧ s = S1 ∧ σ2.ival 0 = 0 ∧ σ2.ival 1 = τ.ival 1 ∧ InsOk σ2 q insq ∧ σ2.tab = tab ∧ σ2.ext = τ.ext) WA [])
    (oB : ∀ τ : Sig, Eqs τ XB.m XB.G → τ.tab = tab → InsOk τ XB.m XB.ins → 0 ≤ τ.ival 0 → τ.ival 0 ≤ τ.ival 1 → τ.ival 1 ≤ 9223372036854775807 →
      segsW τ (fun x s σ2 => (x = .normal ∧ s = S1 ∧ τ.ival 0 < τ.ival 1 ∧ σ2.ival 0 = τ.ival 0 + 1 ∧ σ2.ival 1 = τ.ival 1 ∧ InsOk σ2 q insq ∧ σ2.tab = tab ∧ σ2.ext = τ.ext) ∨ (x = .exit (idOf (bodyOf fn)) ∧ s = S2 ∧ InsOk σ2 XC.m ins2 ∧ σ2.tab = tab)) WB [])
    (oC : ∀ τ : Sig, Eqs τ XC.m XC.G → τ.tab = tab → InsOk τ XC.m ins2 → segsW τ (fun x s σ2 => (x = .ret ∨ x = .normal) ∧ s = SE ∧ InsOk σ2 mE insE) WC []) :
    RowFn P f cl outs (rowF tab q XA XB XC WA WB WC (cellsOf outs) cs) := by
  intro W v X hX
  -- the pieces' ends, and what is known of them
  let σ0 : Sig := sig0 tab X
  have hx0 : ∀ i Y, σ0.ext i = some Y → Y = X := by
    intro i Y h
    have h : (if i = 0 then some X else none) = some Y := h
    split at h
    · cases h; rfl
    · cases h
  have fit : ∀ (σE : Sig), InsOk σE mE insE → OutOk σE outs (packA vs) (numsOf σE cs) ∧ InR (cellsOf outs) (numsOf σE cs) := by
    intro σE hE
    have hk : ∀ i k, kdIns insE i = some k → k.wrap (σE.ival i) = σE.ival i := by
      intro i k h
      refine hE i k ?_ h
      have : insE[i]? ≠ none := by intro hh; simp [kdIns, hh] at h
      rw [← hmE]
      exact Nat.lt_of_not_le fun hle => this (List.getElem?_eq_none hle)
    exact ⟨outOk_flat hk hfl hcE, inR_cells hk _ _ hcE⟩
  have call : Calls P f #[v] W fun e W' => (e = .returned (encR outs (rowF tab q XA XB XC WA WB WC (cellsOf outs) cs X)) ∧ Below W.heap.size W W') := by
    refine calls_body hf hb ?_
    rw [hn]
    refine cut_of hcut ?_
    have hA0 : At tab S0 n σ0 W { tmps := #[v] ++ Array.replicate (n - (#[v] : Array Value).size) undef, defers := [] } W := by
      subst hS0
      refine at_start (tab := tab) (args := [.row 0]) (args' := #[v]) rfl (.cons _ _ _ _ (hX.rel _ 0 rfl) .nil) (by simpa using h1n) W ?_
      intro i Y h hl
      have := hx0 i Y h
      subst this
      exact hX.ok hl
    have hl := hX.len
    have hin0 : InsOk σ0 XA.m XA.ins := by
      intro i k hi hk
      rw [aA.1] at hi
      rw [aA.2.1] at hk
      have h2 : i = 0 ∨ i = 1 := by omega
      rcases h2 with rfl | rfl
      · simp only [List.getElem?_cons_zero, Option.getD_some, Option.some.injEq] at hk
        subst hk; rfl
      · simp only [List.getElem?_cons_zero, List.getElem?_cons_succ, Option.getD_some, Option.some.injEq] at hk
        subst hk
        show IntKind.i64.wrap (X.len : Int) = X.len
        simp [IntKind.wrap, IntKind.bits, IntKind.signed]; omega
    have agA := agree_solve XA.G XA.m σ0
    have hrA : RowsOk (solve XA.G XA.m σ0) XA.rows := by
      rw [aA.2.2]
      intro i r Y hr hY
      rw [← agA.ext] at hY
      have := hx0 i Y hY
      subst this
      have hr0 : i = 0 := by
        cases i with
        | zero => rfl
        | succ i => simp at hr
      subst hr0
      simp only [List.getElem?_cons_zero, Option.some.injEq] at hr
      subst hr
      refine ⟨?_, fun p hp => by cases hp⟩
      show AVal.int .i64 _ = _
      rw [← (agA.val 1 (by rw [aA.1]; decide)).1]; rfl
    have eqA : Eqs (solve XA.G XA.m σ0) 2 XA.G := by rw [← aA.1]; exact eqs_solve sA.ok
    have inA : InsOk (solve XA.G XA.m σ0) 2 XA.ins := by
      intro i k hi hk
      rw [← aA.1] at hi
      rw [← (agA.val i hi).1]; exact hin0 i k hi hk
    refine sA.run hm hA0 hin0 hrA (segsW_ends (oA _ eqA (by rw [← agA.tab]; rfl) inA)) ?_
    rintro e a w x s2 σ1 hx ⟨⟨rfl, rfl, h0, h1, hins, htab, hext⟩, hend1⟩ hA1
    have hs1 : nextS σ0 XA WA = σ1 := by unfold nextS; rw [hend1]
    cases e <;> simp only [SExRel] at hx
    have h1 : σ1.ival 1 = X.len := by rw [h1, ← (agA.val 1 (by rw [aA.1]; decide)).1]; rfl
    have hext : σ1.ext = σ0.ext := by rw [hext, ← agA.ext]
    show (Code.block _ (.loop _)).wpIn (FR none) 0 P _ a w
    refine wpIn_block ?_
    let fin : Sig := loopF q XB WB X (X.len + 1) σ1
    let Inv : Nat → Act → World → Prop := fun k a w => ∃ σ, At tab s2 n σ W a w ∧ InsOk σ q insq ∧ σ.tab = tab ∧ σ.ext = σ0.ext ∧ σ.ival 1 = X.len ∧ 0 ≤ σ.ival 0 ∧ σ.ival 0 ≤ X.len ∧ (k : Int) = X.len - σ.ival 0 ∧ loopF q XB WB X (k + 1) σ = fin
    refine loop_at (Inv := Inv) ?_ X.len a w ⟨σ1, hA1, hins, htab, hext, h1, by omega, by omega, by omega, rfl⟩
    have hfin : fin = loopF q XB WB X (X.len + 1) (nextS σ0 XA WA) := by rw [hs1]
    clear_value fin
    clear hA1 hins htab hext h0 h1 a w hend1 hs1
    rintro k a w ⟨σ, hA, hins, htab, hext, h1, h0, h0', hk, hlf⟩
    have ag0 := elSig_agree σ q X
    have hAe := hA.agree hid1 ag0
    have hinse := elSig_ins hX hq hins
    rw [← aB.1, ← aB.2.1] at hinse
    have agB := agree_solve XB.G XB.m (elSig σ q X)
    have hrB : RowsOk (solve XB.G XB.m (elSig σ q X)) XB.rows := by
      rw [aB.2.2]
      exact elSig_rows hX h2q (by rw [← aB.1]; exact agB) (fun i Y h => hx0 i Y (by rw [← hext]; exact h)) h0 h1
    have hq0 : 0 < XB.m := by rw [aB.1]; omega
    have hq1 : 1 < XB.m := by rw [aB.1]; omega
    have s0 : (solve XB.G XB.m (elSig σ q X)).ival 0 = σ.ival 0 := by rw [← (agB.val 0 hq0).1]; simp [elSig, show 0 < q by omega]
    have s1 : (solve XB.G XB.m (elSig σ q X)).ival 1 = σ.ival 1 := by rw [← (agB.val 1 hq1).1]; simp [elSig, show 1 < q by omega]
    have stab : (solve XB.G XB.m (elSig σ q X)).tab = tab := by rw [← agB.tab]; exact htab
    have sext : (solve XB.G XB.m (elSig σ q X)).ext = σ0.ext := by rw [← agB.ext]; exact hext
    have inB : InsOk (solve XB.G XB.m (elSig σ q X)) XB.m XB.ins := by
      intro i k hi hk
      rw [← (agB.val i hi).1]; exact hinse i k hi hk
    have ob := segsW_ends (oB _ (eqs_solve sB.ok) stab inB (by rw [s0]; exact h0) (by rw [s0, s1, h1]; exact h0') (by rw [s1, h1]; exact hl))
    have := sB.run hm hAe hinse hrB ob (K := fun a' w' => ∃ k', k' < k ∧ Inv k' a' w')
      (Z := fun e a' w' => (e = .normal ∧ ∃ k', k' < k ∧ Inv k' a' w') ∨ (e ≠ .normal ∧ Exit.inBlock (idOf (bodyOf fn)) (Exit.then (chainK P (postOf (bodyOf fn)) (bodyPost P fn (fun e W' => e = .returned (encR outs (rowF tab q XA XB XC WA WB WC (cellsOf outs) cs X)) ∧ Below W.heap.size W W') .normal) (bodyPost P fn (fun e W' => e = .returned (encR outs (rowF tab q XA XB XC WA WB WC (cellsOf outs) cs X)) ∧ Below W.heap.size W W'))) (bodyPost P fn (fun e W' => e = .returned (encR outs (rowF tab q XA XB XC WA WB WC (cellsOf outs) cs X)) ∧ Below W.heap.size W W'))) e a' w')) ?_
    · simp only [chainK] at this
      refine wpIn_mono this fun e a' w' h => ?_
      cases e with
      | normal => exact .inl ⟨rfl, h⟩
      | _ => exact h
    · rintro e a' w' x s3 σ3 hx ⟨hq0, hend⟩ hA3
      rcases hq0 with ⟨rfl, rfl, hlt, g0, g1, gins, gtab, gext⟩ | ⟨rfl, rfl, gins, gtab⟩
      · cases e <;> simp only [SExRel] at hx
        rw [s0] at g0 hlt
        rw [s1, h1] at g1 hlt
        refine ⟨k - 1, by omega, σ3, hA3, gins, gtab, by rw [gext, sext], g1, by omega, by omega, by omega, ?_⟩
        have e1 : loopF q XB WB X (k + 1) σ = loopF q XB WB X k σ3 := by rw [loopF, hend]
        rw [show k - 1 + 1 = k by omega, ← e1, hlf]
      · cases e <;> simp only [SExRel] at hx
        subst hx
        have hσ3 : σ3 = fin := by rw [← hlf, loopF, hend]
        refine .inr ⟨by simp, ?_⟩
        simp only [Exit.inBlock, if_true]
        show chainK P (postOf (bodyOf fn)) _ _ a' w'
        have agC := agree_solve XC.G XC.m σ3
        have inC : InsOk (solve XC.G XC.m σ3) XC.m ins2 := by
          intro i k hi hk
          rw [← (agC.val i hi).1]; exact gins i k hi hk
        refine sC.run hm hA3 (by rw [aC.1]; exact gins) (by rw [aC.2]; exact rows_nil) (segsW_ends (oC _ (eqs_solve sC.ok) (by rw [← agC.tab]; exact gtab) inC)) ?_
        rintro e2 a2 w2 x2 s4 σ4 hx2 ⟨⟨hh, rfl, hE⟩, hend2⟩ hA4
        rw [then_self]
        have hnum : numsOf σ4 cs = rowF tab q XA XB XC WA WB WC (cellsOf outs) cs X := by
          have h4 : nextS σ3 XC WC = σ4 := by unfold nextS; rw [hend2]
          show _ = fitR _ (numsOf (nextS (loopF q XB WB X (X.len + 1) (nextS σ0 XA WA)) XC WC) cs)
          rw [← hfin, ← hσ3, h4, fitR_id (fit σ4 hE).2]
        rw [← hnum]
        refine at_end_res hSE hA4 (fit σ4 hE).1 ?_
        rcases hh with rfl | rfl
        · exact .inl hx2
        · exact .inr hx2
  exact ⟨fitR_in _ _, call⟩

/-! ### A call of such a function, known ahead -/

/-- The call of f on row i gives v. -/
def rowHook (f : FuncId) (i : Nat) (v : AVal) : HookF := fun _ _ f' args =>
  match Nat.beq f f' with
  | true => match args with
    | [.row j] => match Nat.beq i j with
      | true => some v
      | false => none
    | _ => none
  | false => none

theorem row_at {P : Program} {X : Ing} {f : FuncId} {i : Nat} {va : AVal} {cl : List Cl} {outs : List Sh} {FR : Fz → List Int} {W0 : World} {v0 : Value} {Y : Fz} (hf : RowFn P f cl outs FR) (hY : RowV W0 cl v0 Y)
    (hinv : ∀ σ, X.inv σ → σ.ext i = some Y ∧ OutOk σ outs va (FR Y)) (F : List Fact) (f' : FuncId) (args : List AVal) (v : AVal) (hv : rowHook f i va (symS (baseOf X F)) (kdX X) f' args = some v) (hp : Hp) : CallP P (cxOf X F) f' args hp (.val v) hp := by
  unfold rowHook at hv
  split at hv
  · rename_i hbe
    have := Nat.eq_of_beq_eq_true hbe
    subst this
    split at hv
    · rename_i j
      split at hv
      · rename_i hij
        have := Nat.eq_of_beq_eq_true hij
        subst this
        cases hv
        refine ⟨Touch.refl _, fun g w args' hH ha => ?_⟩
        obtain ⟨he, ho⟩ := hinv g.sig hH.sig.ok.2.inv
        have hargs : ∃ u, args' = #[u] ∧ VRel g (.row i) u := by
          obtain ⟨l⟩ := args'
          cases ha with
          | cons _ u _ us h1 h2 => cases h2; exact ⟨u, rfl, h1⟩
        obtain ⟨u, rfl, hu⟩ := hargs
        have hR : RowV w cl u Y := by
          refine ⟨hY.z, fun hl => (hH.frz.row i Y he hl).1, fun g2 k hk => ?_, hY.els, hY.len⟩
          cases hu with
          | row _ X2 ao cap h1 h2 h3 =>
            rw [he] at h1
            cases h1
            exact .row k _ ao cap hk h2 h3
        refine (hf w u Y hR).2.mono ?_
        rintro e w' ⟨rfl, hb⟩
        obtain ⟨h1, h2⟩ := hH.below hb
        exact ⟨g, ⟨_, rfl, outOk_of ho⟩, h1, h2⟩
      · cases hv
    · cases hv
  · cases hv

theorem or_at {P : Program} {X : Ing} {h1 h2 : HookF} {F : List Fact} {look kd}
    (a1 : ∀ f args v hp, h1 look kd f args = some v → CallP P (cxOf X F) f args hp (.val v) hp) (a2 : ∀ f args v hp, h2 look kd f args = some v → CallP P (cxOf X F) f args hp (.val v) hp) :
    ∀ f args v hp, orHook h1 h2 look kd f args = some v → CallP P (cxOf X F) f args hp (.val v) hp := by
  intro f args v hp hv
  unfold orHook at hv
  split at hv
  · rename_i v' h; cases hv; exact a1 f args _ hp h
  · exact a2 f args _ hp hv

/-! ### A law of a row, and of numbers, without a loop over the row: the row goes to such a call alone -/

/-- What is taken of the unknowns: the row, and all numbers. -/
def rowInv (Y : Fz) (m : Nat) (L : List Int) : Sig → Prop := fun σ => σ.ext 0 = some Y ∧ ∀ i, i < m → σ.ival i = L.getD i 0 ∧ σ.bval i = !(L.getD i 0 == 0)

def sigRow (tab : TabF) (Y : Fz) (L : List Int) : Sig := ⟨fun i => L.getD i 0, fun i => !(L.getD i 0 == 0), fun _ => .empty, tab, fun i => if i = 0 then some Y else none⟩

theorem symSh_row {g : Inj} (ss : List Sh) (l e : List Int) (h : InR (cellsOf ss) l) (hσ : ∀ i, i < (l ++ e).length → g.sig.ival i = (l ++ e).getD i 0 ∧ g.sig.bval i = !((l ++ e).getD i 0 == 0)) : LRel g (symSh ss 0) (encS ss l) := by
  refine symSh_rel ss l 0 h (fun i hi => ?_)
  have := hσ i (by simp; omega)
  have e1 : (l ++ e).getD i 0 = l.getD i 0 := by simp [List.getD_eq_getElem?_getD, List.getElem?_append_left hi]
  rw [e1] at this
  simpa using this

theorem row_straight {P : Program} {f : FuncId} {fn : Func} {tab : TabF} {cl : List Cl} {ss : List Sh} {ecl : List Cl} {X : Ing} {Wt : Sw} {n : Nat} {SE : Shape} {vs : List AVal} {l e : List Int} {Y : Fz}
    (hm : P.follows .mixedOrders = true) (hf : P.funcs[f]? = some fn) (hb : fn.body = some (bodyOf fn)) (hn : fn.ntmps = n) (hna : (encS ss l).length + 1 ≤ n)
    (hX : X.n = 0 ∧ X.rows = [] ∧ X.cuts = [] ∧ X.m = (cellsOf ss ++ ecl).length ∧ X.ins = (cellsOf ss ++ ecl).map kindC ∧ X.inv = rowInv Y X.m (l ++ e) ∧ X.tab = tab)
    (hG : okG X.G X.m = true) (hT : okLT X.m X.G X.T = true) (hh : ∀ F, Hooks P (cxOf X F)) (hid : idOk ⟨argT 0 (.row 0 :: symSh ss 0), []⟩ X.m = true)
    (hSE : resA P (tmOf SE n) SE.heap fn.results.toList = some vs)
    (h : okSw (fun F => runL P (cxOf X) true 1000 (evD P (cxOf X) true 1000 40).1 (evD P (cxOf X) true 1000 40).2 [bodyOf fn] F (tmOf ⟨argT 0 (.row 0 :: symSh ss 0), []⟩ n) ⟨[], []⟩) Wt [] = true)
    (hl : InR (cellsOf ss) l) (he : InR ecl e)
    (hob : ∀ τ : Sig, Eqs τ X.m X.G → τ.tab = tab → InsOk τ X.m X.ins → segsW τ (fun x s σ2 => (x = .ret ∨ x = .normal) ∧ s = SE ∧ OutOk σ2 [.one .b] (packA vs) [1]) Wt []) (hkt : okKt X = true)
    {W : World} {v : Value} (hY : RowV W cl v Y) : Calls P f (v :: encS ss l).toArray W fun e W' => e = .returned (.bool true) ∧ Below W.heap.size W W' := by
  obtain ⟨x1, x2, x3, x4, x5, x6, x7⟩ := hX
  refine calls_body hf hb ?_
  rw [hn]
  have hr : InR (cellsOf ss ++ ecl) (l ++ e) := inR_append hl he
  have hlen : (l ++ e).length = X.m := by rw [x4, inR_length hr]
  have hA0 : At X.tab ⟨argT 0 (.row 0 :: symSh ss 0), []⟩ n (sigRow tab Y (l ++ e)) W { tmps := (v :: encS ss l).toArray ++ Array.replicate (n - (v :: encS ss l).toArray.size) undef, defers := [] } W := by
    refine at_start (tab := X.tab) (args := .row 0 :: symSh ss 0) (args' := (v :: encS ss l).toArray) x7.symm (.cons _ _ _ _ (hY.rel _ 0 rfl) ?_) (by simpa using hna) W ?_
    · exact symSh_row ss l e hl (fun i hi => ⟨rfl, rfl⟩)
    · intro i Z hz hl
      have hz : (if i = 0 then some Y else none) = some Z := hz
      split at hz
      · cases hz; exact hY.ok hl
      · cases hz
  have ag := agree_solve X.G X.m (sigRow tab Y (l ++ e))
  have hin0 : InsOk (sigRow tab Y (l ++ e)) X.m X.ins := by
    intro i k hi hk
    rw [x5] at hk
    refine inR_get hr i k ?_
    rw [List.getElem?_map] at hk
    cases hc : (cellsOf ss ++ ecl)[i]? with
    | none => rw [hc] at hk; simp at hk
    | some c =>
      rw [hc] at hk
      cases c with
      | i k' => simp [kindC] at hk; rw [hk]
      | b => simp [kindC] at hk
  have inA : InsOk (solve X.G X.m (sigRow tab Y (l ++ e))) X.m X.ins := by
    intro i k hi hk
    rw [← (ag.val i hi).1]; exact hin0 i k hi hk
  have hinv : X.inv (solve X.G X.m (sigRow tab Y (l ++ e))) := by
    rw [x6]
    refine ⟨?_, fun i hi => ?_⟩
    · rw [← ag.ext]; rfl
    · rw [← (ag.val i hi).1, ← (ag.val i hi).2.1]; exact ⟨rfl, rfl⟩
  have := segL (c := [bodyOf fn]) (X := X) (W := Wt) (K := bodyPost P fn (fun e w' => e = .returned (encR [.one .b] [1]) ∧ Below W.heap.size W w') .normal) (Z := bodyPost P fn (fun e w' => e = .returned (encR [.one .b] [1]) ∧ Below W.heap.size W w'))
    hm hT hG hh x1 hid h hA0 hin0 (hob _ (eqs_solve hG) (by rw [← ag.tab]; rfl) inA) (by
      rintro e a' w' x s2 σ2 hx ⟨hxx, rfl, ho⟩ hA
      rw [then_self]
      refine at_end_res hSE hA ho ?_
      rcases hxx with rfl | rfl
      · exact .inl hx
      · exact .inr hx) (by rw [x2]; exact rows_nil) (by rw [x3]; exact cuts_nil) hinv hkt
  simp only [chainK, then_self] at this
  exact this

theorem outCs_sym {σ : Sig} : ∀ (cs : List Cl) (l : List Int) (j : Nat), InR cs l → (∀ i, i < l.length → σ.ival (j + i) = l.getD i 0 ∧ σ.bval (j + i) = !(l.getD i 0 == 0)) → OutCs σ cs (symCs cs j) l
  | [], l, j, _, _ => trivial
  | c :: cs, [], j, h, _ => h.elim
  | c :: cs, n :: l, j, h, hσ => by
    have h0 := hσ 0 (by simp)
    refine ⟨?_, outCs_sym cs l (j + 1) h.2 (fun i hi => ?_)⟩
    · have h1 := h.1
      cases c with
      | i k =>
        simp only [inC] at h1
        simp only [symC, den, denC, List.headD_cons]
        rw [h1]
        simpa using h0.1
      | b =>
        simp only [symC, den, denC, List.headD_cons]
        simpa using h0.2
    · have := hσ (i + 1) (by simpa using hi)
      rw [show j + 1 + i = j + (i + 1) by omega]
      simpa using this

/-- Hooks: the row's call, functions that are true, a table. -/
theorem row_hooks {P : Program} {X : Ing} {f : FuncId} {cl ecl : List Cl} {FR : Fz → List Int} {W0 : World} {v0 : Value} {Y : Fz} {l : List Int} {tt tbl : List Ent} {Fs : Nat → List Int → List Int}
    (hf : RowFn P f cl [.agg ecl] FR) (hY : RowV W0 cl v0 Y) (hT : okLT X.m X.G X.T = true) (hX : X.hook = orHook (rowHook f 0 (.agg (symCs ecl l.length))) (orHook (trueHook tt) (tblHook (tabOf Fs) tbl))) (ht : X.tab = tabOf Fs)
    (hinv : X.inv = rowInv Y X.m (l ++ FR Y)) (hm : X.m = l.length + ecl.length)
    (h1 : ∀ e, e ∈ tt → FnOk P e.f e.ins [.one .b] (fun _ => [1])) (h2 : ∀ e, e ∈ tbl → (cellsOf e.outs).length ≤ 64 ∧ FnOk P e.f e.ins e.outs (Fs e.id)) (F : List Fact) (hmh : X.mh = noMh := by rfl) (hin : X.insf = none := by rfl) (hat : X.atoms = [] := by rfl) : Hooks P (cxOf X F) := by
  refine hooks_of hmh hin hat ?_
  intro f' args v hv hp
  replace hv : X.hook (symS (baseOf X F)) (kdX X) f' args = some v := hv
  rw [hX] at hv
  have hin : InR ecl (FR Y) := by
    have := (hf W0 v0 Y hY).1
    simpa [cellsOf] using this
  refine or_at (fun f args v hp hv => row_at hf hY ?_ F f args v hv hp) (or_at (fun f args v hp hv => true_at h1 F f args v hv hp) (fun f args v hp hv => tbl_at hT ht h2 F f args v hv hp)) f' args v hp hv
  intro σ hσ
  rw [hinv] at hσ
  obtain ⟨g1, g2⟩ := hσ
  refine ⟨g1, outCs_sym ecl (FR Y) l.length hin (fun i hi => ?_), trivial⟩
  have hlen := inR_length hin
  have := g2 (l.length + i) (by omega)
  have e1 : (l ++ FR Y).getD (l.length + i) 0 = (FR Y).getD i 0 := by
    simp [List.getD_eq_getElem?_getD, List.getElem?_append_right]
  rw [e1] at this
  exact this
end Go.Ev
