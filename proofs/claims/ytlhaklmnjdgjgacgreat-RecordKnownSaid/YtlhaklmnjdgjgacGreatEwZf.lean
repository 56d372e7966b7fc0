/- A function of numbers with a loop, and one result: its contract, from three pieces that are reckoned. -/
import Derived.Test.YtlhaklmnjdgjgacGreatEwZd
import Derived.Test.YtlhaklmnjdgjgacGreatEwZe
namespace Go.Ev
open Go.RowKit
set_option linter.unusedVariables false
set_option linter.unusedSimpArgs false
set_option linter.unnecessarySimpa false

/-- A call that ends with a cell in a temporary. -/
theorem at_end_cell {P : Program} {tab : TabF} {s : Shape} {n r : Nat} {σ : Sig} {w0 : World} {a : Act} {w : World} {fn : Func} {v : AVal} {c : Cl} {x : Int} (hr : fn.results.toList = [.tmp r]) (hA : At tab s n σ w0 a w) (hm : (r, v) ∈ s.t) (hd : den σ v = denC c x) {e : Exit} (he : SExRel .ret e ∨ SExRel .normal e) :
    bodyPost P fn (fun e w' => e = .returned (encC c x) ∧ RowKit.Below w0.heap.size w0 w') e a w := by
  obtain ⟨g, rfl, hH, hT, _⟩ := hA.ex
  obtain ⟨u, h1, h2⟩ := hT _ hm
  have hu : u = encC c x := denC_rel hd h2
  subst hu
  have hres : (results fn a.tmps).run P w = .ok (encC c x) w := by
    rw [results_eq, Array.mapM_eq_mapM_toList, hr]
    simp only [Sem.run_bind, Sem.run_map, Sem.run_pure, List.mapM_cons, List.mapM_nil, resOne, Result.andThen_ok]
    have h1' : a.tmps.getD r undef = encC c x := by rw [Array.getD_eq_getD_getElem?, h1]; rfl
    simp [h1']
  have : a.defers = [] ∧ ∃ v, (results fn a.tmps).run P w = .ok v w ∧ (Ending.returned v = .returned (encC c x) ∧ RowKit.Below w0.heap.size w0 w) := ⟨hA.defers, _, hres, rfl, hA.below⟩
  cases e with
  | normal => exact this
  | ret => exact this
  | _ => rcases he with he | he <;> exact he.elim

/-- J l: what is so at the loop's head, of the arguments l; K l: what is so behind it; the measure falls. -/
theorem loop_fn {P : Program} {f : FuncId} {fn : Func} {tab : TabF} {ins : List Sh} {c : Cl} {q n r : Nat} {insq ins2 : List (Option IntKind)} {S0 S1 S2 SE : Shape} {va : AVal} {XA XB XC : Ing} {WA WB WC : Sw} {J K : List Int → Sig → Prop} {μ : Sig → Nat} {F : List Int → List Int}
    (hm : P.follows .mixedOrders = true) (hf : P.funcs[f]? = some fn) (hb : fn.body = some (bodyOf fn)) (hn : fn.ntmps = n) (hres : fn.results.toList = [.tmp r]) (hcut : (cutC (bodyOf fn)).isSome = true)
    (hS0 : S0 = ⟨argT 0 (symSh ins 0), []⟩) (hna : ∀ l : List Int, (encS ins l).length ≤ n) (hSE : (r, va) ∈ SE.t)
    (sA : SegOk P tab n (preOf (bodyOf fn)) S0 XA WA) (aA : XA.m = (cellsOf ins).length ∧ XA.ins = (cellsOf ins).map kindC ∧ XA.rows = [])
    (sB : SegOk P tab n [loopOf (bodyOf fn)] S1 XB WB) (aB : XB.m = q ∧ XB.ins = insq ∧ XB.rows = [])
    (sC : SegOk P tab n (postOf (bodyOf fn)) S2 XC WC) (aC : XC.ins = ins2 ∧ XC.rows = [])
    (hJ : ∀ l σ τ, Agree q σ τ → J l σ → J l τ) (hK : ∀ l σ τ, Agree XC.m σ τ → K l σ → K l τ) (hμ : ∀ σ τ, Agree q σ τ → μ σ = μ τ)
    (oA : ∀ (l : List Int) (τ : Sig), InR (cellsOf ins) l → Eqs τ XA.m XA.G → τ.tab = tab → InsOk τ XA.m XA.ins → (∀ i, i < XA.m → τ.ival i = l.getD i 0) → segsW τ (fun x s σ2 => x = .normal ∧ s = S1 ∧ InsOk σ2 q insq ∧ J l σ2 ∧ σ2.tab = tab) WA [])
    (oB : ∀ (l : List Int) (τ : Sig), InR (cellsOf ins) l → Eqs τ q XB.G → τ.tab = tab → InsOk τ q insq → J l τ →
      segsW τ (fun x s σ2 => (x = .normal ∧ s = S1 ∧ InsOk σ2 q insq ∧ J l σ2 ∧ σ2.tab = tab ∧ μ σ2 < μ τ) ∨ (x = .exit (idOf (bodyOf fn)) ∧ s = S2 ∧ InsOk σ2 XC.m ins2 ∧ K l σ2 ∧ σ2.tab = tab)
        ∨ (x = .ret ∧ s = SE ∧ den σ2 va = denC c ((F l).headD 0))) WB [])
    (oC : ∀ (l : List Int) (τ : Sig), InR (cellsOf ins) l → Eqs τ XC.m XC.G → τ.tab = tab → InsOk τ XC.m ins2 → K l τ → segsW τ (fun x s σ2 => (x = .ret ∨ x = .normal) ∧ s = SE ∧ den σ2 va = denC c ((F l).headD 0)) WC []) :
    FnOk P f ins [.one c] F := by
  intro l hl W
  have henc : encR [.one c] (F l) = encC c ((F l).headD 0) := rfl
  rw [henc]
  refine calls_body hf hb ?_
  rw [hn]
  refine cut_of hcut ?_
  have hlen := inR_length hl
  have hA0 : At tab S0 n (sigL tab l) W { tmps := (encS ins l).toArray ++ Array.replicate (n - (encS ins l).toArray.size) undef, defers := [] } W := by
    subst hS0
    refine at_start (tab := tab) (args := symSh ins 0) (args' := (encS ins l).toArray) rfl ?_ (by simpa using hna l) W
    refine symSh_rel ins l 0 hl (fun i hil => ?_)
    rw [Nat.zero_add]
    exact ⟨rfl, rfl⟩
  have agA := agree_solve XA.G XA.m (sigL tab l)
  have hin0 : InsOk (sigL tab l) XA.m XA.ins := by
    intro i k hi hk
    rw [aA.2.1] at hk
    refine inR_get hl i k ?_
    rw [List.getElem?_map] at hk
    cases hc : (cellsOf ins)[i]? with
    | none => rw [hc] at hk; simp at hk
    | some c =>
      rw [hc] at hk
      cases c with
      | i k' => simp [kindC] at hk; rw [hk]
      | b => simp [kindC] at hk
  have inA : InsOk (solve XA.G XA.m (sigL tab l)) XA.m XA.ins := by
    intro i k hi hk
    rw [← (agA.val i hi).1]; exact hin0 i k hi hk
  refine sA.run hm hA0 hin0 (by rw [aA.2.2]; exact rows_nil) (oA l _ hl (eqs_solve sA.ok) agA.tab.symm inA (fun i hi => (agA.val i hi).1.symm)) ?_
  rintro e a w x s2 σ1 hx ⟨rfl, rfl, hins, hj, htab⟩ hA1
  cases e <;> simp only [SExRel] at hx
  show (Code.block _ (.loop _)).wpIn (FR none) 0 P _ a w
  refine wpIn_block ?_
  let Inv : Nat → Act → World → Prop := fun k a w => ∃ σ, At tab s2 n σ W a w ∧ InsOk σ q insq ∧ J l σ ∧ σ.tab = tab ∧ k = μ σ
  refine loop_at (Inv := Inv) ?_ (μ σ1) a w ⟨σ1, hA1, hins, hj, htab, rfl⟩
  clear hA1 hins hj htab a w
  rintro k a w ⟨σ, hA, hins, hj, htab, rfl⟩
  have agB := agree_solve XB.G XB.m σ
  have hinB : InsOk σ XB.m XB.ins := by rw [aB.1, aB.2.1]; exact hins
  have agq : Agree q σ (solve XB.G XB.m σ) := by rw [aB.1] at agB ⊢; exact agB
  have inB : InsOk (solve XB.G XB.m σ) q insq := by
    intro i k hi hk
    rw [← (agq.val i hi).1]; exact hins i k hi hk
  have ob := oB l _ hl (by rw [← aB.1]; exact eqs_solve sB.ok) (by rw [← agB.tab]; exact htab) inB (hJ _ _ _ agq hj)
  have := sB.run hm hA hinB (by rw [aB.2.2]; exact rows_nil) ob (K := fun a' w' => ∃ k', k' < μ σ ∧ Inv k' a' w')
    (Z := fun e a' w' => (e = .normal ∧ ∃ k', k' < μ σ ∧ Inv k' a' w') ∨ (e ≠ .normal ∧ Exit.inBlock (idOf (bodyOf fn)) (Exit.then (chainK P (postOf (bodyOf fn)) (bodyPost P fn (fun e W' => e = .returned (encC c ((F l).headD 0)) ∧ Below W.heap.size W W') .normal) (bodyPost P fn (fun e W' => e = .returned (encC c ((F l).headD 0)) ∧ Below W.heap.size W W'))) (bodyPost P fn (fun e W' => e = .returned (encC c ((F l).headD 0)) ∧ Below W.heap.size W W'))) e a' w')) ?_
  · simp only [chainK] at this
    refine wpIn_mono this fun e a' w' h => ?_
    cases e with
    | normal => exact .inl ⟨rfl, h⟩
    | _ => exact h
  · rintro e a' w' x s3 σ3 hx hq0 hA3
    rcases hq0 with ⟨rfl, rfl, gins, gj, gtab, glt⟩ | ⟨rfl, rfl, gins, gk, gtab⟩ | ⟨rfl, rfl, gd⟩
    · cases e <;> simp only [SExRel] at hx
      exact ⟨μ σ3, by rw [hμ _ _ agq]; exact glt, σ3, hA3, gins, gj, gtab, rfl⟩
    · cases e <;> simp only [SExRel] at hx
      subst hx
      refine .inr ⟨by simp, ?_⟩
      simp only [Exit.inBlock, if_true]
      show chainK P (postOf (bodyOf fn)) _ _ a' w'
      have agC := agree_solve XC.G XC.m σ3
      have inC : InsOk (solve XC.G XC.m σ3) XC.m ins2 := by
        intro i k hi hk
        rw [← (agC.val i hi).1]; exact gins i k hi hk
      refine sC.run hm hA3 (by rw [aC.1]; exact gins) (by rw [aC.2]; exact rows_nil) (oC l _ hl (eqs_solve sC.ok) (by rw [← agC.tab]; exact gtab) inC (hK _ _ _ agC gk)) ?_
      rintro e2 a2 w2 x2 s4 σ4 hx2 ⟨hh, rfl, gd⟩ hA4
      rw [then_self]
      refine at_end_cell hres hA4 hSE gd ?_
      rcases hh with rfl | rfl
      · exact .inl hx2
      · exact .inr hx2
    · cases e <;> simp only [SExRel] at hx
      refine .inr ⟨by simp, ?_⟩
      exact at_end_cell (e := .ret) hres hA3 hSE gd (.inl trivial)
end Go.Ev
