/- A function's body in stages: pieces of its statements, one behind the other, each reckoned from a shape; loops among them. -/
import Derived.Test.YtlhaklmnjdgjgacGreatEwZj
namespace Go.Ev
open Go.RowKit
set_option linter.unusedVariables false
set_option linter.unusedSimpArgs false
set_option linter.unnecessarySimpa false

/-- a body's statements -/
def flatC : Code → List Code
  | .seq x y => flatC x ++ flatC y
  | c => [c]

theorem then_two {K J : Act → World → Prop} {Q : Exit → Act → World → Prop} : Exit.then J (Exit.then K Q) = Exit.then J Q := by
  funext e a w; cases e <;> rfl

theorem flat_wp {P : Program} : ∀ (c : Code) {K : Act → World → Prop} {Q : Exit → Act → World → Prop} {a : Act} {w : World}, chainK P (flatC c) K Q a w → c.wpIn (FR none) 0 P (Exit.then K Q) a w
  | .seq x y, K, Q, a, w, h => by
    simp only [flatC, chainK_append] at h
    refine wpIn_seq ?_
    rw [then_two]
    refine wpIn_mono (flat_wp x h) fun e a' w' he => ?_
    cases e with
    | normal => exact flat_wp y he
    | _ => exact he
  | .skip, _, _, _, _, h | .region _ _ _, _, _, _, _, h | .cond _ _ _, _, _, _, _, h | .loop _, _, _, _, _, h | .rangeFunc _ _ _ _, _, _, _, _, h
  | .exit _, _, _, _, _, h | .ret, _, _, _, _, h | .label _, _, _, _, _, h | .goto _, _, _, _, _, h | .scope _, _, _, _, _, h | .refuse _, _, _, _, _, h | .block _ _, _, _, _, _, h => h

/-- From any state of the shape, for unknowns of which J is so, these pieces go through. -/
def Stage (P : Program) (tab : TabF) (n : Nat) (W0 : World) (Z : Exit → Act → World → Prop) (c : List Code) (S : Shape) (q : Nat) (ins : List (Option IntKind)) (J : Sig → Prop) : Prop :=
  ∀ a w σ, At tab S n σ W0 a w → InsOk σ q ins → J σ → σ.tab = tab → chainK P c (Z .normal) Z a w

/-- an end that is told at once -/
def EndZ (tab : TabF) (n : Nat) (W0 : World) (Z : Exit → Act → World → Prop) (x : SEx) (s : Shape) (σ : Sig) : Prop :=
  ∀ e a w, SExRel x e → At tab s n σ W0 a w → Z e a w

theorem Stage.seg {P : Program} {tab : TabF} {n : Nat} {W0 : World} {Z : Exit → Act → World → Prop} {c1 c2 : List Code} {S S2 : Shape} {q q2 : Nat} {ins ins2 : List (Option IntKind)} {J J2 : Sig → Prop} {X : Ing} {Wt : Sw}
    (hm : P.follows .mixedOrders = true) (s : SegOk P tab n c1 S X Wt) (aX : X.m = q ∧ X.ins = ins) (hJ : ∀ σ τ, Agree q σ τ → J σ → J τ) (hr : ∀ τ, J τ → RowsOk τ X.rows)
    (next : Stage P tab n W0 Z c2 S2 q2 ins2 J2)
    (o : ∀ τ, Eqs τ q X.G → τ.tab = tab → InsOk τ q ins → J τ → segsW τ (fun x s σ2 => (x = .normal ∧ s = S2 ∧ InsOk σ2 q2 ins2 ∧ J2 σ2 ∧ σ2.tab = tab) ∨ (x ≠ .normal ∧ EndZ tab n W0 Z x s σ2)) Wt []) :
    Stage P tab n W0 Z (c1 ++ c2) S q ins J := by
  intro a w σ hA hi hj ht
  obtain ⟨rfl, rfl⟩ := aX
  have ag := agree_solve X.G X.m σ
  have hi2 : InsOk (solve X.G X.m σ) X.m X.ins := by
    intro i k hi' hk
    rw [← (ag.val i hi').1]; exact hi i k hi' hk
  have hj2 := hJ _ _ ag hj
  have ob := o _ (eqs_solve s.ok) (by rw [← ag.tab]; exact ht) hi2 hj2
  rw [chainK_append]
  refine s.run hm hA hi (hr _ hj2) ob ?_
  rintro e a' w' x s2 σ2 hx hq hA2
  rcases hq with ⟨rfl, rfl, gi, gj, gt⟩ | ⟨hne, hz⟩
  · cases e <;> simp only [SExRel] at hx
    exact next a' w' σ2 hA2 gi gj gt
  · have := hz e a' w' hx hA2
    cases e with
    | normal => cases x <;> simp only [SExRel] at hx; exact absurd rfl hne
    | _ => exact this

/-- The last piece. -/
theorem Stage.last {P : Program} {tab : TabF} {n : Nat} {W0 : World} {Z : Exit → Act → World → Prop} {c1 : List Code} {S : Shape} {q : Nat} {ins : List (Option IntKind)} {J : Sig → Prop} {X : Ing} {Wt : Sw}
    (hm : P.follows .mixedOrders = true) (s : SegOk P tab n c1 S X Wt) (aX : X.m = q ∧ X.ins = ins) (hJ : ∀ σ τ, Agree q σ τ → J σ → J τ) (hr : ∀ τ, J τ → RowsOk τ X.rows)
    (o : ∀ τ, Eqs τ q X.G → τ.tab = tab → InsOk τ q ins → J τ → segsW τ (EndZ tab n W0 Z) Wt []) :
    Stage P tab n W0 Z c1 S q ins J := by
  intro a w σ hA hi hj ht
  obtain ⟨rfl, rfl⟩ := aX
  have ag := agree_solve X.G X.m σ
  have hi2 : InsOk (solve X.G X.m σ) X.m X.ins := by
    intro i k hi' hk
    rw [← (ag.val i hi').1]; exact hi i k hi' hk
  have hj2 := hJ _ _ ag hj
  refine s.run hm hA hi (hr _ hj2) (o _ (eqs_solve s.ok) (by rw [← ag.tab]; exact ht) hi2 hj2) ?_
  rintro e a' w' x s2 σ2 hx hz hA2
  have := hz e a' w' hx hA2
  cases e with
  | normal => exact this
  | _ => exact this

/-- A loop. -/
theorem Stage.loop {P : Program} {tab : TabF} {n : Nat} {W0 : World} {Z : Exit → Act → World → Prop} {b : Code} {id : Nat} {c2 : List Code} {S S2 : Shape} {q q2 : Nat} {ins ins2 : List (Option IntKind)} {J J2 : Sig → Prop} {X : Ing} {Wt : Sw} {μ : Sig → Nat}
    (hm : P.follows .mixedOrders = true) (s : SegOk P tab n [b] S X Wt) (aX : X.m = q ∧ X.ins = ins) (hJ : ∀ σ τ, Agree q σ τ → J σ → J τ) (hμ : ∀ σ τ, Agree q σ τ → μ σ = μ τ) (hr : ∀ τ, J τ → RowsOk τ X.rows)
    (next : Stage P tab n W0 Z c2 S2 q2 ins2 J2)
    (o : ∀ τ, Eqs τ q X.G → τ.tab = tab → InsOk τ q ins → J τ → segsW τ (fun x s σ2 => (x = .normal ∧ s = S ∧ InsOk σ2 q ins ∧ J σ2 ∧ σ2.tab = tab ∧ μ σ2 < μ τ) ∨ (x = .exit id ∧ s = S2 ∧ InsOk σ2 q2 ins2 ∧ J2 σ2 ∧ σ2.tab = tab)
      ∨ (x = .ret ∧ EndZ tab n W0 Z x s σ2)) Wt []) :
    Stage P tab n W0 Z (.block id (.loop b) :: c2) S q ins J := by
  intro a w σ hA hi hj ht
  obtain ⟨rfl, rfl⟩ := aX
  show (Code.block id (.loop b)).wpIn (FR none) 0 P _ a w
  refine wpIn_block ?_
  let Inv : Nat → Act → World → Prop := fun k a w => ∃ σ, At tab S n σ W0 a w ∧ InsOk σ X.m X.ins ∧ J σ ∧ σ.tab = tab ∧ k = μ σ
  refine loop_at (Inv := Inv) ?_ (μ σ) a w ⟨σ, hA, hi, hj, ht, rfl⟩
  clear hA hi hj ht a w
  rintro k a w ⟨σ, hA, hi, hj, ht, rfl⟩
  have ag := agree_solve X.G X.m σ
  have hi2 : InsOk (solve X.G X.m σ) X.m X.ins := by
    intro i k hi' hk
    rw [← (ag.val i hi').1]; exact hi i k hi' hk
  have hj2 := hJ _ _ ag hj
  have ob := o _ (eqs_solve s.ok) (by rw [← ag.tab]; exact ht) hi2 hj2
  have := s.run hm hA hi (hr _ hj2) ob (K := fun a' w' => ∃ k', k' < μ σ ∧ Inv k' a' w')
    (Z := fun e a' w' => (e = .normal ∧ ∃ k', k' < μ σ ∧ Inv k' a' w') ∨ (e ≠ .normal ∧ Exit.inBlock id (Exit.then (chainK P c2 (Z .normal) Z) Z) e a' w')) ?_
  · simp only [chainK] at this
    refine wpIn_mono this fun e a' w' h => ?_
    cases e with
    | normal => exact .inl ⟨rfl, h⟩
    | _ => exact h
  · rintro e a' w' x s3 σ3 hx hq0 hA3
    rcases hq0 with ⟨rfl, rfl, gins, gj, gtab, glt⟩ | ⟨rfl, rfl, gins, gk, gtab⟩ | ⟨rfl, gd⟩
    · cases e <;> simp only [SExRel] at hx
      exact ⟨μ σ3, by rw [hμ _ _ ag]; exact glt, σ3, hA3, gins, gj, gtab, rfl⟩
    · cases e <;> simp only [SExRel] at hx
      subst hx
      refine .inr ⟨by simp, ?_⟩
      simp only [Exit.inBlock, if_true]
      exact next a' w' σ3 hA3 gins gk gtab
    · cases e <;> simp only [SExRel] at hx
      exact .inr ⟨by simp, gd .ret a' w' trivial hA3⟩

/-- A function of numbers, from its stages. -/
theorem fn_of_stage {P : Program} {f : FuncId} {fn : Func} {tab : TabF} {ins outs : List Sh} {n : Nat} {F : List Int → List Int}
    (hf : P.funcs[f]? = some fn) (hb : fn.body = some (bodyOf fn)) (hn : fn.ntmps = n) (hna : ∀ l : List Int, (encS ins l).length ≤ n)
    (h : ∀ l W, InR (cellsOf ins) l → Stage P tab n W (bodyPost P fn (fun e W' => e = .returned (encR outs (F l)) ∧ Below W.heap.size W W')) (flatC (bodyOf fn)) ⟨argT 0 (symSh ins 0), []⟩ (cellsOf ins).length ((cellsOf ins).map kindC)
      (fun σ => ∀ i, i < (cellsOf ins).length → σ.ival i = l.getD i 0)) : FnOk P f ins outs F := by
  intro l hl W
  refine calls_body hf hb ?_
  rw [hn]
  have hA0 : At tab ⟨argT 0 (symSh ins 0), []⟩ n (sigL tab l) W { tmps := (encS ins l).toArray ++ Array.replicate (n - (encS ins l).toArray.size) undef, defers := [] } W := by
    refine at_start (tab := tab) (args := symSh ins 0) (args' := (encS ins l).toArray) rfl ?_ (by simpa using hna l) W
    refine symSh_rel ins l 0 hl (fun i hil => ?_)
    rw [Nat.zero_add]
    exact ⟨rfl, rfl⟩
  have hin0 : InsOk (sigL tab l) (cellsOf ins).length ((cellsOf ins).map kindC) := by
    intro i k hi hk
    refine inR_get hl i k ?_
    rw [List.getElem?_map] at hk
    cases hc : (cellsOf ins)[i]? with
    | none => rw [hc] at hk; simp at hk
    | some c =>
      rw [hc] at hk
      cases c with
      | i k' => simp [kindC] at hk; rw [hk]
      | b => simp [kindC] at hk
  have := flat_wp _ (h l W hl _ _ (sigL tab l) hA0 hin0 (fun i _ => rfl) rfl)
  rwa [then_self] at this

/-- The call's end. -/
theorem endZ_res {P : Program} {tab : TabF} {n : Nat} {fn : Func} {W0 : World} {outs : List Sh} {l : List Int} {SE : Shape} {vs : List AVal} {σ : Sig} {x : SEx} (hSE : resA P (tmOf SE n) SE.heap fn.results.toList = some vs) (hd : OutOk σ outs (packA vs) l) (hx : x = .ret ∨ x = .normal) :
    EndZ tab n W0 (bodyPost P fn (fun e W' => e = .returned (encR outs l) ∧ Below W0.heap.size W0 W')) x SE σ := by
  intro e a w hxe hA
  refine at_end_res hSE hA hd ?_
  rcases hx with rfl | rfl
  · exact .inl hxe
  · exact .inr hxe

theorem true_hooks {P : Program} {X : Ing} {tt : List Ent} (hX : X.hook = trueHook tt) (h1 : ∀ e, e ∈ tt → FnOk P e.f e.ins [.one .b] (fun _ => [1])) (F : List Fact) (hmh : X.mh = noMh := by rfl) (hin : X.insf = none := by rfl) (hat : X.atoms = [] := by rfl) : Hooks P (cxOf X F) := by
  refine hooks_of hmh hin hat ?_
  intro f' args v hv hp
  replace hv : X.hook (symS (baseOf X F)) (kdX X) f' args = some v := hv
  rw [hX] at hv
  exact true_at h1 F f' args v hv hp

/-- the loop that is statement j -/
def loopAt (j : Nat) (c : Code) : Code :=
  match (flatC c)[j]? with
  | some (.block _ (.loop b)) => b
  | _ => .skip
end Go.Ev
