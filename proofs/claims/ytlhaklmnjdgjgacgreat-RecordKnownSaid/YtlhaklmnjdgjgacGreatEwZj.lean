/- A function of numbers with a loop, and some results: its contract; a walk over a row, behind other arguments. -/
import Derived.Test.YtlhaklmnjdgjgacGreatEwZg
namespace Go.Ev
open Go.RowKit
set_option linter.unusedVariables false
set_option linter.unusedSimpArgs false
set_option linter.unnecessarySimpa false

/-- J l: what is so at the loop's head, of the arguments l; K l: what is so behind it; the measure falls. -/
theorem loop_fnR {P : Program} {f : FuncId} {fn : Func} {tab : TabF} {ins outs : List Sh} {q n : Nat} {insq ins2 : List (Option IntKind)} {S0 S1 S2 SE : Shape} {vs : List AVal} {XA XB XC : Ing} {WA WB WC : Sw} {J K : List Int → Sig → Prop} {μ : Sig → Nat} {F : List Int → List Int}
    (hm : P.follows .mixedOrders = true) (hf : P.funcs[f]? = some fn) (hb : fn.body = some (bodyOf fn)) (hn : fn.ntmps = n) (hcut : (cutC (bodyOf fn)).isSome = true)
    (hS0 : S0 = ⟨argT 0 (symSh ins 0), []⟩) (hna : ∀ l : List Int, (encS ins l).length ≤ n) (hSE : resA P (tmOf SE n) SE.heap fn.results.toList = some vs)
    (sA : SegOk P tab n (preOf (bodyOf fn)) S0 XA WA) (aA : XA.m = (cellsOf ins).length ∧ XA.ins = (cellsOf ins).map kindC ∧ XA.rows = [])
    (sB : SegOk P tab n [loopOf (bodyOf fn)] S1 XB WB) (aB : XB.m = q ∧ XB.ins = insq ∧ XB.rows = [])
    (sC : SegOk P tab n (postOf (bodyOf fn)) S2 XC WC) (aC : XC.ins = ins2 ∧ XC.rows = [])
    (hJ : ∀ l σ τ, Agree q σ τ → J l σ → J l τ) (hK : ∀ l σ τ, Agree XC.m σ τ → K l σ → K l τ) (hμ : ∀ σ τ, Agree q σ τ → μ σ = μ τ)
    (oA : ∀ (l : List Int) (τ : Sig), InR (cellsOf ins) l → Eqs τ XA.m XA.G → τ.tab = tab → InsOk τ XA.m XA.ins → (∀ i, i < XA.m → τ.ival i = l.getD i 0) → segsW τ (fun x s σ2 => x = .normal ∧ s = S1 ∧ InsOk σ2 q insq ∧ J l σ2 ∧ σ2.tab = tab) WA [])
    (oB : ∀ (l : List Int) (τ : Sig), InR (cellsOf ins) l → Eqs τ q XB.G → τ.tab = tab → InsOk τ q insq → J l τ →
      segsW τ (fun x s σ2 => (x = .normal ∧ s = S1 ∧ InsOk σ2 q insq ∧ J l σ2 ∧ σ2.tab = tab ∧ μ σ2 < μ τ) ∨ (x = .exit (idOf (bodyOf fn)) ∧ s = S2 ∧ InsOk σ2 XC.m ins2 ∧ K l σ2 ∧ σ2.tab = tab)
        ∨ (x = .ret ∧ s = SE ∧ OutOk σ2 outs (packA vs) (F l))) WB [])
    (oC : ∀ (l : List Int) (τ : Sig), InR (cellsOf ins) l → Eqs τ XC.m XC.G → τ.tab = tab → InsOk τ XC.m ins2 → K l τ → segsW τ (fun x s σ2 => (x = .ret ∨ x = .normal) ∧ s = SE ∧ OutOk σ2 outs (packA vs) (F l)) WC []) :
    FnOk P f ins outs F := by
  intro l hl W
  refine calls_body hf hb ?_
  rw [hn]
  refine cut_of hcut ?_
  have hlen := inR_length hl
  have hA0 : At tab S0 n (sigL tab l) W { tmps := (encS ins l).toArray ++ Array.replicate (n - (encS ins l).toArray.size) undef, defers := [] } W := by
    subst hS0
    refine at_start (tab := tab) (args := symSh ins 0) (args' := (encS ins l).toArray) rfl ?_ (by simpa using hna l) W
    refine symSh_rel ins l 0 hl (fun i hil => ?_)
    rw [Nat.zero_add]
    exact ⟨rfl, rfl⟩
  have agA := agree_solve XA.G XA.m (sigL tab l)
  have hin0 : InsOk (sigL tab l) XA.m XA.ins := by
    intro i k hi hk
    rw [aA.2.1] at hk
    refine inR_get hl i k ?_
    rw [List.getElem?_map] at hk
    cases hc : (cellsOf ins)[i]? with
    | none => rw [hc] at hk; simp at hk
    | some c =>
      rw [hc] at hk
      cases c with
      | i k' => simp [kindC] at hk; rw [hk]
      | b => simp [kindC] at hk
  have inA : InsOk (solve XA.G XA.m (sigL tab l)) XA.m XA.ins := by
    intro i k hi hk
    rw [← (agA.val i hi).1]; exact hin0 i k hi hk
  refine sA.run hm hA0 hin0 (by rw [aA.2.2]; exact rows_nil) (oA l _ hl (eqs_solve sA.ok) agA.tab.symm inA (fun i hi => (agA.val i hi).1.symm)) ?_
  rintro e a w x s2 σ1 hx ⟨rfl, rfl, hins, hj, htab⟩ hA1
  cases e <;> simp only [SExRel] at hx
  show (Code.block _ (.loop _)).wpIn (FR none) 0 P _ a w
  refine wpIn_block ?_
  let Inv : Nat → Act → World → Prop := fun k a w => ∃ σ, At tab s2 n σ W a w ∧ InsOk σ q insq ∧ J l σ ∧ σ.tab = tab ∧ k = μ σ
  refine loop_at (Inv := Inv) ?_ (μ σ1) a w ⟨σ1, hA1, hins, hj, htab, rfl⟩
  clear hA1 hins hj htab a w
  rintro k a w ⟨σ, hA, hins, hj, htab, rfl⟩
  have agB := agree_solve XB.G XB.m σ
  have hinB : InsOk σ XB.m XB.ins := by rw [aB.1, aB.2.1]; exact hins
  have agq : Agree q σ (solve XB.G XB.m σ) := by rw [aB.1] at agB ⊢; exact agB
  have inB : InsOk (solve XB.G XB.m σ) q insq := by
    intro i k hi hk
    rw [← (agq.val i hi).1]; exact hins i k hi hk
  have ob := oB l _ hl (by rw [← aB.1]; exact eqs_solve sB.ok) (by rw [← agB.tab]; exact htab) inB (hJ _ _ _ agq hj)
  have := sB.run hm hA hinB (by rw [aB.2.2]; exact rows_nil) ob (K := fun a' w' => ∃ k', k' < μ σ ∧ Inv k' a' w')
    (Z := fun e a' w' => (e = .normal ∧ ∃ k', k' < μ σ ∧ Inv k' a' w') ∨ (e ≠ .normal ∧ Exit.inBlock (idOf (bodyOf fn)) (Exit.then (chainK P (postOf (bodyOf fn)) (bodyPost P fn (fun e W' => e = .returned (encR outs (F l)) ∧ Below W.heap.size W W') .normal) (bodyPost P fn (fun e W' => e = .returned (encR outs (F l)) ∧ Below W.heap.size W W'))) (bodyPost P fn (fun e W' => e = .returned (encR outs (F l)) ∧ Below W.heap.size W W'))) e a' w')) ?_
  · simp only [chainK] at this
    refine wpIn_mono this fun e a' w' h => ?_
    cases e with
    | normal => exact .inl ⟨rfl, h⟩
    | _ => exact h
  · rintro e a' w' x s3 σ3 hx hq0 hA3
    rcases hq0 with ⟨rfl, rfl, gins, gj, gtab, glt⟩ | ⟨rfl, rfl, gins, gk, gtab⟩ | ⟨rfl, rfl, gd⟩
    · cases e <;> simp only [SExRel] at hx
      exact ⟨μ σ3, by rw [hμ _ _ agq]; exact glt, σ3, hA3, gins, gj, gtab, rfl⟩
    · cases e <;> simp only [SExRel] at hx
      subst hx
      refine .inr ⟨by simp, ?_⟩
      simp only [Exit.inBlock, if_true]
      show chainK P (postOf (bodyOf fn)) _ _ a' w'
      have agC := agree_solve XC.G XC.m σ3
      have inC : InsOk (solve XC.G XC.m σ3) XC.m ins2 := by
        intro i k hi hk
        rw [← (agC.val i hi).1]; exact gins i k hi hk
      refine sC.run hm hA3 (by rw [aC.1]; exact gins) (by rw [aC.2]; exact rows_nil) (oC l _ hl (eqs_solve sC.ok) (by rw [← agC.tab]; exact gtab) inC (hK _ _ _ agC gk)) ?_
      rintro e2 a2 w2 x2 s4 σ4 hx2 ⟨hh, rfl, gd⟩ hA4
      rw [then_self]
      refine at_end_res hSE hA4 gd ?_
      rcases hh with rfl | rfl
      · exact .inl hx2
      · exact .inr hx2
    · cases e <;> simp only [SExRel] at hx
      refine .inr ⟨by simp, ?_⟩
      exact at_end_res (e := .ret) hSE hA3 gd (.inl trivial)

theorem lrel_append {g : Inj} {b : List AVal} {v : List Value} (hb : LRel g b v) : ∀ {a : List AVal} {u : List Value}, LRel g a u → LRel g (a ++ b) (u ++ v)
  | [], _, .nil => hb
  | _ :: _, _, .cons _ _ _ _ h1 h2 => .cons _ _ _ _ h1 (lrel_append hb h2)

/-- A call with numbers and one row behind them, and a loop over the row that counts in unknown 0 (its length is unknown 1). -/
theorem rows_walkG {P : Program} {f : FuncId} {fn : Func} {tab : TabF} {ss : List Sh} {cl : List Cl} {q k n : Nat} {insq ins2 : List (Option IntKind)} {S0 S1 S2 SE : Shape} {XA XB XC : Ing} {WA WB WC : Sw} {J K : List Int → Sig → Prop} {vs : List AVal}
    (hm : P.follows .mixedOrders = true) (hf : P.funcs[f]? = some fn) (hb : fn.body = some (bodyOf fn)) (hn : fn.ntmps = n) (hcut : (cutC (bodyOf fn)).isSome = true)
    (hq : insq.length = q) (h2q : 2 ≤ q) (hk : (cellsOf ss).length = k) (hS0 : S0 = ⟨argT 0 (symSh ss 0 ++ [.row 0]), []⟩) (hna : ∀ l : List Int, (encS ss l).length + 1 ≤ n) (hid1 : idOk S1 q = true) (hSE : resA P (tmOf SE n) SE.heap fn.results.toList = some vs)
    (sA : SegOk P tab n (preOf (bodyOf fn)) S0 XA WA) (aA : XA.m = k + 1 ∧ XA.ins = (cellsOf ss).map kindC ++ [some .i64] ∧ XA.rows = [⟨.symi .i64 k, []⟩])
    (sB : SegOk P tab n [loopOf (bodyOf fn)] S1 XB WB) (aB : XB.m = q + cl.length ∧ XB.ins = insq ++ cl.map kindC ∧ XB.rows = [⟨.symi .i64 1, [(.symi .i64 0, elCells q cl)]⟩])
    (sC : SegOk P tab n (postOf (bodyOf fn)) S2 XC WC) (aC : XC.ins = ins2 ∧ XC.rows = [])
    (hJ : ∀ l σ τ, Agree q σ τ → J l σ → J l τ) (hK : ∀ l σ τ, Agree XC.m σ τ → K l σ → K l τ)
    (oA : ∀ (l : List Int) (τ : Sig), InR (cellsOf ss) l → Eqs τ XA.m XA.G → τ.tab = tab → InsOk τ XA.m XA.ins → (∀ i, i < k → τ.ival i = l.getD i 0) → segsW τ (fun x s σ2 => x = .normal ∧ s = S1 ∧ σ2.ival 0 = 0 ∧ σ2.ival 1 = τ.ival k ∧ InsOk σ2 q insq ∧ J l σ2 ∧ σ2.tab = tab ∧ σ2.ext = τ.ext) WA [])
    (oB : ∀ (l : List Int) (τ : Sig), InR (cellsOf ss) l → Eqs τ XB.m XB.G → τ.tab = tab → InsOk τ XB.m XB.ins → 0 ≤ τ.ival 0 → τ.ival 0 ≤ τ.ival 1 → τ.ival 1 ≤ 9223372036854775807 → J l τ →
      segsW τ (fun x s σ2 => (x = .normal ∧ s = S1 ∧ τ.ival 0 < τ.ival 1 ∧ σ2.ival 0 = τ.ival 0 + 1 ∧ σ2.ival 1 = τ.ival 1 ∧ InsOk σ2 q insq ∧ J l σ2 ∧ σ2.tab = tab ∧ σ2.ext = τ.ext) ∨ (x = .exit (idOf (bodyOf fn)) ∧ s = S2 ∧ InsOk σ2 XC.m ins2 ∧ K l σ2 ∧ σ2.tab = tab)) WB [])
    (oC : ∀ (l : List Int) (τ : Sig), InR (cellsOf ss) l → Eqs τ XC.m XC.G → τ.tab = tab → InsOk τ XC.m ins2 → K l τ → segsW τ (fun x s σ2 => (x = .ret ∨ x = .normal) ∧ s = SE ∧ OutOk σ2 [.one .b] (packA vs) [1]) WC [])
    {W : World} {v : Value} {X : Fz} (hX : RowV W cl v X) {l : List Int} (hl0 : InR (cellsOf ss) l) : Calls P f (encS ss l ++ [v]).toArray W fun e W' => e = .returned (.bool true) ∧ Below W.heap.size W W' := by
  refine calls_body hf hb ?_
  rw [hn]
  refine cut_of hcut ?_
  have hlen0 := inR_length hl0
  let σ0 : Sig := ⟨fun i => if i = k then (X.len : Int) else l.getD i 0, fun i => !(l.getD i 0 == 0), fun _ => .empty, tab, fun i => if i = 0 then some X else none⟩
  have hx0 : ∀ i Y, σ0.ext i = some Y → Y = X := by
    intro i Y h
    have h : (if i = 0 then some X else none) = some Y := h
    split at h
    · cases h; rfl
    · cases h
  have hA0 : At tab S0 n σ0 W { tmps := (encS ss l ++ [v]).toArray ++ Array.replicate (n - (encS ss l ++ [v]).toArray.size) undef, defers := [] } W := by
    subst hS0
    refine at_start (tab := tab) (args := symSh ss 0 ++ [.row 0]) (args' := (encS ss l ++ [v]).toArray) rfl (lrel_append (.cons _ _ _ _ (hX.rel ⟨fun _ => none, σ0, fun _ => none⟩ 0 rfl) .nil) ?_) (by simpa using hna l) W ?_
    · refine symSh_rel ss l 0 hl0 (fun i hi => ?_)
      rw [Nat.zero_add]
      have : i ≠ k := by omega
      exact ⟨by show (if i = k then _ else _) = _; rw [if_neg this], rfl⟩
    · intro i Y h hl
      have := hx0 i Y h
      subst this
      exact hX.ok hl
  have hl := hX.len
  have hin0 : InsOk σ0 XA.m XA.ins := by
    intro i kk hi hkk
    rw [aA.1] at hi
    rw [aA.2.1] at hkk
    by_cases hik : i = k
    · subst hik
      rw [List.getElem?_append_right (by simp [hk])] at hkk
      simp only [List.length_map, hk, Nat.sub_self, List.getElem?_cons_zero, Option.getD_some, Option.some.injEq] at hkk
      subst hkk
      show IntKind.i64.wrap (if i = i then (X.len : Int) else _) = if i = i then (X.len : Int) else _
      rw [if_pos rfl]
      simp [IntKind.wrap, IntKind.bits, IntKind.signed]; omega
    · rw [List.getElem?_append_left (by simp [hk]; omega), List.getElem?_map] at hkk
      show kk.wrap (if i = k then (X.len : Int) else _) = if i = k then (X.len : Int) else _
      rw [if_neg hik]
      refine inR_get hl0 i kk ?_
      cases hc : (cellsOf ss)[i]? with
      | none => rw [hc] at hkk; simp at hkk
      | some c =>
        rw [hc] at hkk
        cases c with
        | i k' => simp [kindC] at hkk; rw [hkk]
        | b => simp [kindC] at hkk
  have agA := agree_solve XA.G XA.m σ0
  have hrA : RowsOk (solve XA.G XA.m σ0) XA.rows := by
    rw [aA.2.2]
    intro i r Y hr hY
    rw [← agA.ext] at hY
    have := hx0 i Y hY
    subst this
    have hr0 : i = 0 := by
      cases i with
      | zero => rfl
      | succ i => simp at hr
    subst hr0
    simp only [List.getElem?_cons_zero, Option.some.injEq] at hr
    subst hr
    refine ⟨?_, fun p hp => by cases hp⟩
    show AVal.int .i64 _ = _
    rw [← (agA.val k (by rw [aA.1]; omega)).1]
    show AVal.int .i64 (if k = k then _ else _) = _
    rw [if_pos rfl]
  have eqA : Eqs (solve XA.G XA.m σ0) XA.m XA.G := eqs_solve sA.ok
  have inA : InsOk (solve XA.G XA.m σ0) XA.m XA.ins := by
    intro i k hi hk
    rw [← (agA.val i hi).1]; exact hin0 i k hi hk
  refine sA.run hm hA0 hin0 hrA (oA l _ hl0 eqA (by rw [← agA.tab]) inA (fun i hi => by
    rw [← (agA.val i (by rw [aA.1]; omega)).1]
    show (if i = k then (X.len : Int) else _) = _
    rw [if_neg (by omega)])) ?_
  rintro e a w x s2 σ1 hx ⟨rfl, rfl, h0, h1, hins, hj, htab, hext⟩ hA1
  cases e <;> simp only [SExRel] at hx
  have h1 : σ1.ival 1 = X.len := by
    rw [h1, ← (agA.val k (by rw [aA.1]; omega)).1]
    show (if k = k then (X.len : Int) else _) = _
    rw [if_pos rfl]
  have hext : σ1.ext = σ0.ext := by rw [hext, ← agA.ext]
  show (Code.block _ (.loop _)).wpIn (FR none) 0 P _ a w
  refine wpIn_block ?_
  let Inv : Nat → Act → World → Prop := fun kz a w => ∃ σ, At tab s2 n σ W a w ∧ InsOk σ q insq ∧ J l σ ∧ σ.tab = tab ∧ σ.ext = σ0.ext ∧ σ.ival 1 = X.len ∧ 0 ≤ σ.ival 0 ∧ σ.ival 0 ≤ X.len ∧ (kz : Int) = X.len - σ.ival 0
  refine loop_at (Inv := Inv) ?_ X.len a w ⟨σ1, hA1, hins, hj, htab, hext, h1, by omega, by omega, by omega⟩
  clear hA1 hins hj htab hext h0 h1 a w
  rintro kz a w ⟨σ, hA, hins, hj, htab, hext, h1, h0, h0', hkz⟩
  have ag0 := elSig_agree σ q X
  have hAe := hA.agree hid1 ag0
  have hinse := elSig_ins hX hq hins
  rw [← aB.1, ← aB.2.1] at hinse
  have agB := agree_solve XB.G XB.m (elSig σ q X)
  have hrB : RowsOk (solve XB.G XB.m (elSig σ q X)) XB.rows := by
    rw [aB.2.2]
    exact elSig_rows hX h2q (by rw [← aB.1]; exact agB) (fun i Y h => hx0 i Y (by rw [← hext]; exact h)) h0 h1
  have hq0 : 0 < XB.m := by rw [aB.1]; omega
  have hq1 : 1 < XB.m := by rw [aB.1]; omega
  have s0 : (solve XB.G XB.m (elSig σ q X)).ival 0 = σ.ival 0 := by rw [← (agB.val 0 hq0).1]; simp [elSig, show 0 < q by omega]
  have s1 : (solve XB.G XB.m (elSig σ q X)).ival 1 = σ.ival 1 := by rw [← (agB.val 1 hq1).1]; simp [elSig, show 1 < q by omega]
  have stab : (solve XB.G XB.m (elSig σ q X)).tab = tab := by rw [← agB.tab]; exact htab
  have sext : (solve XB.G XB.m (elSig σ q X)).ext = σ0.ext := by rw [← agB.ext]; exact hext
  have inB : InsOk (solve XB.G XB.m (elSig σ q X)) XB.m XB.ins := by
    intro i k hi hk
    rw [← (agB.val i hi).1]; exact hinse i k hi hk
  have ob := oB l _ hl0 (eqs_solve sB.ok) stab inB (by rw [s0]; exact h0) (by rw [s0, s1, h1]; exact h0') (by rw [s1, h1]; exact hl)
    (hJ _ _ _ (agB.less (by rw [aB.1]; omega)) (hJ _ _ _ ag0 hj))
  have := sB.run hm hAe hinse hrB ob (K := fun a' w' => ∃ k', k' < kz ∧ Inv k' a' w')
    (Z := fun e a' w' => (e = .normal ∧ ∃ k', k' < kz ∧ Inv k' a' w') ∨ (e ≠ .normal ∧ Exit.inBlock (idOf (bodyOf fn)) (Exit.then (chainK P (postOf (bodyOf fn)) (bodyPost P fn (fun e W' => e = .returned (encR [.one .b] [1]) ∧ Below W.heap.size W W') .normal) (bodyPost P fn (fun e W' => e = .returned (encR [.one .b] [1]) ∧ Below W.heap.size W W'))) (bodyPost P fn (fun e W' => e = .returned (encR [.one .b] [1]) ∧ Below W.heap.size W W'))) e a' w')) ?_
  · simp only [chainK] at this
    refine wpIn_mono this fun e a' w' h => ?_
    cases e with
    | normal => exact .inl ⟨rfl, h⟩
    | _ => exact h
  · rintro e a' w' x s3 σ3 hx hq0 hA3
    rcases hq0 with ⟨rfl, rfl, hlt, g0, g1, gins, gj, gtab, gext⟩ | ⟨rfl, rfl, gins, gk, gtab⟩
    · cases e <;> simp only [SExRel] at hx
      rw [s0] at g0 hlt
      rw [s1, h1] at g1 hlt
      exact ⟨kz - 1, by omega, σ3, hA3, gins, gj, gtab, by rw [gext, sext], g1, by omega, by omega, by omega⟩
    · cases e <;> simp only [SExRel] at hx
      subst hx
      refine .inr ⟨by simp, ?_⟩
      simp only [Exit.inBlock, if_true]
      show chainK P (postOf (bodyOf fn)) _ _ a' w'
      have agC := agree_solve XC.G XC.m σ3
      have inC : InsOk (solve XC.G XC.m σ3) XC.m ins2 := by
        intro i k hi hk
        rw [← (agC.val i hi).1]; exact gins i k hi hk
      refine sC.run hm hA3 (by rw [aC.1]; exact gins) (by rw [aC.2]; exact rows_nil) (oC l _ hl0 (eqs_solve sC.ok) (by rw [← agC.tab]; exact gtab) inC (hK _ _ _ agC gk)) ?_
      rintro e2 a2 w2 x2 s4 σ4 hx2 ⟨hh, rfl, gd⟩ hA4
      rw [then_self]
      refine at_end_res hSE hA4 gd ?_
      rcases hh with rfl | rfl
      · exact .inl hx2
      · exact .inr hx2

/-- A law of a row that goes to one call alone, of numbers, and a loop of its own. -/
theorem row_loop {P : Program} {f : FuncId} {fn : Func} {tab : TabF} {cl : List Cl} {ss : List Sh} {ecl : List Cl} {q n : Nat} {insq ins2 : List (Option IntKind)} {S1 S2 SE : Shape} {XA XB XC : Ing} {WA WB WC : Sw} {J K : Sig → Prop} {μ : Sig → Nat} {vs : List AVal} {l e : List Int} {Y : Fz}
    (hm : P.follows .mixedOrders = true) (hf : P.funcs[f]? = some fn) (hb : fn.body = some (bodyOf fn)) (hn : fn.ntmps = n) (hcut : (cutC (bodyOf fn)).isSome = true) (hna : (encS ss l).length + 1 ≤ n)
    (hXA : XA.n = 0 ∧ XA.rows = [] ∧ XA.cuts = [] ∧ XA.m = (cellsOf ss ++ ecl).length ∧ XA.ins = (cellsOf ss ++ ecl).map kindC ∧ XA.inv = rowInv Y XA.m (l ++ e) ∧ XA.tab = tab)
    (hG : okG XA.G XA.m = true) (hT : okLT XA.m XA.G XA.T = true) (hh : ∀ F, Hooks P (cxOf XA F)) (hid : idOk ⟨argT 0 (.row 0 :: symSh ss 0), []⟩ XA.m = true) (hkt : okKt XA = true)
    (hA : okSw (runOf P XA (preOf (bodyOf fn)) ⟨argT 0 (.row 0 :: symSh ss 0), []⟩ n) WA [] = true)
    (hSE : resA P (tmOf SE n) SE.heap fn.results.toList = some vs)
    (sB : SegOk P tab n [loopOf (bodyOf fn)] S1 XB WB) (aB : XB.m = q ∧ XB.ins = insq ∧ XB.rows = [])
    (sC : SegOk P tab n (postOf (bodyOf fn)) S2 XC WC) (aC : XC.ins = ins2 ∧ XC.rows = [])
    (hl : InR (cellsOf ss) l) (he : InR ecl e)
    (hJ : ∀ σ τ, Agree q σ τ → J σ → J τ) (hK : ∀ σ τ, Agree XC.m σ τ → K σ → K τ) (hμ : ∀ σ τ, Agree q σ τ → μ σ = μ τ)
    (oA : ∀ τ : Sig, Eqs τ XA.m XA.G → τ.tab = tab → InsOk τ XA.m XA.ins → (∀ i, i < XA.m → τ.ival i = (l ++ e).getD i 0) → segsW τ (fun x s σ2 => x = .normal ∧ s = S1 ∧ InsOk σ2 q insq ∧ J σ2 ∧ σ2.tab = tab) WA [])
    (oB : ∀ τ : Sig, Eqs τ q XB.G → τ.tab = tab → InsOk τ q insq → J τ →
      segsW τ (fun x s σ2 => (x = .normal ∧ s = S1 ∧ InsOk σ2 q insq ∧ J σ2 ∧ σ2.tab = tab ∧ μ σ2 < μ τ) ∨ (x = .exit (idOf (bodyOf fn)) ∧ s = S2 ∧ InsOk σ2 XC.m ins2 ∧ K σ2 ∧ σ2.tab = tab)
        ∨ (x = .ret ∧ s = SE ∧ OutOk σ2 [.one .b] (packA vs) [1])) WB [])
    (oC : ∀ τ : Sig, Eqs τ XC.m XC.G → τ.tab = tab → InsOk τ XC.m ins2 → K τ → segsW τ (fun x s σ2 => (x = .ret ∨ x = .normal) ∧ s = SE ∧ OutOk σ2 [.one .b] (packA vs) [1]) WC [])
    {W : World} {v : Value} (hY : RowV W cl v Y) : Calls P f (v :: encS ss l).toArray W fun e W' => e = .returned (.bool true) ∧ Below W.heap.size W W' := by
  obtain ⟨x1, x2, x3, x4, x5, x6, x7⟩ := hXA
  refine calls_body hf hb ?_
  rw [hn]
  refine cut_of hcut ?_
  have hr : InR (cellsOf ss ++ ecl) (l ++ e) := inR_append hl he
  have hlen : (l ++ e).length = XA.m := by rw [x4, inR_length hr]
  have hA0 : At XA.tab ⟨argT 0 (.row 0 :: symSh ss 0), []⟩ n (sigRow tab Y (l ++ e)) W { tmps := (v :: encS ss l).toArray ++ Array.replicate (n - (v :: encS ss l).toArray.size) undef, defers := [] } W := by
    refine at_start (tab := XA.tab) (args := .row 0 :: symSh ss 0) (args' := (v :: encS ss l).toArray) x7.symm (.cons _ _ _ _ (hY.rel _ 0 rfl) ?_) (by simpa using hna) W ?_
    · exact symSh_row ss l e hl (fun i hi => ⟨rfl, rfl⟩)
    · intro i Z hz hl
      have hz : (if i = 0 then some Y else none) = some Z := hz
      split at hz
      · cases hz; exact hY.ok hl
      · cases hz
  have ag := agree_solve XA.G XA.m (sigRow tab Y (l ++ e))
  have hin0 : InsOk (sigRow tab Y (l ++ e)) XA.m XA.ins := by
    intro i k hi hk
    rw [x5] at hk
    refine inR_get hr i k ?_
    rw [List.getElem?_map] at hk
    cases hc : (cellsOf ss ++ ecl)[i]? with
    | none => rw [hc] at hk; simp at hk
    | some c =>
      rw [hc] at hk
      cases c with
      | i k' => simp [kindC] at hk; rw [hk]
      | b => simp [kindC] at hk
  have inA : InsOk (solve XA.G XA.m (sigRow tab Y (l ++ e))) XA.m XA.ins := by
    intro i k hi hk
    rw [← (ag.val i hi).1]; exact hin0 i k hi hk
  have hinv : XA.inv (solve XA.G XA.m (sigRow tab Y (l ++ e))) := by
    rw [x6]
    refine ⟨?_, fun i hi => ?_⟩
    · rw [← ag.ext]; rfl
    · rw [← (ag.val i hi).1, ← (ag.val i hi).2.1]; exact ⟨rfl, rfl⟩
  refine segL (c := preOf (bodyOf fn)) (X := XA) (W := WA) (Q0 := fun x s σ2 => x = .normal ∧ s = S1 ∧ InsOk σ2 q insq ∧ J σ2 ∧ σ2.tab = tab) hm hT hG hh x1 hid hA hA0 hin0 (oA _ (eqs_solve hG) (by rw [← ag.tab]; rfl) inA (fun i hi => (ag.val i hi).1.symm)) ?_ (by rw [x2]; exact rows_nil) (by rw [x3]; exact cuts_nil) hinv hkt
  rw [x7]
  rintro e a w x s2 σ1 hx ⟨rfl, rfl, hins, hj, htab⟩ hA1
  cases e <;> simp only [SExRel] at hx
  show (Code.block _ (.loop _)).wpIn (FR none) 0 P _ a w
  refine wpIn_block ?_
  let Inv : Nat → Act → World → Prop := fun k a w => ∃ σ, At tab s2 n σ W a w ∧ InsOk σ q insq ∧ J σ ∧ σ.tab = tab ∧ k = μ σ
  refine loop_at (Inv := Inv) ?_ (μ σ1) a w ⟨σ1, hA1, hins, hj, htab, rfl⟩
  clear hA1 hins hj htab a w
  rintro k a w ⟨σ, hA, hins, hj, htab, rfl⟩
  have agB := agree_solve XB.G XB.m σ
  have hinB : InsOk σ XB.m XB.ins := by rw [aB.1, aB.2.1]; exact hins
  have agq : Agree q σ (solve XB.G XB.m σ) := by rw [aB.1] at agB ⊢; exact agB
  have inB : InsOk (solve XB.G XB.m σ) q insq := by
    intro i k hi hk
    rw [← (agq.val i hi).1]; exact hins i k hi hk
  have ob := oB _ (by rw [← aB.1]; exact eqs_solve sB.ok) (by rw [← agB.tab]; exact htab) inB (hJ _ _ agq hj)
  have := sB.run hm hA hinB (by rw [aB.2.2]; exact rows_nil) ob (K := fun a' w' => ∃ k', k' < μ σ ∧ Inv k' a' w')
    (Z := fun e a' w' => (e = .normal ∧ ∃ k', k' < μ σ ∧ Inv k' a' w') ∨ (e ≠ .normal ∧ Exit.inBlock (idOf (bodyOf fn)) (Exit.then (chainK P (postOf (bodyOf fn)) (bodyPost P fn (fun e W' => e = .returned (encR [.one .b] [1]) ∧ Below W.heap.size W W') .normal) (bodyPost P fn (fun e W' => e = .returned (encR [.one .b] [1]) ∧ Below W.heap.size W W'))) (bodyPost P fn (fun e W' => e = .returned (encR [.one .b] [1]) ∧ Below W.heap.size W W'))) e a' w')) ?_
  · simp only [chainK] at this
    refine wpIn_mono this fun e a' w' h => ?_
    cases e with
    | normal => exact .inl ⟨rfl, h⟩
    | _ => exact h
  · rintro e a' w' x s3 σ3 hx hq0 hA3
    rcases hq0 with ⟨rfl, rfl, gins, gj, gtab, glt⟩ | ⟨rfl, rfl, gins, gk, gtab⟩ | ⟨rfl, rfl, gd⟩
    · cases e <;> simp only [SExRel] at hx
      exact ⟨μ σ3, by rw [hμ _ _ agq]; exact glt, σ3, hA3, gins, gj, gtab, rfl⟩
    · cases e <;> simp only [SExRel] at hx
      subst hx
      refine .inr ⟨by simp, ?_⟩
      simp only [Exit.inBlock, if_true]
      show chainK P (postOf (bodyOf fn)) _ _ a' w'
      have agC := agree_solve XC.G XC.m σ3
      have inC : InsOk (solve XC.G XC.m σ3) XC.m ins2 := by
        intro i k hi hk
        rw [← (agC.val i hi).1]; exact gins i k hi hk
      refine sC.run hm hA3 (by rw [aC.1]; exact gins) (by rw [aC.2]; exact rows_nil) (oC _ (eqs_solve sC.ok) (by rw [← agC.tab]; exact gtab) inC (hK _ _ agC gk)) ?_
      rintro e2 a2 w2 x2 s4 σ4 hx2 ⟨hh, rfl, gd⟩ hA4
      rw [then_self]
      refine at_end_res hSE hA4 gd ?_
      rcases hh with rfl | rfl
      · exact .inl hx2
      · exact .inr hx2
    · cases e <;> simp only [SExRel] at hx
      refine .inr ⟨by simp, ?_⟩
      exact at_end_res (e := .ret) hSE hA3 gd (.inl trivial)
end Go.Ev
