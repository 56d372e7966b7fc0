/- A walk over a row whose loop has a family of shapes. -/
import Derived.Test.YtgifnmiggloclabEwZl
namespace Go.Ev
open Go.RowKit
set_option linter.unusedVariables false
set_option linter.unusedSimpArgs false
set_option linter.unnecessarySimpa false

/-- A call with numbers and one row behind them, and a loop over the row that counts in unknown 0 (its length is unknown 1); the shapes at the loop's head are a family. -/
theorem rows_walkF {ι : Type} {P : Program} {f : FuncId} {fn : Func} {tab : TabF} {ss : List Sh} {cl : List Cl} {q k n : Nat} {insq ins2 : List (Option IntKind)} {S0 S2 SE : Shape} {S1 : ι → Shape} {XA XB XC : Ing} {WB : ι → Sw} {WA WC : Sw} {J : List Int → ι → Sig → Prop} {K : List Int → Sig → Prop} {vs : List AVal}
    (hm : P.follows .mixedOrders = true) (hf : P.funcs[f]? = some fn) (hb : fn.body = some (bodyOf fn)) (hn : fn.ntmps = n) (hcut : (cutC (bodyOf fn)).isSome = true)
    (hq : insq.length = q) (h2q : 2 ≤ q) (hk : (cellsOf ss).length = k) (hS0 : S0 = ⟨argT 0 (symSh ss 0 ++ [.row 0]), []⟩) (hna : ∀ l : List Int, (encS ss l).length + 1 ≤ n) (hid1 : ∀ i, idOk (S1 i) q = true) (hSE : resA P (tmOf SE n) SE.heap fn.results.toList = some vs)
    (sA : SegOk P tab n (preOf (bodyOf fn)) S0 XA WA) (aA : XA.m = k + 1 ∧ XA.ins = (cellsOf ss).map kindC ++ [some .i64] ∧ XA.rows = [⟨.symi .i64 k, []⟩])
    (sB : ∀ i l τ, J l i τ → SegOk P tab n [loopOf (bodyOf fn)] (S1 i) XB (WB i)) (aB : XB.m = q + cl.length ∧ XB.ins = insq ++ cl.map kindC ∧ XB.rows = [⟨.symi .i64 1, [(.symi .i64 0, elCells q cl)]⟩])
    (sC : SegOk P tab n (postOf (bodyOf fn)) S2 XC WC) (aC : XC.ins = ins2 ∧ XC.rows = [])
    (hJ : ∀ l i σ τ, Agree q σ τ → J l i σ → J l i τ) (hK : ∀ l σ τ, Agree XC.m σ τ → K l σ → K l τ)
    (oA : ∀ (l : List Int) (τ : Sig), InR (cellsOf ss) l → Eqs τ XA.m XA.G → τ.tab = tab → InsOk τ XA.m XA.ins → (∀ i, i < k → τ.ival i = l.getD i 0) → segsW τ (fun x s σ2 => x = .normal ∧ ∃ i, s = S1 i ∧ σ2.ival 0 = 0 ∧ σ2.ival 1 = τ.ival k ∧ InsOk σ2 q insq ∧ J l i σ2 ∧ σ2.tab = tab ∧ σ2.ext = τ.ext) WA [])
    (oB : ∀ (i : ι) (l : List Int) (τ : Sig), InR (cellsOf ss) l → Eqs τ XB.m XB.G → τ.tab = tab → InsOk τ XB.m XB.ins → 0 ≤ τ.ival 0 → τ.ival 0 ≤ τ.ival 1 → τ.ival 1 ≤ 9223372036854775807 → J l i τ →
      segsW τ (fun x s σ2 => (x = .normal ∧ (∃ j, s = S1 j ∧ J l j σ2) ∧ τ.ival 0 < τ.ival 1 ∧ σ2.ival 0 = τ.ival 0 + 1 ∧ σ2.ival 1 = τ.ival 1 ∧ InsOk σ2 q insq ∧ σ2.tab = tab ∧ σ2.ext = τ.ext) ∨ (x = .exit (idOf (bodyOf fn)) ∧ s = S2 ∧ InsOk σ2 XC.m ins2 ∧ K l σ2 ∧ σ2.tab = tab)) (WB i) [])
    (oC : ∀ (l : List Int) (τ : Sig), InR (cellsOf ss) l → Eqs τ XC.m XC.G → τ.tab = tab → InsOk τ XC.m ins2 → K l τ → segsW τ (fun x s σ2 => (x = .ret ∨ x = .normal) ∧ s = SE ∧ OutOk σ2 [.one .b] (packA vs) [1]) WC [])
    {W : World} {v : Value} {X : Fz} (hX : RowV W cl v X) {l : List Int} (hl0 : InR (cellsOf ss) l) : Calls P f (encS ss l ++ [v]).toArray W fun e W' => e = .returned (.bool true) ∧ Below W.heap.size W W' := by
  refine calls_body hf hb ?_
  rw [hn]
  refine cut_of hcut ?_
  have hlen0 := inR_length hl0
  let σ0 : Sig := ⟨fun i => if i = k then (X.len : Int) else l.getD i 0, fun i => !(l.getD i 0 == 0), fun _ => .empty, tab, fun i => if i = 0 then some X else none⟩
  have hx0 : ∀ i Y, σ0.ext i = some Y → Y = X := by
    intro i Y h
    have h : (if i = 0 then some X else none) = some Y := h
    split at h
    · cases h; rfl
    · cases h
  have hA0 : At tab S0 n σ0 W { tmps := (encS ss l ++ [v]).toArray ++ Array.replicate (n - (encS ss l ++ [v]).toArray.size) undef, defers := [] } W := by
    subst hS0
    refine at_start (tab := tab) (args := symSh ss 0 ++ [.row 0]) (args' := (encS ss l ++ [v]).toArray) rfl (lrel_append (.cons _ _ _ _ (hX.rel ⟨fun _ => none, σ0, fun _ => none⟩ 0 rfl) .nil) ?_) (by simpa using hna l) W ?_
    · refine symSh_rel ss l 0 hl0 (fun i hi => ?_)
      rw [Nat.zero_add]
      have : i ≠ k := by omega
      exact ⟨by show (if i = k then _ else _) = _; rw [if_neg this], rfl⟩
    · intro i Y h hl
      have := hx0 i Y h
      subst this
      exact hX.ok hl
  have hl := hX.len
  have hin0 : InsOk σ0 XA.m XA.ins := by
    intro i kk hi hkk
    rw [aA.1] at hi
    rw [aA.2.1] at hkk
    by_cases hik : i = k
    · subst hik
      rw [List.getElem?_append_right (by simp [hk])] at hkk
      simp only [List.length_map, hk, Nat.sub_self, List.getElem?_cons_zero, Option.getD_some, Option.some.injEq] at hkk
      subst hkk
      show IntKind.i64.wrap (if i = i then (X.len : Int) else _) = if i = i then (X.len : Int) else _
      rw [if_pos rfl]
      simp [IntKind.wrap, IntKind.bits, IntKind.signed]; omega
    · rw [List.getElem?_append_left (by simp [hk]; omega), List.getElem?_map] at hkk
      show kk.wrap (if i = k then (X.len : Int) else _) = if i = k then (X.len : Int) else _
      rw [if_neg hik]
      refine inR_get hl0 i kk ?_
      cases hc : (cellsOf ss)[i]? with
      | none => rw [hc] at hkk; simp at hkk
      | some c =>
        rw [hc] at hkk
        cases c with
        | i k' => simp [kindC] at hkk; rw [hkk]
        | b => simp [kindC] at hkk
  have agA := agree_solve XA.G XA.m σ0
  have hrA : RowsOk (solve XA.G XA.m σ0) XA.rows := by
    rw [aA.2.2]
    intro i r Y hr hY
    rw [← agA.ext] at hY
    have := hx0 i Y hY
    subst this
    have hr0 : i = 0 := by
      cases i with
      | zero => rfl
      | succ i => simp at hr
    subst hr0
    simp only [List.getElem?_cons_zero, Option.some.injEq] at hr
    subst hr
    refine ⟨?_, fun p hp => by cases hp⟩
    show AVal.int .i64 _ = _
    rw [← (agA.val k (by rw [aA.1]; omega)).1]
    show AVal.int .i64 (if k = k then _ else _) = _
    rw [if_pos rfl]
  have eqA : Eqs (solve XA.G XA.m σ0) XA.m XA.G := eqs_solve sA.ok
  have inA : InsOk (solve XA.G XA.m σ0) XA.m XA.ins := by
    intro i k hi hk
    rw [← (agA.val i hi).1]; exact hin0 i k hi hk
  refine sA.run hm hA0 hin0 hrA (oA l _ hl0 eqA (by rw [← agA.tab]) inA (fun i hi => by
    rw [← (agA.val i (by rw [aA.1]; omega)).1]
    show (if i = k then (X.len : Int) else _) = _
    rw [if_neg (by omega)])) ?_
  rintro e a w x s2 σ1 hx ⟨rfl, ix, rfl, h0, h1, hins, hj, htab, hext⟩ hA1
  cases e <;> simp only [SExRel] at hx
  have h1 : σ1.ival 1 = X.len := by
    rw [h1, ← (agA.val k (by rw [aA.1]; omega)).1]
    show (if k = k then (X.len : Int) else _) = _
    rw [if_pos rfl]
  have hext : σ1.ext = σ0.ext := by rw [hext, ← agA.ext]
  show (Code.block _ (.loop _)).wpIn (FR none) 0 P _ a w
  refine wpIn_block ?_
  let Inv : Nat → Act → World → Prop := fun kz a w => ∃ ix σ, At tab (S1 ix) n σ W a w ∧ InsOk σ q insq ∧ J l ix σ ∧ σ.tab = tab ∧ σ.ext = σ0.ext ∧ σ.ival 1 = X.len ∧ 0 ≤ σ.ival 0 ∧ σ.ival 0 ≤ X.len ∧ (kz : Int) = X.len - σ.ival 0
  refine loop_at (Inv := Inv) ?_ X.len a w ⟨ix, σ1, hA1, hins, hj, htab, hext, h1, by omega, by omega, by omega⟩
  clear hA1 hins hj htab hext h0 h1 a w ix
  rintro kz a w ⟨ix, σ, hA, hins, hj, htab, hext, h1, h0, h0', hkz⟩
  have ag0 := elSig_agree σ q X
  have hAe := hA.agree (hid1 ix) ag0
  have sB := sB ix l σ hj
  have hinse := elSig_ins hX hq hins
  rw [← aB.1, ← aB.2.1] at hinse
  have agB := agree_solve XB.G XB.m (elSig σ q X)
  have hrB : RowsOk (solve XB.G XB.m (elSig σ q X)) XB.rows := by
    rw [aB.2.2]
    exact elSig_rows hX h2q (by rw [← aB.1]; exact agB) (fun i Y h => hx0 i Y (by rw [← hext]; exact h)) h0 h1
  have hq0 : 0 < XB.m := by rw [aB.1]; omega
  have hq1 : 1 < XB.m := by rw [aB.1]; omega
  have s0 : (solve XB.G XB.m (elSig σ q X)).ival 0 = σ.ival 0 := by rw [← (agB.val 0 hq0).1]; simp [elSig, show 0 < q by omega]
  have s1 : (solve XB.G XB.m (elSig σ q X)).ival 1 = σ.ival 1 := by rw [← (agB.val 1 hq1).1]; simp [elSig, show 1 < q by omega]
  have stab : (solve XB.G XB.m (elSig σ q X)).tab = tab := by rw [← agB.tab]; exact htab
  have sext : (solve XB.G XB.m (elSig σ q X)).ext = σ0.ext := by rw [← agB.ext]; exact hext
  have inB : InsOk (solve XB.G XB.m (elSig σ q X)) XB.m XB.ins := by
    intro i k hi hk
    rw [← (agB.val i hi).1]; exact hinse i k hi hk
  have ob := oB ix l _ hl0 (eqs_solve sB.ok) stab inB (by rw [s0]; exact h0) (by rw [s0, s1, h1]; exact h0') (by rw [s1, h1]; exact hl)
    (hJ _ _ _ _ (agB.less (by rw [aB.1]; omega)) (hJ _ _ _ _ ag0 hj))
  have := sB.run hm hAe hinse hrB ob (K := fun a' w' => ∃ k', k' < kz ∧ Inv k' a' w')
    (Z := fun e a' w' => (e = .normal ∧ ∃ k', k' < kz ∧ Inv k' a' w') ∨ (e ≠ .normal ∧ Exit.inBlock (idOf (bodyOf fn)) (Exit.then (chainK P (postOf (bodyOf fn)) (bodyPost P fn (fun e W' => e = .returned (encR [.one .b] [1]) ∧ Below W.heap.size W W') .normal) (bodyPost P fn (fun e W' => e = .returned (encR [.one .b] [1]) ∧ Below W.heap.size W W'))) (bodyPost P fn (fun e W' => e = .returned (encR [.one .b] [1]) ∧ Below W.heap.size W W'))) e a' w')) ?_
  · simp only [chainK] at this
    refine wpIn_mono this fun e a' w' h => ?_
    cases e with
    | normal => exact .inl ⟨rfl, h⟩
    | _ => exact h
  · rintro e a' w' x s3 σ3 hx hq0 hA3
    rcases hq0 with ⟨rfl, ⟨jx, rfl, gj⟩, hlt, g0, g1, gins, gtab, gext⟩ | ⟨rfl, rfl, gins, gk, gtab⟩
    · cases e <;> simp only [SExRel] at hx
      rw [s0] at g0 hlt
      rw [s1, h1] at g1 hlt
      exact ⟨kz - 1, by omega, jx, σ3, hA3, gins, gj, gtab, by rw [gext, sext], g1, by omega, by omega, by omega⟩
    · cases e <;> simp only [SExRel] at hx
      subst hx
      refine .inr ⟨by simp, ?_⟩
      simp only [Exit.inBlock, if_true]
      show chainK P (postOf (bodyOf fn)) _ _ a' w'
      have agC := agree_solve XC.G XC.m σ3
      have inC : InsOk (solve XC.G XC.m σ3) XC.m ins2 := by
        intro i k hi hk
        rw [← (agC.val i hi).1]; exact gins i k hi hk
      refine sC.run hm hA3 (by rw [aC.1]; exact gins) (by rw [aC.2]; exact rows_nil) (oC l _ hl0 (eqs_solve sC.ok) (by rw [← agC.tab]; exact gtab) inC (hK _ _ _ agC gk)) ?_
      rintro e2 a2 w2 x2 s4 σ4 hx2 ⟨hh, rfl, gd⟩ hA4
      rw [then_self]
      refine at_end_res hSE hA4 gd ?_
      rcases hh with rfl | rfl
      · exact .inl hx2
      · exact .inr hx2
end Go.Ev
