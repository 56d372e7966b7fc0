/- Stages: blocks, loops whose bodies are stages again, loops over a row; calls with a row. -/
import Derived.Test.YtlhaklmnjdgjgacGreatEwZk
namespace Go.Ev
open Go.RowKit
set_option linter.unusedVariables false
set_option linter.unusedSimpArgs false
set_option linter.unnecessarySimpa false

/-- what is asked of a block's inner code -/
def BlkZ (P : Program) (id : Nat) (c2 : List Code) (Z : Exit → Act → World → Prop) : Exit → Act → World → Prop :=
  Exit.inBlock id (Exit.then (chainK P c2 (Z .normal) Z) Z)

/-- what is asked of a loop's body -/
def LoopZ (P : Program) (id : Nat) (c2 : List Code) (Z : Exit → Act → World → Prop) (I : Nat → Act → World → Prop) (k : Nat) : Exit → Act → World → Prop :=
  fun e a w => (e = .normal ∧ ∃ k', k' < k ∧ I k' a w) ∨ (e ≠ .normal ∧ BlkZ P id c2 Z e a w)

def InvS (tab : TabF) (n : Nat) (W0 : World) (S : Shape) (q : Nat) (ins : List (Option IntKind)) (J : Sig → Prop) (μ : Sig → Nat) : Nat → Act → World → Prop :=
  fun k a w => ∃ σ, At tab S n σ W0 a w ∧ InsOk σ q ins ∧ J σ ∧ σ.tab = tab ∧ k = μ σ

theorem Stage.block {P : Program} {tab : TabF} {n : Nat} {W0 : World} {Z : Exit → Act → World → Prop} {id : Nat} {c : Code} {c2 : List Code} {S : Shape} {q : Nat} {ins : List (Option IntKind)} {J : Sig → Prop}
    (h : Stage P tab n W0 (BlkZ P id c2 Z) (flatC c) S q ins J) : Stage P tab n W0 Z (.block id c :: c2) S q ins J := by
  intro a w σ hA hi hj ht
  show (Code.block id c).wpIn (FR none) 0 P _ a w
  refine wpIn_block ?_
  have := flat_wp _ (h a w σ hA hi hj ht)
  rwa [then_self] at this

theorem EndZ.blk {P : Program} {tab : TabF} {n : Nat} {W0 : World} {Z : Exit → Act → World → Prop} {id : Nat} {c2 : List Code} {S : Shape} {q : Nat} {ins : List (Option IntKind)} {J : Sig → Prop} {x : SEx} {σ : Sig}
    (h : Stage P tab n W0 Z c2 S q ins J) (hx : x = .normal ∨ x = .exit id) (hi : InsOk σ q ins) (hj : J σ) (ht : σ.tab = tab) : EndZ tab n W0 (BlkZ P id c2 Z) x S σ := by
  intro e a w hxe hA
  have := h a w σ hA hi hj ht
  rcases hx with rfl | rfl
  · cases e <;> simp only [SExRel] at hxe
    exact this
  · cases e <;> simp only [SExRel] at hxe
    subst hxe
    simp only [BlkZ, Exit.inBlock, if_true]
    exact this

theorem EndZ.ret {P : Program} {tab : TabF} {n : Nat} {W0 : World} {Z : Exit → Act → World → Prop} {id : Nat} {c2 : List Code} {s : Shape} {σ : Sig}
    (h : EndZ tab n W0 Z .ret s σ) : EndZ tab n W0 (BlkZ P id c2 Z) .ret s σ := by
  intro e a w hxe hA
  have := h e a w hxe hA
  cases e <;> simp only [SExRel] at hxe
  exact this

theorem EndZ.loop {P : Program} {tab : TabF} {n : Nat} {W0 : World} {Z : Exit → Act → World → Prop} {id : Nat} {c2 : List Code} {S : Shape} {q : Nat} {ins : List (Option IntKind)} {J : Sig → Prop} {μ : Sig → Nat} {k : Nat} {σ : Sig}
    (hi : InsOk σ q ins) (hj : J σ) (ht : σ.tab = tab) (hk : μ σ < k) : EndZ tab n W0 (LoopZ P id c2 Z (InvS tab n W0 S q ins J μ) k) .normal S σ := by
  intro e a w hxe hA
  cases e <;> simp only [SExRel] at hxe
  exact .inl ⟨rfl, μ σ, hk, σ, hA, hi, hj, ht, rfl⟩

theorem EndZ.out {P : Program} {tab : TabF} {n : Nat} {W0 : World} {Z : Exit → Act → World → Prop} {id : Nat} {c2 : List Code} {I : Nat → Act → World → Prop} {k : Nat} {x : SEx} {s : Shape} {σ : Sig}
    (hx : x ≠ .normal) (h : EndZ tab n W0 (BlkZ P id c2 Z) x s σ) : EndZ tab n W0 (LoopZ P id c2 Z I k) x s σ := by
  intro e a w hxe hA
  refine .inr ⟨?_, h e a w hxe hA⟩
  rintro rfl
  cases x <;> simp only [SExRel] at hxe
  exact hx rfl

/-- A loop whose body is in stages. -/
theorem Stage.loopS {P : Program} {tab : TabF} {n : Nat} {W0 : World} {Z : Exit → Act → World → Prop} {b : Code} {id : Nat} {c2 : List Code} {S : Shape} {q : Nat} {ins : List (Option IntKind)} {J : Sig → Prop} {μ : Sig → Nat}
    (body : ∀ k, Stage P tab n W0 (LoopZ P id c2 Z (InvS tab n W0 S q ins J μ) k) (flatC b) S q ins (fun σ => J σ ∧ μ σ = k)) :
    Stage P tab n W0 Z (.block id (.loop b) :: c2) S q ins J := by
  intro a w σ hA hi hj ht
  show (Code.block id (.loop b)).wpIn (FR none) 0 P _ a w
  refine wpIn_block ?_
  refine loop_at (Inv := InvS tab n W0 S q ins J μ) ?_ (μ σ) a w ⟨σ, hA, hi, hj, ht, rfl⟩
  clear hA hi hj ht a w
  rintro k a w ⟨σ, hA, hi, hj, ht, rfl⟩
  have := flat_wp _ (body (μ σ) a w σ hA hi ⟨hj, rfl⟩ ht)
  rwa [then_self] at this

/-! ### Rows -/

/-- what came in: one row, its length is unknown 1, and unknown 0 counts -/
def RowHd (X : Fz) (σ : Sig) : Prop := (σ.ext = fun i => if i = 0 then some X else none) ∧ σ.ival 1 = X.len ∧ 0 ≤ σ.ival 0 ∧ σ.ival 0 ≤ X.len

/-- and the element at unknown 0 stands at q -/
def RowEl (q : Nat) (cl : List Cl) (X : Fz) (τ : Sig) : Prop := ∃ σ, Agree (q + cl.length) (elSig σ q X) τ ∧ RowHd X σ

theorem RowHd.agree {X : Fz} {q : Nat} (h2 : 2 ≤ q) {σ τ : Sig} (ag : Agree q σ τ) (h : RowHd X σ) : RowHd X τ := by
  unfold RowHd at h ⊢
  rw [← ag.ext, ← (ag.val 0 (by omega)).1, ← (ag.val 1 (by omega)).1]; exact h

theorem ext_one {X Y : Fz} {σ : Sig} (h : σ.ext = fun i => if i = 0 then some X else none) {i : Nat} (hi : σ.ext i = some Y) : Y = X := by
  rw [h] at hi
  have hi : (if i = 0 then some X else none) = some Y := hi
  split at hi
  · cases hi; rfl
  · cases hi

theorem rows_len {X : Fz} {σ : Sig} {k : Nat} (he : σ.ext = fun i => if i = 0 then some X else none) (hk : σ.ival k = X.len) : RowsOk σ [⟨.symi .i64 k, []⟩] := by
  intro i r Y hr hY
  have := ext_one he hY
  subst this
  have hr0 : i = 0 := by
    cases i with
    | zero => rfl
    | succ i => simp at hr
  subst hr0
  simp only [List.getElem?_cons_zero, Option.some.injEq] at hr
  subst hr
  exact ⟨by show AVal.int .i64 _ = _; rw [hk], fun p hp => by cases hp⟩

theorem RowEl.rows {W : World} {cl : List Cl} {v : Value} {X : Fz} (hX : RowV W cl v X) {q : Nat} (h2 : 2 ≤ q) {τ : Sig} (h : RowEl q cl X τ) : RowsOk τ [⟨.symi .i64 1, [(.symi .i64 0, elCells q cl)]⟩] := by
  obtain ⟨σ, ag, he, h1, h0, _⟩ := h
  exact elSig_rows hX h2 ag (fun i Y h => ext_one he h) h0 h1

theorem RowEl.hd {cl : List Cl} {X : Fz} {q : Nat} (h2 : 2 ≤ q) {τ : Sig} (h : RowEl q cl X τ) : RowHd X τ := by
  obtain ⟨σ, ag, he, h1, h0, h3⟩ := h
  refine ⟨by rw [← ag.ext]; exact he, ?_, ?_, ?_⟩
  · rw [← (ag.val 1 (by omega)).1]; simp [elSig, show 1 < q by omega, h1]
  · rw [← (ag.val 0 (by omega)).1]; simp [elSig, show 0 < q by omega, h0]
  · rw [← (ag.val 0 (by omega)).1]; simp [elSig, show 0 < q by omega, h3]

theorem Agree.trans' {q : Nat} {σ τ υ : Sig} (h1 : Agree q σ τ) (h2 : Agree q τ υ) : Agree q σ υ :=
  ⟨fun i hi => ⟨(h1.val i hi).1.trans (h2.val i hi).1, (h1.val i hi).2.1.trans (h2.val i hi).2.1, (h1.val i hi).2.2.trans (h2.val i hi).2.2⟩, h1.tab.trans h2.tab, h1.ext.trans h2.ext⟩

theorem RowEl.agree {cl : List Cl} {X : Fz} {q : Nat} {σ τ : Sig} (ag : Agree (q + cl.length) σ τ) (h : RowEl q cl X σ) : RowEl q cl X τ := by
  obtain ⟨υ, ag0, hd⟩ := h
  exact ⟨υ, ag0.trans' ag, hd⟩

/-- A loop over a row, its body in stages. -/
theorem Stage.rowLoop {P : Program} {tab : TabF} {n : Nat} {W0 : World} {Z : Exit → Act → World → Prop} {b : Code} {id : Nat} {c2 : List Code} {S : Shape} {q : Nat} {insq : List (Option IntKind)} {J : Sig → Prop} {cl : List Cl} {v : Value} {X : Fz} (hX : RowV W0 cl v X)
    (hq : insq.length = q) (h2 : 2 ≤ q) (hid : idOk S q = true) (hJ : ∀ σ τ, Agree q σ τ → J σ → J τ)
    (body : ∀ k, Stage P tab n W0 (LoopZ P id c2 Z (InvS tab n W0 S q insq (fun σ => RowHd X σ ∧ J σ) (fun σ => (X.len - σ.ival 0).toNat)) k) (flatC b) S (q + cl.length) (insq ++ cl.map kindC) (fun τ => RowEl q cl X τ ∧ J τ ∧ ((X.len : Int) - τ.ival 0).toNat = k)) :
    Stage P tab n W0 Z (.block id (.loop b) :: c2) S q insq (fun σ => RowHd X σ ∧ J σ) := by
  intro a w σ hA hi hj ht
  show (Code.block id (.loop b)).wpIn (FR none) 0 P _ a w
  refine wpIn_block ?_
  refine loop_at (Inv := InvS tab n W0 S q insq (fun σ => RowHd X σ ∧ J σ) (fun σ => ((X.len : Int) - σ.ival 0).toNat)) ?_ _ a w ⟨σ, hA, hi, hj, ht, rfl⟩
  clear hA hi hj ht a w
  rintro k a w ⟨σ, hA, hi, hj, ht, rfl⟩
  have ag := elSig_agree σ q X
  have h0 : (elSig σ q X).ival 0 = σ.ival 0 := by simp [elSig, show 0 < q by omega]
  have := flat_wp _ (body _ a w (elSig σ q X) (hA.agree hid ag) (elSig_ins hX hq hi) ⟨⟨σ, ⟨fun _ _ => ⟨rfl, rfl, rfl⟩, rfl, rfl⟩, hj.1⟩, hJ _ _ ag hj.2, by rw [h0]⟩ ht)
  rwa [then_self] at this

/-- A call of numbers and a row, in stages. -/
theorem calls_of_stageR {P : Program} {f : FuncId} {fn : Func} {tab : TabF} {ss : List Sh} {cl : List Cl} {k n : Nat} {R : Ending → World → Prop}
    (hf : P.funcs[f]? = some fn) (hb : fn.body = some (bodyOf fn)) (hn : fn.ntmps = n) (hk : (cellsOf ss).length = k) (hna : ∀ l : List Int, (encS ss l).length + 1 ≤ n)
    {W : World} {v : Value} {X : Fz} (hX : RowV W cl v X) {l : List Int} (hl0 : InR (cellsOf ss) l)
    (h : Stage P tab n W (bodyPost P fn R) (flatC (bodyOf fn)) ⟨argT 0 (symSh ss 0 ++ [.row 0]), []⟩ (k + 1) ((cellsOf ss).map kindC ++ [some .i64]) (fun σ => (∀ i, i < k → σ.ival i = l.getD i 0) ∧ (σ.ext = fun i => if i = 0 then some X else none) ∧ σ.ival k = X.len)) :
    Calls P f (encS ss l ++ [v]).toArray W R := by
  refine calls_body hf hb ?_
  rw [hn]
  have hlen0 := inR_length hl0
  let σ0 : Sig := ⟨fun i => if i = k then (X.len : Int) else l.getD i 0, fun i => !(l.getD i 0 == 0), fun _ => .empty, tab, fun i => if i = 0 then some X else none⟩
  have hA0 : At tab ⟨argT 0 (symSh ss 0 ++ [.row 0]), []⟩ n σ0 W { tmps := (encS ss l ++ [v]).toArray ++ Array.replicate (n - (encS ss l ++ [v]).toArray.size) undef, defers := [] } W := by
    refine at_start (tab := tab) (args := symSh ss 0 ++ [.row 0]) (args' := (encS ss l ++ [v]).toArray) rfl (lrel_append (.cons _ _ _ _ (hX.rel ⟨fun _ => none, σ0, fun _ => none⟩ 0 rfl) .nil) ?_) (by simpa using hna l) W ?_
    · refine symSh_rel ss l 0 hl0 (fun i hi => ?_)
      rw [Nat.zero_add]
      have : i ≠ k := by omega
      exact ⟨by show (if i = k then _ else _) = _; rw [if_neg this], rfl⟩
    · intro i Y h hl
      have := ext_one (σ := σ0) rfl h
      subst this
      exact hX.ok hl
  have hl := hX.len
  have hin0 : InsOk σ0 (k + 1) ((cellsOf ss).map kindC ++ [some .i64]) := by
    intro i kk hi hkk
    by_cases hik : i = k
    · subst hik
      rw [List.getElem?_append_right (by simp [hk])] at hkk
      simp only [List.length_map, hk, Nat.sub_self, List.getElem?_cons_zero, Option.getD_some, Option.some.injEq] at hkk
      subst hkk
      show IntKind.i64.wrap (if i = i then (X.len : Int) else _) = if i = i then (X.len : Int) else _
      rw [if_pos rfl]
      simp [IntKind.wrap, IntKind.bits, IntKind.signed]; omega
    · rw [List.getElem?_append_left (by simp [hk]; omega), List.getElem?_map] at hkk
      show kk.wrap (if i = k then (X.len : Int) else _) = if i = k then (X.len : Int) else _
      rw [if_neg hik]
      refine inR_get hl0 i kk ?_
      cases hc : (cellsOf ss)[i]? with
      | none => rw [hc] at hkk; simp at hkk
      | some c =>
        rw [hc] at hkk
        cases c with
        | i k' => simp [kindC] at hkk; rw [hkk]
        | b => simp [kindC] at hkk
  have := flat_wp _ (h _ _ σ0 hA0 hin0 ⟨fun i hi => by show (if i = k then _ else _) = _; rw [if_neg (by omega)], rfl, by show (if k = k then _ else _) = _; rw [if_pos rfl]⟩ rfl)
  rwa [then_self] at this

/-- A fork on a truth that the shape has. -/
theorem Stage.cond {P : Program} {tab : TabF} {n : Nat} {W0 : World} {Z : Exit → Act → World → Prop} {t k : Nat} {x y : Code} {c2 : List Code} {S : Shape} {q : Nat} {ins : List (Option IntKind)} {J : Sig → Prop}
    (hm : (t, .symb k) ∈ S.t)
    (h1 : Stage P tab n W0 Z (flatC x ++ c2) S q ins (fun σ => J σ ∧ σ.bval k = true)) (h2 : Stage P tab n W0 Z (flatC y ++ c2) S q ins (fun σ => J σ ∧ σ.bval k = false)) :
    Stage P tab n W0 Z (.cond (.tmp t) x y :: c2) S q ins J := by
  intro a w σ hA hi hj ht
  show (Code.cond (.tmp t) x y).wpIn (FR none) 0 P _ a w
  have he : a.eval (.tmp t) = .bool (σ.bval k) := by
    obtain ⟨g, rfl, _, hT, _⟩ := hA.ex
    obtain ⟨u, k1, k2⟩ := hT _ hm
    cases k2
    show a.tmps.getD t undef = _
    rw [Array.getD_eq_getD_getElem?, k1]; rfl
  refine wpIn_cond_split he (fun hb => ?_) (fun hb => ?_)
  · have := h1 a w σ hA hi ⟨hj, hb⟩ ht
    rw [chainK_append] at this
    exact flat_wp _ this
  · have := h2 a w σ hA hi ⟨hj, hb⟩ ht
    rw [chainK_append] at this
    exact flat_wp _ this

def allInt : List Cl → Bool
  | [] => true
  | .i _ :: r => allInt r
  | .b :: _ => false

theorem allInt_get : ∀ {cl : List Cl}, allInt cl = true → ∀ (j : Nat) (c : Cl), cl[j]? = some c → ∃ k, c = .i k
  | .i k :: r, h, 0, c, hc => by simp at hc; exact ⟨k, hc.symm⟩
  | .i k :: r, h, j + 1, c, hc => allInt_get (cl := r) h j c (by simpa using hc)
  | [], _, j, c, hc => by simp at hc
  | .b :: _, h, _, _, _ => by simp [allInt] at h

/-- The element at unknown 0 stands at q: the same for other unknowns, where these are the same. -/
theorem RowsOk.same {σ τ : Sig} {q : Nat} {cl : List Cl} (h : RowsOk σ [⟨.symi .i64 1, [(.symi .i64 0, elCells q cl)]⟩]) (hb : allInt cl = true) (he : τ.ext = σ.ext) (h0 : τ.ival 0 = σ.ival 0) (h1 : τ.ival 1 = σ.ival 1) (hk : ∀ j, j < cl.length → τ.ival (q + j) = σ.ival (q + j)) :
    RowsOk τ [⟨.symi .i64 1, [(.symi .i64 0, elCells q cl)]⟩] := by
  intro i r X hr hX
  have hr0 : i = 0 := by
    cases i with
    | zero => rfl
    | succ i => simp at hr
  subst hr0
  obtain ⟨g1, g2⟩ := h 0 _ X rfl (by rw [← he]; exact hX)
  simp only [List.getElem?_cons_zero, Option.some.injEq] at hr
  subst hr
  refine ⟨by show AVal.int .i64 (τ.ival 1) = _; rw [h1]; exact g1, fun p hp m hm hlt => ?_⟩
  simp only [List.mem_singleton] at hp
  subst hp
  obtain ⟨g3, g4⟩ := g2 (.symi .i64 0, elCells q cl) (List.mem_singleton.2 rfl) m (by rw [← hm]; show AVal.int .i64 (σ.ival 0) = AVal.int .i64 (τ.ival 0); rw [h0]) hlt
  refine ⟨g3, fun j c hc => ?_⟩
  rw [← g4 j c hc]
  obtain ⟨z, hz, rfl⟩ := elCells_get q cl j c hc
  obtain ⟨k, rfl⟩ := allInt_get hb j z hz
  show AVal.int k (τ.ival (q + j)) = AVal.int k (σ.ival (q + j))
  rw [hk j (List.getElem?_eq_some_iff.1 hz).1]

/-- the sides of the fork that is statement j -/
def yesAt (j : Nat) (c : Code) : Code :=
  match (flatC c)[j]? with
  | some (.cond _ x _) => x
  | _ => .skip
def noAt (j : Nat) (c : Code) : Code :=
  match (flatC c)[j]? with
  | some (.cond _ _ y) => y
  | _ => .skip

/-- the code of the block that is statement j -/
def blkAt (j : Nat) (c : Code) : Code :=
  match (flatC c)[j]? with
  | some (.block _ c) => c
  | _ => .skip
end Go.Ev
