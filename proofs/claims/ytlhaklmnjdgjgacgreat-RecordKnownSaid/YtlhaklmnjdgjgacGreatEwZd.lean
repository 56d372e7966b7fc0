/- A call with one row (a slice of flat elements), and a loop over it: the walk, from three pieces that are reckoned. -/
import Derived.Test.YtlhaklmnjdgjgacGreatEwZb
import Derived.Test.YtlhaklmnjdgjgacGreatEwZc
namespace Go.Ev
open Go.RowKit
set_option linter.unusedVariables false

/-- A piece that is reckoned. -/
structure SegOk (P : Program) (tab : TabF) (n : Nat) (c : List Code) (s : Shape) (X : Ing) (W : Sw) : Prop where
  lt : okLT X.m X.G X.T = true
  ok : okG X.G X.m = true
  hook : ∀ F, Hooks P (cxOf X F)
  n0 : X.n = 0
  id : idOk s X.m = true
  reck : okSw (fun F => runL P (cxOf X) true X.fu (evD P (cxOf X) true X.fu 40).1 (evD P (cxOf X) true X.fu 40).2 c F (tmOf s n) ⟨s.heap, []⟩) W [] = true
  tab : X.tab = tab
  cuts : X.cuts = []
  inv : ∀ σ, X.inv σ := by exact fun _ => True.intro
  kt : okKt X = true := by exact rfl

theorem SegOk.run {P : Program} {tab : TabF} {n : Nat} {c : List Code} {s : Shape} {X : Ing} {W : Sw} (h : SegOk P tab n c s X W) (hm : P.follows .mixedOrders = true) {Q0 : SEx → Shape → Sig → Prop}
    {σ : Sig} {w0 : World} {a : Act} {w : World} (hA : At tab s n σ w0 a w) (hi : InsOk σ X.m X.ins) (hr : RowsOk (solve X.G X.m σ) X.rows) (hob : segsW (solve X.G X.m σ) Q0 W []) {K : Act → World → Prop} {Z : Exit → Act → World → Prop}
    (hk : ∀ e a' w' x s2 σ2, SExRel x e → Q0 x s2 σ2 → At tab s2 n σ2 w0 a' w' → Exit.then K Z e a' w') : chainK P c K Z a w := by
  have ht := h.tab
  subst ht
  exact segL hm h.lt h.ok h.hook h.n0 h.id h.reck hA hi hob hk hr (by rw [h.cuts]; exact cuts_nil) (h.inv _) h.kt

/-- The state is of the shape for other unknowns, where those of the shape are the same. -/
theorem At.agree {tab : TabF} {s : Shape} {n q : Nat} {σ τ : Sig} {w0 : World} {a : Act} {w : World} (hid : idOk s q = true) (ag : Agree q σ τ) (h : At tab s n σ w0 a w) : At tab s n τ w0 a w := by
  obtain ⟨⟨g, rfl, hH, hT, hB⟩, h2, h3, h4⟩ := h
  have hid' := hid
  unfold idOk at hid'
  split at hid'
  · rename_i lx ly hlx hly
    simp only [Bool.and_eq_true] at hid'
    obtain ⟨⟨i1, i2⟩, i3⟩ := hid'
    have htab : τ.tab = tab := by rw [← ag.tab]; exact hH.sig.tab
    refine ⟨⟨moved (idF s.heap.length 0) g τ, rfl, rematch hH rfl (cx0_good htab) (idF_length _ _) i3 hly (idAsg_fits ag i2) ag.ext.symm, ?_, ?_⟩, h2, h3, h4⟩
    · intro p hp
      obtain ⟨u, h1, h2⟩ := hT _ hp
      obtain ⟨mm, q1, q2⟩ := matchL_mem _ _ lx hlx rfl p.2 (List.mem_map.2 ⟨_, hp, rfl⟩)
      exact ⟨u, h1, matchV_sound (moved_moves _ g _ ag.ext.symm) p.2 p.2 mm u q1 (fun z hz => idAsg_fits ag i1 z (q2 z hz)) h2⟩
    · intro i L hi
      obtain ⟨y, sh, L', _, h2, rfl⟩ := moved_from hi
      exact hB y L' h2
  · cases hid'

/-- What the numbers of a shape are made of stays within their kinds. -/
def insAsg (kd : Nat → Option IntKind) (l : Asg) : List (Option IntKind) → Nat → Bool
  | [], _ => true
  | none :: r, i => insAsg kd l r (i + 1)
  | some k :: r, i => (match findAs l i with
    | some a => inK kd k a
    | none => false) && insAsg kd l r (i + 1)

theorem insAsg_get {kd : Nat → Option IntKind} {l : Asg} : ∀ {ins : List (Option IntKind)} {i : Nat}, insAsg kd l ins i = true → ∀ (j : Nat) (k : IntKind), ins[j]? = some (some k) → ∃ a, findAs l (i + j) = some a ∧ inK kd k a = true
  | [], _, _, j, k, hj => by simp at hj
  | none :: r, i, h, 0, k, hj => by simp at hj
  | none :: r, i, h, j + 1, k, hj => by
    have := insAsg_get (ins := r) (i := i + 1) h j k (by simpa using hj)
    rw [show i + (j + 1) = i + 1 + j by omega]; exact this
  | some k' :: r, i, h, 0, k, hj => by
    simp only [insAsg, Bool.and_eq_true] at h
    simp only [List.getElem?_cons_zero, Option.some.injEq] at hj
    subst hj
    have h1 := h.1
    split at h1
    · rename_i a ha; exact ⟨a, ha, h1⟩
    · cases h1
  | some k' :: r, i, h, j + 1, k, hj => by
    simp only [insAsg, Bool.and_eq_true] at h
    have := insAsg_get (ins := r) (i := i + 1) h.2 j k (by simpa using hj)
    rw [show i + (j + 1) = i + 1 + j by omega]; exact this

theorem insOk_asg {τ : Sig} {m : Nat} {ins : List (Option IntKind)} {G : List SDef} (hG : Eqs τ m G) (hi : InsOk τ m ins) {l : Asg} {q : Nat} {insq : List (Option IntKind)} (d : Nat) (h : insAsg (kdF m ins G d) l insq 0 = true) : InsOk (asgS τ l) q insq := by
  intro i k _ hik
  have hik : insq[i]? = some (some k) := by
    cases hc : insq[i]? with
    | none => rw [hc] at hik; cases hik
    | some o => rw [hc] at hik; simp only [Option.getD_some] at hik; rw [hik]
  obtain ⟨a, h1, h2⟩ := insAsg_get h i k hik
  rw [Nat.zero_add] at h1
  obtain ⟨n, h3, h4⟩ := inK_spec (fun i k h => kdF_spec hG hi d i k h) h2
  have : (asgS τ l).ival i = n := by
    simp only [asgS, h1]
    cases a <;> simp only [inK, Bool.false_eq_true] at h2 <;> simp only [valS, h3, iOf]
  rw [this]; exact h4

/-- The unknowns of a shape, and behind them the cells of the row's element at the first unknown. -/
def elSig (σ : Sig) (q : Nat) (X : Fz) : Sig where
  ival := fun t => if t < q then σ.ival t else if (σ.ival 0).toNat < X.len then iOf (X.val (σ.ival 0).toNat (t - q)) else 0
  bval := fun t => if t < q then σ.bval t else if (σ.ival 0).toNat < X.len then bOf (X.val (σ.ival 0).toNat (t - q)) else false
  sval := σ.sval
  tab := σ.tab
  ext := σ.ext

theorem elSig_agree (σ : Sig) (q : Nat) (X : Fz) : Agree q σ (elSig σ q X) :=
  ⟨fun i hi => ⟨by simp [elSig, hi], by simp [elSig, hi], rfl⟩, rfl, rfl⟩

def elCells : Nat → List Cl → List AVal
  | _, [] => []
  | i, .i k :: r => .symi k i :: elCells (i + 1) r
  | i, .b :: r => .symb i :: elCells (i + 1) r

theorem elCells_length : ∀ (i : Nat) (cl : List Cl), (elCells i cl).length = cl.length
  | _, [] => rfl
  | i, .i k :: r => by simp [elCells, elCells_length (i + 1) r]
  | i, .b :: r => by simp [elCells, elCells_length (i + 1) r]

theorem elCells_get : ∀ (i : Nat) (cl : List Cl) (j : Nat) (c : AVal), (elCells i cl)[j]? = some c → ∃ z, cl[j]? = some z ∧ c = (match z with | .i k => .symi k (i + j) | .b => .symb (i + j))
  | _, [], j, c, h => by simp [elCells] at h
  | i, .i k :: r, 0, c, h => by simp [elCells] at h; exact ⟨.i k, rfl, h.symm⟩
  | i, .b :: r, 0, c, h => by simp [elCells] at h; exact ⟨.b, rfl, h.symm⟩
  | i, .i k :: r, j + 1, c, h => by
    obtain ⟨z, h1, h2⟩ := elCells_get (i + 1) r j c (by simpa [elCells] using h)
    exact ⟨z, by simpa using h1, by rw [h2, show i + 1 + j = i + (j + 1) by omega]⟩
  | i, .b :: r, j + 1, c, h => by
    obtain ⟨z, h1, h2⟩ := elCells_get (i + 1) r j c (by simpa [elCells] using h)
    exact ⟨z, by simpa using h1, by rw [h2, show i + 1 + j = i + (j + 1) by omega]⟩

theorem encCs_get : ∀ {cl : List Cl} {l : List Int}, InR cl l → ∀ (j : Nat) (z : Cl), cl[j]? = some z → ∃ n, inC z n ∧ (encCs cl l).getD j .nilFunc = encC z n
  | c :: cl, [], h, _, _, _ => by cases h
  | c :: cl, n :: l, h, 0, z, hz => by
    simp only [List.getElem?_cons_zero, Option.some.injEq] at hz
    subst hz
    exact ⟨n, h.1, rfl⟩
  | c :: cl, n :: l, h, j + 1, z, hz => by
    obtain ⟨m, h1, h2⟩ := encCs_get h.2 j z (by simpa using hz)
    exact ⟨m, h1, by simpa [encCs] using h2⟩
  | [], _, _, _, _, hz => by simp at hz

theorem el_get {cl : List Cl} {f : Nat → AVal} (h : ElOk cl f) {j : Nat} {z : Cl} (hz : cl[j]? = some z) : ∃ n, inC z n ∧ f j = (match z with | .i k => .int k n | .b => .bool (!(n == 0))) := by
  obtain ⟨l, h1, h2⟩ := h
  have hj : j < cl.length := (List.getElem?_eq_some_iff.1 hz).1
  obtain ⟨n, h3, h4⟩ := encCs_get h1 j z hz
  refine ⟨n, h3, ?_⟩
  rw [h2 j hj, h4]
  cases z with
  | i k => simp only [encC, cellA]; rw [show k.wrap n = n from h3]
  | b => rfl

theorem elSig_ins {W : World} {cl : List Cl} {v : Value} {X : Fz} (hX : RowV W cl v X) {σ : Sig} {q : Nat} {insq : List (Option IntKind)} (hq : insq.length = q) (h : InsOk σ q insq) : InsOk (elSig σ q X) (q + cl.length) (insq ++ cl.map kindC) := by
  intro i k hi hk
  by_cases hlt : i < q
  · rw [List.getElem?_append_left (by omega)] at hk
    have := h i k hlt hk
    simpa [elSig, hlt] using this
  · rw [List.getElem?_append_right (by omega), hq, List.getElem?_map] at hk
    simp only [elSig, hlt, if_false]
    split
    · rename_i hlen
      cases hz : cl[i - q]? with
      | none => rw [hz] at hk; cases hk
      | some z =>
        rw [hz] at hk
        cases z with
        | b => simp [kindC] at hk
        | i k' =>
          simp only [kindC, Option.map_some, Option.getD_some, Option.some.injEq] at hk
          subst hk
          obtain ⟨n, h1, h2⟩ := el_get (hX.els _ hlen) hz
          rw [h2]; exact h1
    · cases k <;> rfl

theorem elSig_rows {W : World} {cl : List Cl} {v : Value} {X : Fz} (hX : RowV W cl v X) {σ τ : Sig} {q : Nat} (h2q : 2 ≤ q) (ag : Agree (q + cl.length) (elSig σ q X) τ) (hx : ∀ i Y, σ.ext i = some Y → Y = X) (h0 : 0 ≤ σ.ival 0) (h1 : σ.ival 1 = X.len) :
    RowsOk τ [⟨.symi .i64 1, [(.symi .i64 0, elCells q cl)]⟩] := by
  intro i r Y hr hY
  rw [← ag.ext] at hY
  have hY := hx i Y hY
  subst hY
  have hr0 : i = 0 := by
    cases i with
    | zero => rfl
    | succ i => simp at hr
  subst hr0
  simp only [List.getElem?_cons_zero, Option.some.injEq] at hr
  subst hr
  have t0 : τ.ival 0 = σ.ival 0 := by rw [← (ag.val 0 (by omega)).1]; simp [elSig, show 0 < q by omega]
  have t1 : τ.ival 1 = σ.ival 1 := by rw [← (ag.val 1 (by omega)).1]; simp [elSig, show 1 < q by omega]
  refine ⟨by show AVal.int .i64 (τ.ival 1) = _; rw [t1, h1], fun p hp m hm hlt => ?_⟩
  simp only [List.mem_singleton] at hp
  subst hp
  have hm : τ.ival 0 = (m : Int) := by simpa [den] using hm
  rw [t0] at hm
  have hmN : (σ.ival 0).toNat = m := by omega
  refine ⟨by rw [elCells_length]; exact hX.z.symm, fun j c hc => ?_⟩
  obtain ⟨z, hz, rfl⟩ := elCells_get q cl j c hc
  have hj : j < cl.length := (List.getElem?_eq_some_iff.1 hz).1
  obtain ⟨n, h3, h4⟩ := el_get (hX.els _ hlt) hz
  have hnq : ¬ (q + j < q) := by omega
  cases z with
  | i k =>
    simp only [den]
    rw [← (ag.val (q + j) (by omega)).1]
    simp only [elSig, hnq, if_false, hmN, hlt, if_true, Nat.add_sub_cancel_left]
    rw [h4]; rfl
  | b =>
    simp only [den]
    rw [← (ag.val (q + j) (by omega)).2.1]
    simp only [elSig, hnq, if_false, hmN, hlt, if_true, Nat.add_sub_cancel_left]
    rw [h4]; rfl

/-- A call with one row, and a loop over it that counts in unknown 0 (its length is unknown 1). -/
theorem rows_walk {P : Program} {f : FuncId} {fn : Func} {tab : TabF} {cl : List Cl} {q n r : Nat} {insq : List (Option IntKind)} {S0 S1 S2 SE : Shape} {XA XB XC : Ing} {WA WB WC : Sw} {J : Sig → Prop} {b : Bool}
    (hm : P.follows .mixedOrders = true) (hf : P.funcs[f]? = some fn) (hb : fn.body = some (bodyOf fn)) (hn : fn.ntmps = n) (hres : fn.results.toList = [.tmp r]) (hcut : (cutC (bodyOf fn)).isSome = true)
    (hq : insq.length = q) (h2q : 2 ≤ q) (hS0 : S0 = ⟨argT 0 [.row 0], []⟩) (h1n : 1 ≤ n) (hid1 : idOk S1 q = true) (hSE : (r, .bool b) ∈ SE.t)
    (sA : SegOk P tab n (preOf (bodyOf fn)) S0 XA WA) (aA : XA.m = 2 ∧ XA.ins = [some .i64, some .i64] ∧ XA.rows = [⟨.symi .i64 1, []⟩])
    (sB : SegOk P tab n [loopOf (bodyOf fn)] S1 XB WB) (aB : XB.m = q + cl.length ∧ XB.ins = insq ++ cl.map kindC ∧ XB.rows = [⟨.symi .i64 1, [(.symi .i64 0, elCells q cl)]⟩])
    (sC : SegOk P tab n (postOf (bodyOf fn)) S2 XC WC) (aC : XC.m = 0 ∧ XC.ins = [] ∧ XC.rows = [])
    (hJ : ∀ σ τ, Agree q σ τ → J σ → J τ)
    (oA : ∀ τ : Sig, Eqs τ 2 XA.G → τ.tab = tab → InsOk τ 2 XA.ins → segsW τ (fun x s σ2 => x = .normal ∧ s = S1 ∧ σ2.ival 0 = 0 ∧ σ2.ival 1 = τ.ival 1 ∧ InsOk σ2 q insq ∧ J σ2 ∧ σ2.tab = tab ∧ σ2.ext = τ.ext) WA [])
    (oB : ∀ τ : Sig, Eqs τ XB.m XB.G → τ.tab = tab → InsOk τ XB.m XB.ins → 0 ≤ τ.ival 0 → τ.ival 0 ≤ τ.ival 1 → τ.ival 1 ≤ 9223372036854775807 → J τ →
      segsW τ (fun x s σ2 => (x = .normal ∧ s = S1 ∧ τ.ival 0 < τ.ival 1 ∧ σ2.ival 0 = τ.ival 0 + 1 ∧ σ2.ival 1 = τ.ival 1 ∧ InsOk σ2 q insq ∧ J σ2 ∧ σ2.tab = tab ∧ σ2.ext = τ.ext) ∨ (x = .exit (idOf (bodyOf fn)) ∧ s = S2 ∧ σ2.tab = tab)) WB [])
    (oC : ∀ τ : Sig, Eqs τ 0 XC.G → τ.tab = tab → segsW τ (fun x s _ => (x = .ret ∨ x = .normal) ∧ s = SE) WC [])
    {W : World} {v : Value} {X : Fz} (hX : RowV W cl v X) : Calls P f #[v] W fun e W' => e = .returned (.bool b) ∧ Below W.heap.size W W' := by
  refine calls_body hf hb ?_
  rw [hn]
  refine cut_of hcut ?_
  let σ0 : Sig := ⟨fun i => if i = 1 then X.len else 0, fun _ => false, fun _ => .empty, tab, fun i => if i = 0 then some X else none⟩
  have hx0 : ∀ i Y, σ0.ext i = some Y → Y = X := by
    intro i Y h
    have h : (if i = 0 then some X else none) = some Y := h
    split at h
    · cases h; rfl
    · cases h
  have hA0 : At tab S0 n σ0 W { tmps := #[v] ++ Array.replicate (n - (#[v] : Array Value).size) undef, defers := [] } W := by
    subst hS0
    refine at_start (tab := tab) (args := [.row 0]) (args' := #[v]) rfl (.cons _ _ _ _ (hX.rel _ 0 rfl) .nil) (by simpa using h1n) W ?_
    intro i Y h hl
    have := hx0 i Y h
    subst this
    exact hX.ok hl
  have hl := hX.len
  have hin0 : InsOk σ0 XA.m XA.ins := by
    intro i k hi hk
    rw [aA.1] at hi
    rw [aA.2.1] at hk
    have h2 : i = 0 ∨ i = 1 := by omega
    rcases h2 with rfl | rfl
    · simp only [List.getElem?_cons_zero, Option.getD_some, Option.some.injEq] at hk
      subst hk; rfl
    · simp only [List.getElem?_cons_zero, List.getElem?_cons_succ, Option.getD_some, Option.some.injEq] at hk
      subst hk
      show IntKind.i64.wrap (X.len : Int) = X.len
      simp [IntKind.wrap, IntKind.bits, IntKind.signed]; omega
  have agA := agree_solve XA.G XA.m σ0
  have hrA : RowsOk (solve XA.G XA.m σ0) XA.rows := by
    rw [aA.2.2]
    intro i r Y hr hY
    rw [← agA.ext] at hY
    have := hx0 i Y hY
    subst this
    have hr0 : i = 0 := by
      cases i with
      | zero => rfl
      | succ i => simp at hr
    subst hr0
    simp only [List.getElem?_cons_zero, Option.some.injEq] at hr
    subst hr
    refine ⟨?_, fun p hp => by cases hp⟩
    show AVal.int .i64 _ = _
    rw [← (agA.val 1 (by rw [aA.1]; decide)).1]; rfl
  have eqA : Eqs (solve XA.G XA.m σ0) 2 XA.G := by rw [← aA.1]; exact eqs_solve sA.ok
  have inA : InsOk (solve XA.G XA.m σ0) 2 XA.ins := by
    intro i k hi hk
    rw [← aA.1] at hi
    rw [← (agA.val i hi).1]; exact hin0 i k hi hk
  refine sA.run hm hA0 hin0 hrA (oA _ eqA (by rw [← agA.tab]) inA) ?_
  rintro e a w x s2 σ1 hx ⟨rfl, rfl, h0, h1, hins, hj, htab, hext⟩ hA1
  cases e <;> simp only [SExRel] at hx
  have h1 : σ1.ival 1 = X.len := by rw [h1, ← (agA.val 1 (by rw [aA.1]; decide)).1]; rfl
  have hext : σ1.ext = σ0.ext := by rw [hext, ← agA.ext]
  show (Code.block _ (.loop _)).wpIn (FR none) 0 P _ a w
  refine wpIn_block ?_
  let Inv : Nat → Act → World → Prop := fun k a w => ∃ σ, At tab s2 n σ W a w ∧ InsOk σ q insq ∧ J σ ∧ σ.tab = tab ∧ σ.ext = σ0.ext ∧ σ.ival 1 = X.len ∧ 0 ≤ σ.ival 0 ∧ σ.ival 0 ≤ X.len ∧ (k : Int) = X.len - σ.ival 0
  refine loop_at (Inv := Inv) ?_ X.len a w ⟨σ1, hA1, hins, hj, htab, hext, h1, by omega, by omega, by omega⟩
  clear hA1 hins hj htab hext h0 h1 a w
  rintro k a w ⟨σ, hA, hins, hj, htab, hext, h1, h0, h0', hk⟩
  have ag0 := elSig_agree σ q X
  have hAe := hA.agree hid1 ag0
  have hinse := elSig_ins hX hq hins
  rw [← aB.1, ← aB.2.1] at hinse
  have agB := agree_solve XB.G XB.m (elSig σ q X)
  have hrB : RowsOk (solve XB.G XB.m (elSig σ q X)) XB.rows := by
    rw [aB.2.2]
    exact elSig_rows hX h2q (by rw [← aB.1]; exact agB) (fun i Y h => hx0 i Y (by rw [← hext]; exact h)) h0 h1
  have hq0 : 0 < XB.m := by rw [aB.1]; omega
  have hq1 : 1 < XB.m := by rw [aB.1]; omega
  have s0 : (solve XB.G XB.m (elSig σ q X)).ival 0 = σ.ival 0 := by rw [← (agB.val 0 hq0).1]; simp [elSig, show 0 < q by omega]
  have s1 : (solve XB.G XB.m (elSig σ q X)).ival 1 = σ.ival 1 := by rw [← (agB.val 1 hq1).1]; simp [elSig, show 1 < q by omega]
  have stab : (solve XB.G XB.m (elSig σ q X)).tab = tab := by rw [← agB.tab]; exact htab
  have sext : (solve XB.G XB.m (elSig σ q X)).ext = σ0.ext := by rw [← agB.ext]; exact hext
  have inB : InsOk (solve XB.G XB.m (elSig σ q X)) XB.m XB.ins := by
    intro i k hi hk
    rw [← (agB.val i hi).1]; exact hinse i k hi hk
  have ob := oB _ (eqs_solve sB.ok) stab inB (by rw [s0]; exact h0) (by rw [s0, s1, h1]; exact h0') (by rw [s1, h1]; exact hl)
    (hJ _ _ (agB.less (by rw [aB.1]; omega)) (hJ _ _ ag0 hj))
  have := sB.run hm hAe hinse hrB ob (K := fun a' w' => ∃ k', k' < k ∧ Inv k' a' w')
    (Z := fun e a' w' => (e = .normal ∧ ∃ k', k' < k ∧ Inv k' a' w') ∨ (e ≠ .normal ∧ Exit.inBlock (idOf (bodyOf fn)) (Exit.then (chainK P (postOf (bodyOf fn)) (bodyPost P fn (fun e W' => e = .returned (.bool b) ∧ Below W.heap.size W W') .normal) (bodyPost P fn (fun e W' => e = .returned (.bool b) ∧ Below W.heap.size W W'))) (bodyPost P fn (fun e W' => e = .returned (.bool b) ∧ Below W.heap.size W W'))) e a' w')) ?_
  · simp only [chainK] at this
    refine wpIn_mono this fun e a' w' h => ?_
    cases e with
    | normal => exact .inl ⟨rfl, h⟩
    | _ => exact h
  · rintro e a' w' x s3 σ3 hx hq0 hA3
    rcases hq0 with ⟨rfl, rfl, hlt, g0, g1, gins, gj, gtab, gext⟩ | ⟨rfl, rfl, gtab⟩
    · cases e <;> simp only [SExRel] at hx
      rw [s0] at g0 hlt
      rw [s1, h1] at g1 hlt
      exact ⟨k - 1, by omega, σ3, hA3, gins, gj, gtab, by rw [gext, sext], g1, by omega, by omega, by omega⟩
    · cases e <;> simp only [SExRel] at hx
      subst hx
      refine .inr ⟨by simp, ?_⟩
      simp only [Exit.inBlock, if_true]
      show chainK P (postOf (bodyOf fn)) _ _ a' w'
      have agC := agree_solve XC.G XC.m σ3
      refine sC.run hm hA3 (fun i k hi => by rw [aC.1] at hi; omega) (by rw [aC.2.2]; exact rows_nil) (oC _ (by rw [← aC.1]; exact eqs_solve sC.ok) (by rw [← agC.tab]; exact gtab)) ?_
      rintro e2 a2 w2 x2 s4 σ4 hx2 ⟨hh, rfl⟩ hA4
      rw [then_self]
      refine at_end hres hA4 hSE ?_
      rcases hh with rfl | rfl
      · exact .inl hx2
      · exact .inr hx2
/-- Pieces of code from a shape. -/
def runOf (P : Program) (X : Ing) (c : List Code) (s : Shape) (n : Nat) (F : List Fact) : Tree (Ex × Tm × Hp) :=
  runL P (cxOf X) true X.fu (evD P (cxOf X) true X.fu 40).1 (evD P (cxOf X) true X.fu 40).2 c F (tmOf s n) ⟨s.heap, []⟩
end Go.Ev
