/- Code in pieces: what is ahead of a loop, the loop, what is behind it. -/
import Derived.Test.YtgifnmiggloclaaEvS
namespace Go.Ev

def chainK (P : Program) : List Code → (Act → World → Prop) → (Exit → Act → World → Prop) → Act → World → Prop
  | [], K, _ => K
  | x :: l, K, Q => fun a w => x.wp P (Exit.then (chainK P l K Q) Q) a w

theorem then_then {K J : Act → World → Prop} {Q : Exit → Act → World → Prop} : Exit.then K (Exit.then J Q) = Exit.then K Q := by
  funext e a w; cases e <;> rfl

theorem then_self {Q : Exit → Act → World → Prop} : Exit.then (Q .normal) Q = Q := by
  funext e a w; cases e <;> rfl

theorem chainK_then {P : Program} {J : Act → World → Prop} {Q : Exit → Act → World → Prop} : ∀ (l : List Code) (K : Act → World → Prop), chainK P l K (Exit.then J Q) = chainK P l K Q
  | [], _ => rfl
  | x :: l, K => by
    funext a w
    simp only [chainK, chainK_then l K, then_then]

theorem chainK_append {P : Program} {Q : Exit → Act → World → Prop} : ∀ (l m : List Code) (K : Act → World → Prop), chainK P (l ++ m) K Q = chainK P l (chainK P m K Q) Q
  | [], _, _ => rfl
  | x :: l, m, K => by
    funext a w
    simp only [List.cons_append, chainK, chainK_append l m K]

/-- The pieces of code around its first loop. -/
def cutC : Code → Option (List Code × (Nat × Code) × List Code)
  | .seq x y => match cutC x with
    | some (pre, lp, post) => some (pre, lp, post ++ [y])
    | none => match cutC y with
      | some (pre, lp, post) => some (x :: pre, lp, post)
      | none => none
  | .block id c => match c with
    | .loop b => some ([], (id, b), [])
    | _ => none
  | _ => none

theorem cut_wp {P : Program} : ∀ (c : Code) (pre : List Code) (id : Nat) (b : Code) (post : List Code) (Q : Exit → Act → World → Prop) (a : Act) (w : World), cutC c = some (pre, (id, b), post) →
    chainK P pre (fun a w => (Code.block id (.loop b)).wp P (Exit.then (chainK P post (Q .normal) Q) Q) a w) Q a w → c.wp P Q a w
  | .seq x y, pre, id, b, post, Q, a, w, h, hw => by
    simp only [cutC] at h
    split at h
    · rename_i pre' lp post' hx
      cases h
      refine wp_seq (cut_wp x pre id b post' _ a w hx ?_)
      rw [chainK_then]
      rw [chainK_append] at hw
      have e : chainK P post' (Exit.then (y.wp P Q) Q .normal) (Exit.then (y.wp P Q) Q) = chainK P post' (chainK P [y] (Q .normal) Q) Q := by
        rw [chainK_then]
        simp only [chainK]
        congr 1
        funext a w
        rw [then_self]
        rfl
      rw [e, then_then]
      exact hw
    · split at h
      · rename_i pre' lp post' hy
        cases h
        refine wp_seq ?_
        simp only [chainK] at hw
        refine wp_mono hw fun e a' w' he => ?_
        cases e with
        | normal => exact cut_wp y pre' id b post Q a' w' hy he
        | _ => exact he
      · cases h
  | .block i c, pre, id, b, post, Q, a, w, h, hw => by
    simp only [cutC] at h
    split at h
    · cases h
      simp only [chainK, then_self] at hw
      exact hw
    · cases h
  | .skip, _, _, _, _, _, _, _, h, _ | .region _ _ _, _, _, _, _, _, _, _, h, _ | .cond _ _ _, _, _, _, _, _, _, _, h, _ | .loop _, _, _, _, _, _, _, _, h, _ | .rangeFunc _ _ _ _, _, _, _, _, _, _, _, h, _
  | .exit _, _, _, _, _, _, _, _, h, _ | .ret, _, _, _, _, _, _, _, h, _ | .label _, _, _, _, _, _, _, _, h, _ | .goto _, _, _, _, _, _, _, _, h, _ | .scope _, _, _, _, _, _, _, _, h, _ | .refuse _, _, _, _, _, _, _, _, h, _ => by
    simp [cutC] at h

def preOf (c : Code) : List Code :=
  match cutC c with
  | some (p, _, _) => p
  | none => []
def loopOf (c : Code) : Code :=
  match cutC c with
  | some (_, (_, b), _) => b
  | none => .skip
def idOf (c : Code) : Nat :=
  match cutC c with
  | some (_, (i, _), _) => i
  | none => 0
def postOf (c : Code) : List Code :=
  match cutC c with
  | some (_, _, p) => p
  | none => []

theorem cut_of {P : Program} {c : Code} {Q : Exit → Act → World → Prop} {a : Act} {w : World} (h : (cutC c).isSome = true)
    (hw : chainK P (preOf c) (fun a w => (Code.block (idOf c) (.loop (loopOf c))).wp P (Exit.then (chainK P (postOf c) (Q .normal) Q) Q) a w) Q a w) : c.wp P Q a w := by
  cases hc : cutC c with
  | none => rw [hc] at h; cases h
  | some r =>
    obtain ⟨pre, ⟨id, b⟩, post⟩ := r
    refine cut_wp c pre id b post Q a w hc ?_
    simpa only [preOf, idOf, loopOf, postOf, hc] using hw

def bodyOf (f : Func) : Code :=
  match f.body with
  | some c => c
  | none => .skip

/-! ### A row of pieces, run -/

def runL (P : Program) (ng : Cx) (fuel : Nat) (call : CallF) : List Code → Tm → St → Option (Ex × Tm × St)
  | [], t, s => some (.normal, t, s)
  | c :: l, t, s => match codeA P ng fuel call c t s with
    | some (x, t', s') => match x with
      | .normal => runL P ng fuel call l t' s'
      | x => some (x, t', s')
    | none => none

theorem runL_sound {P : Program} {ng : Cx} {fuel : Nat} {call : CallF} (hm : P.follows .mixedOrders = true) (hcall : CallSound P ng call) : ∀ (l : List Code) (t : Tm) (s : St) (x : Ex) (t' : Tm) (s' : St), runL P ng fuel call l t s = some (x, t', s') → AllP s'.cnd →
    AllP s.cnd ∧ ∀ g w a, HRel ng g s.hp.heap w → TRel g t a → ∀ (K : Act → World → Prop) (Q : Exit → Act → World → Prop), (∀ e a' w', CodeQ ng s.hp x t' s'.hp g w a e a' w' → Exit.then K Q e a' w') → chainK P l K Q a w
  | [], t, s, x, t', s', h, hc => by
    simp only [runL] at h; cases h
    exact ⟨hc, fun g w a hH ht K Q hq => hq .normal a w ⟨g, trivial, hH, Ext.refl _ _ _, ht, rfl, rfl⟩⟩
  | c :: l, t, s, x, t', s', h, hc => by
    simp only [runL] at h
    split at h
    · rename_i x1 t1 s1 h1
      split at h
      · obtain ⟨c1, k1⟩ := runL_sound hm hcall l t1 s1 x t' s' h hc
        obtain ⟨m1, m2⟩ := codeA_sound hm hcall c _ _ _ _ _ h1 c1
        refine ⟨m2, fun g w a hH ht K Q hq => ?_⟩
        simp only [chainK]
        refine wp_mono (m1.wp g w a hH ht) fun e a' w' hq1 => ?_
        obtain ⟨g', q1, q2, q3, q4, q5, q6⟩ := hq1
        cases e <;> simp only [ExRel] at q1
        exact k1 g' w' a' q2 q4 K Q fun e a'' w'' hq2 => hq e a'' w'' (CodeQ.trans hH q3 q5 q6 hq2)
      · rename_i hne
        cases h
        obtain ⟨m1, m2⟩ := codeA_sound hm hcall c _ _ _ _ _ h1 hc
        refine ⟨m2, fun g w a hH ht K Q hq => ?_⟩
        simp only [chainK]
        refine wp_mono (m1.wp g w a hH ht) fun e a' w' hq1 => ?_
        have := hq e a' w' hq1
        cases e with
        | normal =>
          obtain ⟨g', q1, _⟩ := hq1
          cases x <;> simp only [ExRel] at q1
          exact absurd rfl hne
        | _ => exact this
    · cases h

/-- What a run comes to, from a state of a shape. -/
theorem at_run {n m : Nat} {tab : TabF} {hook : HookF} {G : List SDef} {F : List Fact} {rows : List RowS} {s s2 : Shape} {f : Fm} {l ex : Asg} {x : SEx} {e0 : Ex} {t : Tm} {st : St} (hG : okG G m = true) (hid : idOk s m = true) {σ : Sig} {w0 : World} {a : Act} {w : World} (hA : At tab s n σ w0 a w)
    (hF : Holds (solve G m σ) F) (hx : sameX x e0 = true) (hmt : matchS f s2 t st.hp.heap l = true) (hr : RowsOk (solve G m σ) rows) :
    (cxOf 0 m tab hook G F rows).Good (solve G m σ) ∧ ∃ g1, HRel (cxOf 0 m tab hook G F rows) g1 s.heap w ∧ TRel g1 (tmOf s n) a ∧ ∀ e a' w', CodeQ (cxOf 0 m tab hook G F rows) ⟨s.heap, []⟩ e0 t st.hp g1 w a e a' w' → SExRel x e ∧ At tab s2 n (asgS (solve G m σ) (l ++ ex)) w0 a' w' := by
  obtain ⟨g, rfl, hH, hT, hB⟩ := hA.ex
  have htab : (solve G m g.sig).tab = tab := by rw [← (agree_solve G m g.sig).tab]; exact hH.sig.tab
  have hgood : (cxOf 0 m tab hook G F rows).Good (solve G m g.sig) := cx_good (eqs_solve hG) htab hF hr
  refine ⟨hgood, ?_⟩
  unfold idOk at hid
  split at hid
  · rename_i lx ly hlx hly
    simp only [Bool.and_eq_true] at hid
    obtain ⟨⟨i1, i2⟩, i3⟩ := hid
    have ag := agree_solve G m g.sig
    have hH1 : HRel (cxOf 0 m tab hook G F rows) (moved (idF s.heap.length 0) g (solve G m g.sig)) s.heap w := rematch hH rfl hgood (idF_length _ _) i3 hly (idAsg_fits ag i2) ag.ext.symm
    have hT1 : TRel (moved (idF s.heap.length 0) g (solve G m g.sig)) (tmOf s n) a := by
      refine ⟨by simp only [tmOf, hA.size]; exact Nat.le_refl _, ?_⟩
      intro i v hv
      have hmem := alGet_mem (Tm.get_tr hv)
      obtain ⟨u, h1, h2⟩ := hT _ hmem
      obtain ⟨mm, q1, q2⟩ := matchL_mem _ _ lx hlx rfl v (List.mem_map.2 ⟨_, hmem, rfl⟩)
      exact ⟨u, h1, matchV_sound (moved_moves _ g _ ag.ext.symm) v v mm u q1 (fun p hp => idAsg_fits ag i1 p (q2 p hp)) h2⟩
    have hB1 : ∀ i L, moved (idF s.heap.length 0) g (solve G m g.sig) i = some L → w0.heap.size ≤ L.blk := by
      intro i L hi
      obtain ⟨y, sh, L', _, h2, rfl⟩ := moved_from hi
      exact hB y L' h2
    refine ⟨_, hH1, hT1, ?_⟩
    rintro e a' w' ⟨g', r1, r2, r3, r4, r5, r6⟩
    obtain ⟨y1, y2, m1, m2, rfl, m4, m5, m6⟩ := matchS_spec hmt
    have hsig : g'.sig = solve G m g.sig := r3.sub.sig
    refine ⟨sameX_rel hx r1, ?_⟩
    have hfit : Fits g'.sig (asgS (solve G m g.sig) (y1 ++ y2 ++ ex)) (y1 ++ y2) := by rw [hsig]; exact fits_asg ex m6
    have hsz : w0.heap.size ≤ w.heap.size := hA.below.size
    have hB' : ∀ i L, g' i = some L → w0.heap.size ≤ L.blk := by
      intro i L hi
      cases hg : moved (idF s.heap.length 0) g (solve G m g.sig) i with
      | some M =>
        have := r3.sub i M hg
        rw [this] at hi; cases hi
        exact hB1 i _ hg
      | none =>
        obtain ⟨_, hb⟩ := r3.new i L hi hg
        rcases hb with hb | ⟨j, M, hj, hM, _⟩
        · omega
        · rw [← hM]; exact hB1 j M hj
    refine ⟨⟨moved f g' (asgS (solve G m g.sig) (y1 ++ y2 ++ ex)), rfl, rematch r2 rfl (cx0_good htab) m4 m5 m2 hfit.right (by rw [hsig]; rfl), ?_, ?_⟩, ?_, r5.trans hA.size, r6.trans hA.defers⟩
    · intro p hp
      obtain ⟨b, mm, q1, q2, q3⟩ := matchT_get _ _ m1 p hp
      obtain ⟨u, h1, h2⟩ := r4.2 p.1 b q1
      exact ⟨u, h1, matchV_sound (moved_moves f g' _ (by rw [hsig]; rfl)) p.2 b mm u q2 (fun z hz => hfit z (by simp [q3 z hz])) h2⟩
    · intro i L hi
      obtain ⟨y, sh, L', _, h2, rfl⟩ := moved_from hi
      exact hB' y L' h2
    · refine hA.below.trans ⟨r3.os, r3.tape, r3.output, r3.size, fun k hk => r3.frame k (by omega) ?_⟩
      intro i L hi _ he
      have := hB1 i L hi
      omega
  · cases hid

/-- A row of pieces, from a state of a shape. -/
theorem segL {P : Program} {fuel d m n : Nat} {c : List Code} {tab : TabF} {hook : HookF} {G : List SDef} {rows : List RowS} {s : Shape} {T : Sr} {Q0 : SEx → Shape → Sig → Prop} (hm : P.follows .mixedOrders = true) (hh : ∀ F, Hooks P (cxOf 0 m tab hook G F rows)) (hG : okG G m = true) (hid : idOk s m = true)
    (h : okSr (fun F => runL P (cxOf 0 m tab hook G F rows) fuel (callA P (cxOf 0 m tab hook G F rows) fuel d) c (tmOf s n) ⟨⟨s.heap, []⟩, [], []⟩) T [] = true)
    {σ : Sig} {w0 : World} {a : Act} {w : World} (hA : At tab s n σ w0 a w) (hob : segs (solve G m σ) Q0 T []) {K : Act → World → Prop} {Q : Exit → Act → World → Prop}
    (hk : ∀ e a' w' x s2 σ2, SExRel x e → Q0 x s2 σ2 → At tab s2 n σ2 w0 a' w' → Exit.then K Q e a' w') (hr : RowsOk (solve G m σ) rows := by exact rows_nil) : chainK P c K Q a w := by
  obtain ⟨F, x, s2, f, l, ex, e0, t, st, hrun, hcnd, hx, hmt, hQ, hF⟩ := sr_leaf h hob trivial
  obtain ⟨_, g1, hH1, hT1, hnext⟩ := at_run (hook := hook) (ex := ex) hG hid hA hF hx hmt hr
  refine (runL_sound (fuel := fuel) hm (callA_sound (fuel := fuel) hm (hh F) d) c _ _ _ _ _ hrun (by rw [hcnd]; trivial)).2 _ w a hH1 hT1 K Q ?_
  intro e a' w' hq
  obtain ⟨k1, k2⟩ := hnext e a' w' hq
  exact hk e a' w' x s2 _ k1 hQ k2

/-- A loop with a measure. -/
theorem loop_at {P : Program} {c : Code} {Inv : Nat → Act → World → Prop} {Q : Exit → Act → World → Prop}
    (hstep : ∀ k a w, Inv k a w → c.wp P (fun e a' w' => (e = .normal ∧ ∃ k', k' < k ∧ Inv k' a' w') ∨ (e ≠ .normal ∧ Q e a' w')) a w) (k : Nat) (a : Act) (w : World) (h : Inv k a w) : (Code.loop c).wp P Q a w := by
  have key : ∀ (n k : Nat) (a : Act) (w : World), k < n → Inv k a w → Code.rounds P c Q n a w := by
    intro n
    induction n with
    | zero => intro k a w hk _; omega
    | succ n ih =>
      intro k a w hk hI
      rw [rounds_succ]
      refine wp_mono (hstep k a w hI) fun e a' w' he => ?_
      rcases he with ⟨rfl, k', hk', hI'⟩ | ⟨hne, hq⟩
      · exact ih k' a' w' (by omega) hI'
      · cases e with
        | normal => exact absurd rfl hne
        | _ => exact hq
  exact wp_loop_rounds (k + 1) (key (k + 1) k a w (Nat.lt_succ_self k) h)

/-! ### A call's start, and its end -/

def argT : Nat → List AVal → List (Nat × AVal)
  | _, [] => []
  | i, a :: l => (i, a) :: argT (i + 1) l

theorem argT_get : ∀ (l : List AVal) (i : Nat) (p : Nat × AVal), p ∈ argT i l → ∃ j, p.1 = i + j ∧ l[j]? = some p.2
  | [], _, p, h => by cases h
  | a :: l, i, p, h => by
    simp only [argT, List.mem_cons] at h
    rcases h with rfl | h
    · exact ⟨0, rfl, rfl⟩
    · obtain ⟨j, h1, h2⟩ := argT_get l (i + 1) p h
      exact ⟨j + 1, by omega, by simpa using h2⟩

theorem at_start {tab : TabF} {args : List AVal} {args' : Array Value} {σ : Sig} (ht : σ.tab = tab) (ha : LRel ⟨fun _ => none, σ⟩ args args'.toList) {n : Nat} (hn : args'.size ≤ n) (w : World) (hz : ∀ i X, σ.ext i = some X → 0 < X.len → FzOk X w := by exact fun _ _ h => by cases h) :
    At tab ⟨argT 0 args, []⟩ n σ w { tmps := args' ++ Array.replicate (n - args'.size) undef, defers := [] } w := by
  refine ⟨⟨⟨fun _ => none, σ⟩, rfl, ⟨fun i L hi => by simp at hi, fun i j L M hi => by simp at hi, fun i k hi => by simp at hi, fun i hi => absurd hi (Nat.not_lt_zero i), cx0_good ht, fun i X hi hl => ⟨hz i X hi hl, fun j L hj => by simp at hj⟩⟩, ?_, fun i L hi => by simp at hi⟩, RowKit.Below.refl _ _, by simp; omega, rfl⟩
  intro p hp
  obtain ⟨j, h1, h2⟩ := argT_get _ _ _ hp
  obtain ⟨u, k1, k2⟩ := ha.get j p.2 h2
  refine ⟨u, ?_, k2⟩
  have hlt : j < args'.size := by
    have := (List.getElem?_eq_some_iff.1 k1).1
    simpa using this
  rw [h1, Nat.zero_add, Array.getElem?_append_left hlt]
  simpa using k1

/-- A call that ends with a truth in a temporary. -/
theorem at_end {P : Program} {tab : TabF} {s : Shape} {n r : Nat} {σ : Sig} {w0 : World} {a : Act} {w : World} {fn : Func} {b : Bool} (hr : fn.results.toList = [.tmp r]) (hA : At tab s n σ w0 a w) (hm : (r, .bool b) ∈ s.t) {e : Exit} (he : SExRel .ret e ∨ SExRel .normal e) :
    bodyPost P fn (fun e w' => e = .returned (.bool b) ∧ RowKit.Below w0.heap.size w0 w') e a w := by
  obtain ⟨g, _, hH, hT, _⟩ := hA.ex
  obtain ⟨u, h1, h2⟩ := hT _ hm
  cases h2
  have hres : (results fn a.tmps).run P w = .ok (.bool b) w := by
    rw [results_eq, Array.mapM_eq_mapM_toList, hr]
    simp only [Sem.run_bind, Sem.run_map, Sem.run_pure, List.mapM_cons, List.mapM_nil, resOne, Result.andThen_ok]
    have h1' : a.tmps.getD r undef = .bool b := by rw [Array.getD_eq_getD_getElem?, h1]; rfl
    simp [h1']
  have : a.defers = [] ∧ ∃ v, (results fn a.tmps).run P w = .ok v w ∧ (Ending.returned v = .returned (.bool b) ∧ RowKit.Below w0.heap.size w0 w) := ⟨hA.defers, _, hres, rfl, hA.below⟩
  cases e with
  | normal => exact this
  | ret => exact this
  | _ => rcases he with he | he <;> exact he.elim

end Go.Ev
