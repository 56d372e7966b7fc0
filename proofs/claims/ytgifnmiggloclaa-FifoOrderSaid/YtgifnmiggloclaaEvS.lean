/- Segments: code, from a shape of what is known to others; loops. -/
import Derived.Test.YtgifnmiggloclaaEvR
namespace Go.Ev

/-! ### Shapes -/

/-- What is known of temporaries and memory, up to the numbers of blocks. -/
structure Shape where
  t : List (Nat × AVal)
  heap : List Blk

abbrev Asg := List (Nat × AVal)
abbrev Fm := List (Nat × Nat)

def sameC : AVal → AVal → Bool
  | .int k a, .int k' b => decide (k = k') && a == b
  | .bool a, .bool b => a == b
  | .nilptr, .nilptr => true
  | .nilslice, .nilslice => true
  | .nilmap, .nilmap => true
  | .nilfunc, .nilfunc => true
  | .niliface, .niliface => true
  | _, _ => false

mutual
/-- What the unknowns of a pattern must be, for it to stand for what a value stands for. -/
def matchV (f : Fm) : AVal → AVal → Option Asg
  | .symi k i, b => match skOf b with
    | some (.i k') => if k = k' then some [(i, b)] else none
    | _ => none
  | .symb i, b => match skOf b with
    | some .b => some [(i, b)]
    | _ => none
  | .syms i, b => match skOf b with
    | some .s => some [(i, b)]
    | _ => none
  | .ptr b o, c => match c with
    | .ptr b' o' => match f[b]? with
      | some (x, sh) => if x = b' ∧ o' = o + sh then some [] else none
      | none => none
    | _ => none
  | .agg l, c => match c with
    | .agg m => matchL f l m
    | _ => none
  | .tuple l, c => match c with
    | .tuple m => matchL f l m
    | _ => none
  | .iface t v, c => match c with
    | .iface t' v' => if t = t' then matchV f v v' else none
    | _ => none
  | .row i, c => match c with
    | .row i' => if i = i' then some [] else none
    | _ => none
  | .slice b o len cap ex, c => match c with
    | .slice b' o' len' cap' ex' => match f[b]? with
      | some (x, sh) => if x = b' ∧ len = len' ∧ ex = ex' ∧ cap ≤ cap' ∧ (ex = none → cap = cap') ∧ ((0 < len ∧ o' = o + sh) ∨ (len = 0 ∧ cap = 0 ∧ ex ≠ none ∧ sh = 0)) then some [] else none
      | none => none
    | _ => none
  | a, b => match sameC a b with
    | true => some []
    | false => none
def matchL (f : Fm) : List AVal → List AVal → Option Asg
  | [], m => match m with
    | [] => some []
    | _ => none
  | a :: l, m => match m with
    | b :: m => match matchV f a b, matchL f l m with
      | some x, some y => some (x ++ y)
      | _, _ => none
    | [] => none
end

/-- The unknowns of the second are what the first makes of these. -/
def Fits (σ τ : Sig) (l : Asg) : Prop :=
  ∀ p, p ∈ l → (∀ k n, den σ p.2 = .int k n → τ.ival p.1 = n) ∧ (∀ b, den σ p.2 = .bool b → τ.bval p.1 = b) ∧ (∀ s, den σ p.2 = .str s → τ.sval p.1 = s)

theorem Fits.left {σ τ : Sig} {l m : Asg} (h : Fits σ τ (l ++ m)) : Fits σ τ l := fun p hp => h p (by simp [hp])
theorem Fits.right {σ τ : Sig} {l m : Asg} (h : Fits σ τ (l ++ m)) : Fits σ τ m := fun p hp => h p (by simp [hp])

theorem sameC_rel {g g2 : Inj} {a b : AVal} {v : Value} (h : sameC a b = true) (hv : VRel g b v) : VRel g2 a v := by
  unfold sameC at h
  split at h
  · simp only [Bool.and_eq_true, decide_eq_true_eq, beq_iff_eq] at h
    obtain ⟨rfl, rfl⟩ := h
    cases hv; exact .int _ _
  · simp only [beq_iff_eq] at h
    subst h
    cases hv; exact .bool _
  · cases hv; exact .nilptr
  · cases hv; exact .nilslice
  · cases hv; exact .nilmap
  · cases hv; exact .nilfunc
  · cases hv; exact .niliface
  · cases h

theorem rel_bool {g : Inj} {a : AVal} {u : Value} {n : Bool} (h : VRel g a u) (hd : den g.sig a = .bool n) : u = .bool n := by
  have := den_rel.2 h
  rw [hd] at this
  cases this
  rfl

theorem rel_str {g : Inj} {a : AVal} {u : Value} {n : ByteArray} (h : VRel g a u) (hd : den g.sig a = .str n) : u = .string n := by
  have := den_rel.2 h
  rw [hd] at this
  cases this
  rfl

def shift (L : Loc) (sh : Nat) : Loc := ⟨L.blk, L.dl + sh, L.n - sh⟩

/-- The blocks of the second are those of the first, by a list. -/
def Moves (f : Fm) (g g2 : Inj) : Prop := (∀ b x sh L, f[b]? = some (x, sh) → g x = some L → g2 b = some (shift L sh)) ∧ g2.sig.ext = g.sig.ext

mutual
theorem matchV_sound {f : Fm} {g g2 : Inj} (hf : Moves f g g2) : ∀ (a b : AVal) (l : Asg) (v : Value), matchV f a b = some l → Fits g.sig g2.sig l → VRel g b v → VRel g2 a v
  | .symi k i, b, l, v, h, hl, hv => by
    simp only [matchV] at h
    split at h
    · rename_i k' hk
      split at h
      · rename_i hkk
        subst hkk
        cases h
        obtain ⟨⟨n, hn⟩, _⟩ := sk_i hk g.sig
        rw [rel_num hv hn]
        exact rel_symi ((hl (i, b) (by simp)).1 _ _ hn)
      · cases h
    · cases h
  | .symb i, b, l, v, h, hl, hv => by
    simp only [matchV] at h
    split at h
    · rename_i hk
      cases h
      obtain ⟨⟨n, hn⟩, _⟩ := sk_b hk g.sig
      rw [rel_bool hv hn]
      exact rel_symb ((hl (i, b) (by simp)).2.1 _ hn)
    · cases h
  | .syms i, b, l, v, h, hl, hv => by
    simp only [matchV] at h
    split at h
    · rename_i hk
      cases h
      obtain ⟨⟨n, hn⟩, _⟩ := sk_s hk g.sig
      rw [rel_str hv hn]
      have := (hl (i, b) (by simp)).2.2 _ hn
      rw [← this]
      exact .syms i
    · cases h
  | .ptr b o, c, l, v, h, hl, hv => by
    simp only [matchV] at h
    split at h
    · rename_i b' o'
      split at h
      · rename_i x sh hx
        split at h
        · rename_i hc
          obtain ⟨rfl, rfl⟩ := hc
          cases hv with
          | ptr _ _ L hL =>
            have := VRel.ptr (g := g2) b o _ (hf.1 b x sh L hx hL)
            simpa [shift, Nat.add_assoc, Nat.add_comm sh o] using this
        · cases h
      · cases h
    · cases h
  | .agg l0, c, l, v, h, hl, hv => by
    simp only [matchV] at h
    split at h
    · cases hv with
      | agg _ m hm => exact .agg _ _ (matchL_sound hf _ _ _ _ h hl hm)
    · cases h
  | .tuple l0, c, l, v, h, hl, hv => by
    simp only [matchV] at h
    split at h
    · cases hv with
      | tuple _ m hm => exact .tuple _ _ (matchL_sound hf _ _ _ _ h hl hm)
    · cases h
  | .iface t x, c, l, v, h, hl, hv => by
    simp only [matchV] at h
    split at h
    · split at h
      · rename_i ht
        subst ht
        cases hv with
        | iface _ _ x' hx => exact .iface _ _ _ (matchV_sound hf _ _ _ _ h hl hx)
      · cases h
    · cases h
  | .row i, c, l, v, h, hl, hv => by
    simp only [matchV] at h
    split at h
    · split at h
      · rename_i hi
        subst hi
        cases hv with
        | row _ X ao cap h1 h2 h3 => exact .row i X ao cap (by rw [hf.2]; exact h1) h2 h3
      · cases h
    · cases h
  | .slice b o len cap ex, c, l, v, h, hl, hv => by
    simp only [matchV] at h
    split at h
    · rename_i b' o' len' cap' ex'
      split at h
      · rename_i x sh hx
        split at h
        · rename_i hc
          obtain ⟨rfl, rfl, rfl, hcap, hnone, hoff⟩ := hc
          cases hv with
          | slice _ _ _ _ _ o2 cv L hL h0 h1 h2 =>
            have hm := hf.1 b x sh L hx hL
            rcases hoff with ⟨hlen, rfl⟩ | ⟨rfl, rfl, hne, rfl⟩
            · have ho : o2 = o + sh := by rcases h0 with h0 | h0; exact h0; omega
              subst ho
              have := VRel.slice (g := g2) b o len cap ex o cv (shift L sh) hm (.inl rfl) (fun e => by rw [h1 e, hnone e]) (fun z hz => by
                obtain ⟨q1, q2⟩ := h2 z hz
                simp only [shift]
                exact ⟨by omega, by omega⟩)
              simpa [shift, Nat.add_assoc, Nat.add_comm sh o] using this
            · have := VRel.slice (g := g2) b o 0 0 ex o2 cv (shift L 0) hm (.inr ⟨rfl, rfl, hne⟩) (fun e => absurd e hne) (fun z hz => by
                obtain ⟨q1, q2⟩ := h2 z hz
                simp only [shift]
                exact ⟨Nat.zero_le _, by omega⟩)
              simpa [shift] using this
        · cases h
      · cases h
    · cases h
  | .rptr _ _ _, b, l, v, h, hl, hv | .int _ _, b, l, v, h, hl, hv | .bool _, b, l, v, h, hl, hv | .float _ _, b, l, v, h, hl, hv | .str _, b, l, v, h, hl, hv | .nilptr, b, l, v, h, hl, hv | .nilslice, b, l, v, h, hl, hv
  | .nilmap, b, l, v, h, hl, hv | .map _, b, l, v, h, hl, hv | .nilfunc, b, l, v, h, hl, hv | .func _ _ _, b, l, v, h, hl, hv | .niliface, b, l, v, h, hl, hv => by
    simp only [matchV] at h
    split at h
    · rename_i hs; exact sameC_rel hs hv
    · cases h
theorem matchL_sound {f : Fm} {g g2 : Inj} (hf : Moves f g g2) : ∀ (a b : List AVal) (l : Asg) (v : List Value), matchL f a b = some l → Fits g.sig g2.sig l → LRel g b v → LRel g2 a v
  | [], b, l, v, h, hl, hv => by
    simp only [matchL] at h
    split at h
    · cases hv; exact .nil
    · cases h
  | a :: r, b, l, v, h, hl, hv => by
    simp only [matchL] at h
    split at h
    · split at h
      · rename_i x y hx hy
        cases h
        cases hv with
        | cons _ u _ m h1 h2 => exact .cons _ _ _ _ (matchV_sound hf _ _ _ _ hx hl.left h1) (matchL_sound hf _ _ _ _ hy hl.right h2)
      · cases h
    · cases h
end

def matchPre (f : Fm) : List AVal → List AVal → Option Asg
  | [], _ => some []
  | a :: l, m => match m with
    | b :: m => match matchV f a b, matchPre f l m with
      | some x, some y => some (x ++ y)
      | _, _ => none
    | [] => none

theorem matchPre_get {f : Fm} : ∀ (c d : List AVal) (l : Asg), matchPre f c d = some l → ∀ (i : Nat) (a : AVal), c[i]? = some a → ∃ b m, d[i]? = some b ∧ matchV f a b = some m ∧ ∀ p, p ∈ m → p ∈ l
  | [], _, _, _, i, a, h => by simp at h
  | x :: c, d, l, h, i, a, hi => by
    simp only [matchPre] at h
    split at h
    · rename_i b d
      split at h
      · rename_i y z hy hz
        cases h
        cases i with
        | zero => simp at hi; subst hi; exact ⟨b, y, by simp, hy, fun p hp => by simp [hp]⟩
        | succ i =>
          obtain ⟨b', m, h1, h2, h3⟩ := matchPre_get c d z hz i a (by simpa using hi)
          exact ⟨b', m, by simpa using h1, h2, fun p hp => by simp [h3 p hp]⟩
      · cases h
    · cases h

def matchB (f : Fm) (src : List Blk) (k : Blk) (i : Nat) : Option Asg :=
  match k with
  | .gone => some []
  | .map _ => none
  | .cells c e => match f[i]? with
    | some (x, sh) => match src[x]? with
      | some (.cells c' e') => if e = e' ∧ sh ≤ c'.length then matchPre f c (c'.drop sh) else none
      | _ => none
    | none => none

def matchH (f : Fm) (src : List Blk) : List Blk → Nat → Option Asg
  | [], _ => some []
  | k :: ks, i => match matchB f src k i, matchH f src ks (i + 1) with
    | some x, some y => some (x ++ y)
    | _, _ => none

theorem matchH_get {f : Fm} {src : List Blk} : ∀ (ks : List Blk) (n : Nat) (l : Asg), matchH f src ks n = some l → ∀ (i : Nat) (k : Blk), ks[i]? = some k → ∃ m, matchB f src k (n + i) = some m ∧ ∀ p, p ∈ m → p ∈ l
  | [], _, _, _, i, k, h => by simp at h
  | x :: ks, n, l, h, i, k, hi => by
    simp only [matchH] at h
    split at h
    · rename_i y z hy hz
      cases h
      cases i with
      | zero => simp at hi; subst hi; exact ⟨y, hy, fun p hp => by simp [hp]⟩
      | succ i =>
        obtain ⟨m, h1, h2⟩ := matchH_get ks (n + 1) z hz i k (by simpa using hi)
        exact ⟨m, by rw [show n + (i + 1) = n + 1 + i by omega]; exact h1, fun p hp => by simp [h2 p hp]⟩
    · cases h

def matchT (f : Fm) (t : Tm) : List (Nat × AVal) → Option Asg
  | [] => some []
  | p :: r => match t.get p.1 with
    | some b => match matchV f p.2 b, matchT f t r with
      | some x, some y => some (x ++ y)
      | _, _ => none
    | none => none

theorem matchT_get {f : Fm} {t : Tm} : ∀ (r : List (Nat × AVal)) (l : Asg), matchT f t r = some l → ∀ p, p ∈ r → ∃ b m, t.get p.1 = some b ∧ matchV f p.2 b = some m ∧ ∀ q, q ∈ m → q ∈ l
  | [], _, _, p, hp => by cases hp
  | q :: r, l, h, p, hp => by
    simp only [matchT] at h
    split at h
    · rename_i b hb
      split at h
      · rename_i x y hx hy
        cases h
        rcases List.mem_cons.1 hp with rfl | hp
        · exact ⟨b, x, hb, hx, fun z hz => by simp [hz]⟩
        · obtain ⟨b', m, h1, h2, h3⟩ := matchT_get r y hy p hp
          exact ⟨b', m, h1, h2, fun z hz => by simp [h3 z hz]⟩
      · cases h
    · cases h

def notIn (x : Nat) : Fm → Bool
  | [] => true
  | p :: l => !(Nat.beq p.1 x) && notIn x l

def noTwice : Fm → Bool
  | [] => true
  | p :: l => notIn p.1 l && noTwice l

theorem notIn_spec {x : Nat} : ∀ {l : Fm}, notIn x l = true → ∀ (i y sh : Nat), l[i]? = some (y, sh) → y ≠ x
  | [], _, i, y, sh, h => by simp at h
  | p :: l, hl, i, y, sh, h => by
    simp only [notIn, Bool.and_eq_true, Bool.not_eq_true'] at hl
    cases i with
    | zero => simp at h; subst h; exact Nat.ne_of_beq_eq_false hl.1
    | succ i => exact notIn_spec hl.2 i y sh (by simpa using h)

theorem noTwice_spec : ∀ {l : Fm}, noTwice l = true → ∀ (i j x sh sh' : Nat), l[i]? = some (x, sh) → l[j]? = some (x, sh') → i = j
  | [], _, i, _, _, _, _, h, _ => by simp at h
  | p :: l, hl, i, j, x, sh, sh', hi, hj => by
    simp only [noTwice, Bool.and_eq_true] at hl
    cases i with
    | zero =>
      cases j with
      | zero => rfl
      | succ j =>
        simp at hi; subst hi
        exact absurd rfl (notIn_spec hl.1 j x sh' (by simpa using hj))
    | succ i =>
      cases j with
      | zero =>
        simp at hj; subst hj
        exact absurd rfl (notIn_spec hl.1 i x sh (by simpa using hi))
      | succ j => rw [noTwice_spec hl.2 i j x sh sh' (by simpa using hi) (by simpa using hj)]

/-- Where the blocks of a pattern lie. -/
def moved (f : Fm) (g : Inj) (τ : Sig) : Inj := ⟨fun b => match f[b]? with
  | some (x, sh) => (g x).map fun L => shift L sh
  | none => none, τ⟩

theorem moved_moves (f : Fm) (g : Inj) (τ : Sig) (he : τ.ext = g.sig.ext) : Moves f g (moved f g τ) := by
  refine ⟨?_, he⟩
  intro b x sh L h1 h2
  simp [moved, h1, h2]

theorem moved_from {f : Fm} {g : Inj} {τ : Sig} {b : Nat} {M : Loc} (h : moved f g τ b = some M) : ∃ x sh L, f[b]? = some (x, sh) ∧ g x = some L ∧ M = shift L sh := by
  simp only [moved] at h
  split at h
  · rename_i x sh hx
    simp only [Option.map_eq_some_iff] at h
    obtain ⟨L, hL, rfl⟩ := h
    exact ⟨x, sh, L, hx, hL, rfl⟩
  · cases h

theorem rematch {ng ng2 : Cx} {f : Fm} {g : Inj} {τ : Sig} {H pats : List Blk} {w : World} {l : Asg} (hH : HRel ng g H w) (h0 : ng2.n = 0) (hG : ng2.Good τ) (hlen : f.length = pats.length) (htw : noTwice f = true) (hm : matchH f H pats 0 = some l) (hl : Fits g.sig τ l) (he : τ.ext = g.sig.ext) :
    HRel ng2 (moved f g τ) pats w := by
  have cell : ∀ (i : Nat) (k : Blk), pats[i]? = some k → k ≠ .gone → ∃ c e x sh c' m, k = .cells c e ∧ f[i]? = some (x, sh) ∧ H[x]? = some (.cells c' e) ∧ sh ≤ c'.length ∧ matchPre f c (c'.drop sh) = some m ∧ ∀ p, p ∈ m → p ∈ l := by
    intro i k hi hk
    obtain ⟨m, h1, h2⟩ := matchH_get pats 0 l hm i k hi
    rw [Nat.zero_add] at h1
    unfold matchB at h1
    split at h1
    · exact absurd rfl hk
    · cases h1
    · rename_i c e
      split at h1
      · rename_i x sh hx
        split at h1
        · rename_i c' e' hc
          split at h1
          · rename_i hcond
            obtain ⟨rfl, hs⟩ := hcond
            exact ⟨c, e, x, sh, c', m, rfl, hx, hc, hs, h1, h2⟩
          · cases h1
        · cases h1
      · cases h1
  have live : ∀ (i x sh : Nat), Live pats i → f[i]? = some (x, sh) → Live H x := by
    rintro i x sh ⟨k, hk, hne⟩ hx
    obtain ⟨c, e, x', sh', c', m, rfl, hx', hc, _⟩ := cell i k hk hne
    rw [hx] at hx'; cases hx'
    exact ⟨_, hc, by simp⟩
  refine ⟨?_, ?_, ?_, fun i hi => by omega, hG, ?_⟩
  rotate_left 3
  · intro i X hi hlen'
    have hi : g.sig.ext i = some X := by rw [← he]; exact hi
    refine ⟨(hH.frz i X hi hlen').1, ?_⟩
    intro j M hj lj
    obtain ⟨x, sh, L, h1, h2, rfl⟩ := moved_from hj
    exact (hH.frz i X hi hlen').2 x L h2 (live j x sh lj h1)
  · intro i M hi
    obtain ⟨x, sh, L, h1, h2, rfl⟩ := moved_from hi
    exact ⟨by rw [← hlen]; exact (List.getElem?_eq_some_iff.1 h1).1, (hH.dom x L h2).2⟩
  · intro i j M N hi hj hb li lj
    obtain ⟨x, sh, L, h1, h2, rfl⟩ := moved_from hi
    obtain ⟨x', sh', L', h1', h2', rfl⟩ := moved_from hj
    have := hH.inj x x' L L' h2 h2' hb (live i x sh li h1) (live j x' sh' lj h1')
    subst this
    exact noTwice_spec htw i j x sh sh' h1 h1'
  · intro i k hi hk
    obtain ⟨c, e, x, sh, c', m, rfl, hx, hc, hs, hpre, hsub⟩ := cell i k hi hk
    obtain ⟨L, hL, C, fr, b1, b2, b3, b4, b5⟩ := hH.blk x _ hc (by simp)
    refine ⟨shift L sh, (moved_moves f g τ he).1 i x sh L hx hL, C, fr, b1, by simp only [shift]; omega, b3, ?_, ?_⟩
    · have hle : c.length ≤ (c'.drop sh).length := by
        rcases Nat.lt_or_ge (c'.drop sh).length c.length with h9 | h9
        · have hget : c[(c'.drop sh).length]? = some c[(c'.drop sh).length] := by simp
          obtain ⟨b, _, hb, _⟩ := matchPre_get c _ m hpre _ _ hget
          have := (List.getElem?_eq_some_iff.1 hb).1
          omega
        · exact h9
      simp only [List.length_drop] at hle
      simp only [shift]; omega
    · intro j a hj
      obtain ⟨b, m', q1, q2, q3⟩ := matchPre_get c _ m hpre j a hj
      rw [List.getElem?_drop] at q1
      obtain ⟨v, r1, r2, r3⟩ := b5 (sh + j) b q1
      refine ⟨v, ?_, matchV_sound (moved_moves f g τ he) a b m' v q2 (fun p hp => hl p (hsub p (q3 p hp))) r2, r3⟩
      simpa [shift, Nat.add_assoc] using r1

/-! ### States -/

def cx0 (tab : TabF) : Cx := ⟨0, fun _ => none, fun _ => none, fun _ => none, fun _ _ => none, tab, fun _ => none, fun _ _ => none⟩

theorem cx0_good {tab : TabF} {σ : Sig} (h : σ.tab = tab) : (cx0 tab).Good σ :=
  ⟨fun _ _ h => by simp [cx0] at h, fun _ _ h => by simp [cx0] at h, fun _ _ h => by simp [cx0] at h, h, fun _ _ _ h => by simp [cx0] at h, fun _ _ _ _ h => by simp [cx0] at h⟩

/-- The state is of a shape, for unknowns: all that it knows lies in blocks that are new since w0, and all others are as they were. -/
structure At (tab : TabF) (s : Shape) (n : Nat) (σ : Sig) (w0 : World) (a : Act) (w : World) : Prop where
  ex : ∃ g : Inj, g.sig = σ ∧ HRel (cx0 tab) g s.heap w ∧ (∀ p, p ∈ s.t → ∃ u, a.tmps[p.1]? = some u ∧ VRel g p.2 u) ∧ ∀ i L, g i = some L → w0.heap.size ≤ L.blk
  below : RowKit.Below w0.heap.size w0 w
  size : a.tmps.size = n
  defers : a.defers = []

inductive SEx where
  | normal
  | exit (i : Nat)
  | ret

def sameX : SEx → Ex → Bool
  | .normal, .normal => true
  | .exit i, .exit j => Nat.beq i j
  | .ret, .ret => true
  | _, _ => false

def SExRel : SEx → Exit → Prop
  | .normal, .normal => True
  | .exit i, .exit j => i = j
  | .ret, .ret => True
  | _, _ => False

theorem sameX_rel {g : Inj} {x : SEx} {y : Ex} {e : Exit} (h : sameX x y = true) (hr : ExRel g y e) : SExRel x e := by
  cases x <;> cases y <;> simp only [sameX, Bool.false_eq_true] at h <;> cases e <;> simp only [ExRel] at hr <;> simp only [SExRel]
  have := Nat.eq_of_beq_eq_true h
  omega

def findAs : Asg → Nat → Option AVal
  | [], _ => none
  | p :: l, i => match Nat.beq p.1 i with
    | true => some p.2
    | false => findAs l i

def consB (l : Asg) : List (Nat × AVal) → Bool
  | [] => true
  | p :: r => (match findAs l p.1 with
    | some y => sameV p.2 y
    | none => false) && consB l r

def iOf : AVal → Int
  | .int _ n => n
  | _ => 0
def bOf : AVal → Bool
  | .bool b => b
  | _ => false
def sOf : AVal → ByteArray
  | .str s => s
  | _ => .empty

/-- what an entry stands for; a pointer into a row: for what lies there -/
def valS (σ : Sig) : AVal → AVal
  | .rptr i ix j => match σ.ext i with
    | some X => X.val (iOf (den σ ix)).toNat j
    | none => .nilptr
  | a => den σ a

/-- the unknowns that an assignment makes of others -/
def asgS (σ : Sig) (l : Asg) : Sig where
  ival := fun i => match findAs l i with
    | some x => iOf (valS σ x)
    | none => 0
  bval := fun i => match findAs l i with
    | some x => bOf (valS σ x)
    | none => false
  sval := fun i => match findAs l i with
    | some x => sOf (valS σ x)
    | none => .empty
  tab := σ.tab
  ext := σ.ext

theorem consB_spec {l : Asg} : ∀ {r : List (Nat × AVal)}, consB l r = true → ∀ p, p ∈ r → findAs l p.1 = some p.2
  | [], _, p, hp => by cases hp
  | q :: r, h, p, hp => by
    simp only [consB, Bool.and_eq_true] at h
    rcases List.mem_cons.1 hp with rfl | hp
    · have h1 := h.1
      split at h1
      · rename_i y hy; rw [hy, sameV_eq h1]
      · cases h1
    · exact consB_spec h.2 p hp

theorem findAs_append {x : Asg} (y : Asg) {i : Nat} {v : AVal} (h : findAs x i = some v) : findAs (x ++ y) i = some v := by
  induction x with
  | nil => simp [findAs] at h
  | cons p l ih =>
    simp only [List.cons_append, findAs] at h ⊢
    split at h
    · exact h
    · exact ih h

theorem fits_asg {σ : Sig} {l : Asg} (ex : Asg) (h : consB l l = true) : Fits σ (asgS σ (l ++ ex)) l := by
  intro p hp
  have := findAs_append ex (consB_spec h p hp)
  have hv : ∀ a, den σ p.2 = a → (∀ i ix j, p.2 = .rptr i ix j → False) → valS σ p.2 = a := by
    intro a ha hne
    unfold valS
    split
    · rename_i i ix j he; exact (hne i ix j he).elim
    · exact ha
  refine ⟨fun k n hn => ?_, fun b hn => ?_, fun s hn => ?_⟩
  · rw [show (asgS σ (l ++ ex)).ival p.1 = iOf (valS σ p.2) by simp only [asgS, this], hv _ hn (fun i ix j he => by rw [he] at hn; cases hn)]; rfl
  · rw [show (asgS σ (l ++ ex)).bval p.1 = bOf (valS σ p.2) by simp only [asgS, this], hv _ hn (fun i ix j he => by rw [he] at hn; cases hn)]; rfl
  · rw [show (asgS σ (l ++ ex)).sval p.1 = sOf (valS σ p.2) by simp only [asgS, this], hv _ hn (fun i ix j he => by rw [he] at hn; cases hn)]; rfl

def sameAs : Asg → Asg → Bool
  | [], [] => true
  | p :: l, q :: m => Nat.beq p.1 q.1 && sameV p.2 q.2 && sameAs l m
  | _, _ => false

theorem sameAs_eq : ∀ {l m : Asg}, sameAs l m = true → l = m
  | [], [], _ => rfl
  | (a, b) :: l, (c, d) :: m, h => by
    simp only [sameAs, Bool.and_eq_true] at h
    obtain ⟨⟨h1, h2⟩, h3⟩ := h
    have := Nat.eq_of_beq_eq_true h1
    rw [sameAs_eq h3, sameV_eq h2, this]
  | [], _ :: _, h => by simp [sameAs] at h
  | _ :: _, [], h => by simp [sameAs] at h

/-- Does a state match a shape, with just this assignment? -/
def matchS (f : Fm) (s : Shape) (t : Tm) (H : List Blk) (l : Asg) : Bool :=
  match matchT f t s.t, matchH f H s.heap 0 with
  | some x, some y => sameAs (x ++ y) l && Nat.beq f.length s.heap.length && noTwice f && consB l l
  | _, _ => false

theorem matchS_spec {f : Fm} {s : Shape} {t : Tm} {H : List Blk} {l : Asg} (h : matchS f s t H l = true) : ∃ x y, matchT f t s.t = some x ∧ matchH f H s.heap 0 = some y ∧ l = x ++ y ∧ f.length = s.heap.length ∧ noTwice f = true ∧ consB l l = true := by
  unfold matchS at h
  split at h
  · rename_i x y hx hy
    simp only [Bool.and_eq_true] at h
    obtain ⟨⟨⟨h1, h2⟩, h3⟩, h4⟩ := h
    exact ⟨x, y, hx, hy, (sameAs_eq h1).symm, Nat.eq_of_beq_eq_true h2, h3, h4⟩
  · cases h

/-! ### Segments -/

inductive Sr where
  | leaf (x : SEx) (s : Shape) (f : Fm) (l : Asg)
  | leafE (x : SEx) (s : Shape) (f : Fm) (l ex : Asg)      -- with unknowns of its own
  | dead
  | node (i : Nat) (yes no : Sr)
  | pick (i : Nat) (n : Int) (yes no : Sr)

def okSr (run : List Fact → Option (Ex × Tm × St)) : Sr → List Fact → Bool
  | .leaf x s f l, F => match run F with
    | some (e, t, st) => match st.cnd with
      | [] => sameX x e && matchS f s t st.hp.heap l
      | _ => false
    | none => false
  | .leafE x s f l _, F => match run F with
    | some (e, t, st) => match st.cnd with
      | [] => sameX x e && matchS f s t st.hp.heap l
      | _ => false
    | none => false
  | .dead, _ => true
  | .node i y n, F => okSr run y (.tru i true :: F) && okSr run n (.tru i false :: F)
  | .pick i k y n, F => okSr run y (.isn i k :: F) && okSr run n (.non i k :: F)

/-- What is to be shown of the leaves. -/
def segs (σ : Sig) (Q : SEx → Shape → Sig → Prop) : Sr → List Fact → Prop
  | .leaf x s _ l, F => Holds σ F → Q x s (asgS σ l)
  | .leafE x s _ l ex, F => Holds σ F → Q x s (asgS σ (l ++ ex))
  | .dead, F => ¬ Holds σ F
  | .node i y n, F => segs σ Q y (.tru i true :: F) ∧ segs σ Q n (.tru i false :: F)
  | .pick i k y n, F => segs σ Q y (.isn i k :: F) ∧ segs σ Q n (.non i k :: F)

theorem sr_leaf {σ : Sig} {Q : SEx → Shape → Sig → Prop} {run : List Fact → Option (Ex × Tm × St)} : ∀ {T : Sr} {F : List Fact}, okSr run T F = true → segs σ Q T F → Holds σ F →
    ∃ F' x s f l ex e t st, run F' = some (e, t, st) ∧ st.cnd = [] ∧ sameX x e = true ∧ matchS f s t st.hp.heap l = true ∧ Q x s (asgS σ (l ++ ex)) ∧ Holds σ F'
  | .leaf x s f l, F, h, hd, hF => by
    simp only [okSr] at h
    split at h
    · rename_i e t st hr
      split at h
      · rename_i hc
        simp only [Bool.and_eq_true] at h
        exact ⟨F, x, s, f, l, [], e, t, st, hr, hc, h.1, h.2, by rw [List.append_nil]; exact hd hF, hF⟩
      · cases h
    · cases h
  | .leafE x s f l ex, F, h, hd, hF => by
    simp only [okSr] at h
    split at h
    · rename_i e t st hr
      split at h
      · rename_i hc
        simp only [Bool.and_eq_true] at h
        exact ⟨F, x, s, f, l, ex, e, t, st, hr, hc, h.1, h.2, hd hF, hF⟩
      · cases h
    · cases h
  | .dead, _, _, hd, hF => absurd hF hd
  | .node i y n, F, h, hd, hF => by
    simp only [okSr, Bool.and_eq_true] at h
    cases hb : σ.bval i with
    | true => exact sr_leaf h.1 hd.1 ⟨hb, hF⟩
    | false => exact sr_leaf h.2 hd.2 ⟨hb, hF⟩
  | .pick i k y n, F, h, hd, hF => by
    simp only [okSr, Bool.and_eq_true] at h
    rcases Classical.em (σ.ival i = k) with hb | hb
    · exact sr_leaf h.1 hd.1 ⟨hb, hF⟩
    · exact sr_leaf h.2 hd.2 ⟨hb, hF⟩

def idF : Nat → Nat → Fm
  | 0, _ => []
  | n + 1, i => (i, 0) :: idF n (i + 1)

def tmOf (s : Shape) (n : Nat) : Tm := ⟨n, .al s.t⟩

def idAsg (m : Nat) : Asg → Bool
  | [] => true
  | p :: l => (match p.2 with
    | .symi _ j => Nat.beq p.1 j && Nat.blt j m
    | .symb j => Nat.beq p.1 j && Nat.blt j m
    | .syms j => Nat.beq p.1 j && Nat.blt j m
    | _ => false) && idAsg m l

/-- A shape whose unknowns are the first m. -/
def idOk (s : Shape) (m : Nat) : Bool :=
  match matchL (idF s.heap.length 0) (s.t.map (·.2)) (s.t.map (·.2)), matchH (idF s.heap.length 0) s.heap s.heap 0 with
  | some x, some y => idAsg m x && idAsg m y && noTwice (idF s.heap.length 0)
  | _, _ => false

theorem idF_length : ∀ (n i : Nat), (idF n i).length = n
  | 0, _ => rfl
  | n + 1, i => by simp [idF, idF_length n]

theorem idF_get : ∀ (n i b x sh : Nat), (idF n i)[b]? = some (x, sh) → x = i + b ∧ sh = 0
  | 0, _, _, _, _, h => by simp [idF] at h
  | n + 1, i, 0, x, sh, h => by simp [idF] at h; omega
  | n + 1, i, b + 1, x, sh, h => by
    have := idF_get n (i + 1) b x sh (by simpa [idF] using h)
    omega

theorem idAsg_fits {m : Nat} {σ τ : Sig} (h : Agree m σ τ) : ∀ {l : Asg}, idAsg m l = true → Fits σ τ l
  | [], _ => fun p hp => by cases hp
  | q :: l, hl => by
    simp only [idAsg, Bool.and_eq_true] at hl
    intro p hp
    rcases List.mem_cons.1 hp with rfl | hp
    · have h1 := hl.1
      split at h1
      all_goals first
        | cases h1
        | skip
      all_goals
        rename_i hx
        simp only [Bool.and_eq_true] at h1
        have e := Nat.eq_of_beq_eq_true h1.1
        have lt : p.1 < m := by rw [e]; simpa using h1.2
        have hv := h.val _ lt
        rw [hx, ← e]
        refine ⟨fun k n hn => ?_, fun b hn => ?_, fun s hn => ?_⟩ <;> simp only [den, AVal.int.injEq, AVal.bool.injEq, AVal.str.injEq, reduceCtorEq] at hn
        first
          | exact hv.1.symm.trans hn.2
          | exact hv.2.1.symm.trans hn
          | exact hv.2.2.symm.trans hn
    · exact idAsg_fits h hl.2 p hp

theorem alGet_mem : ∀ {l : List (Nat × AVal)} {i : Nat} {v : AVal}, alGet l i = some v → (i, v) ∈ l
  | [], _, _, h => by simp [alGet] at h
  | (a, b) :: l, i, v, h => by
    simp only [alGet] at h
    split at h
    · rename_i hb; cases h; have := Nat.eq_of_beq_eq_true hb; subst this; simp
    · exact List.mem_cons_of_mem _ (alGet_mem h)

theorem matchL_mem {f : Fm} : ∀ (c d : List AVal) (l : Asg), matchL f c d = some l → c = d → ∀ a, a ∈ c → ∃ m, matchV f a a = some m ∧ ∀ p, p ∈ m → p ∈ l
  | [], _, _, _, _, a, ha => by cases ha
  | x :: c, d, l, h, he, a, ha => by
    subst he
    simp only [matchL] at h
    split at h
    · rename_i y z hy hz
      cases h
      rcases List.mem_cons.1 ha with rfl | ha
      · exact ⟨y, hy, fun p hp => by simp [hp]⟩
      · obtain ⟨m, h1, h2⟩ := matchL_mem c c z hz rfl a ha
        exact ⟨m, h1, fun p hp => by simp [h2 p hp]⟩
    · cases h

end Go.Ev
