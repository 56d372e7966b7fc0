/- Segments: code in pieces, from a shape of what is known to others; loops. -/
import Derived.Test.YtlhaklmnjdgjgacGreatEwX
namespace Go.Ev

theorem rel_symi {g : Inj} {k : IntKind} {i : Nat} {n : Int} (h : g.sig.ival i = n) : VRel g (.symi k i) (.int k n) := h ▸ .symi k i
theorem rel_symb {g : Inj} {i : Nat} {n : Bool} (h : g.sig.bval i = n) : VRel g (.symb i) (.bool n) := h ▸ .symb i
theorem rel_num {g : Inj} {a : AVal} {u : Value} {k : IntKind} {n : Int} (h : VRel g a u) (hd : den g.sig a = .int k n) : u = .int k n := by
  have := den_rel.2 h
  rw [hd] at this
  cases this
  rfl

/-! ### Shapes -/

/-- What is known of temporaries and memory, up to the numbers of blocks. -/
structure Shape where
  t : List (Nat × AVal)
  heap : List Blk

abbrev Asg := List (Nat × AVal)
abbrev Bm := List (Nat × Nat)

def sameC : AVal → AVal → Bool
  | .int k a, .int k' b => decide (k = k') && a == b
  | .bool a, .bool b => a == b
  | .str a, .str b => a.toList == b.toList
  | .nilptr, .nilptr => true
  | .nilslice, .nilslice => true
  | .nilmap, .nilmap => true
  | .nilfunc, .nilfunc => true
  | .niliface, .niliface => true
  | _, _ => false

mutual
/-- What the unknowns of a pattern must be, for it to stand for what a value stands for. -/
def matchV (f : Bm) : AVal → AVal → Option Asg
  | .symi k i, b => match skOf b with
    | some (.i k') => if k = k' then some [(i, b)] else none
    | _ => none
  | .symb i, b => match skOf b with
    | some .b => some [(i, b)]
    | _ => none
  | .syms i, b => match skOf b with
    | some .s => some [(i, b)]
    | _ => none
  | .ptr b o, c => match c with
    | .ptr b' o' => match f[b]? with
      | some (x, sh) => if x = b' ∧ o' = o + sh then some [] else none
      | none => none
    | _ => none
  | .agg l, c => match c with
    | .agg m => matchL f l m
    | _ => none
  | .tuple l, c => match c with
    | .tuple m => matchL f l m
    | _ => none
  | .iface t v, c => match c with
    | .iface t' v' => if t = t' then matchV f v v' else none
    | _ => none
  | .row i, c => match c with
    | .row i' => if i = i' then some [] else none
    | _ => none
  | .slice b o len cap ex, c => match c with
    | .slice b' o' len' cap' ex' => match f[b]? with
      | some (x, sh) => if x = b' ∧ len = len' ∧ ex = ex' ∧ cap ≤ cap' ∧ (ex = none → cap = cap') ∧ (((0 < len ∨ ex = none) ∧ o' = o + sh) ∨ (len = 0 ∧ cap = 0 ∧ ex ≠ none ∧ sh = 0)) then some [] else none
      | none => none
    | _ => none
  | a, b => match sameC a b with
    | true => some []
    | false => none
def matchL (f : Bm) : List AVal → List AVal → Option Asg
  | [], m => match m with
    | [] => some []
    | _ => none
  | a :: l, m => match m with
    | b :: m => match matchV f a b, matchL f l m with
      | some x, some y => some (x ++ y)
      | _, _ => none
    | [] => none
end

/-- The unknowns of the second are what the first makes of these. -/
def Fits (σ τ : Sig) (l : Asg) : Prop :=
  ∀ p, p ∈ l → (∀ k n, den σ p.2 = .int k n → τ.ival p.1 = n) ∧ (∀ b, den σ p.2 = .bool b → τ.bval p.1 = b) ∧ (∀ s, den σ p.2 = .str s → τ.sval p.1 = s)

theorem Fits.left {σ τ : Sig} {l m : Asg} (h : Fits σ τ (l ++ m)) : Fits σ τ l := fun p hp => h p (by simp [hp])
theorem Fits.right {σ τ : Sig} {l m : Asg} (h : Fits σ τ (l ++ m)) : Fits σ τ m := fun p hp => h p (by simp [hp])

theorem sameC_rel {g g2 : Inj} {a b : AVal} {v : Value} (h : sameC a b = true) (hv : VRel g b v) : VRel g2 a v := by
  unfold sameC at h
  split at h
  · simp only [Bool.and_eq_true, decide_eq_true_eq, beq_iff_eq] at h
    obtain ⟨rfl, rfl⟩ := h
    cases hv; exact .int _ _
  · simp only [beq_iff_eq] at h
    subst h
    cases hv; exact .bool _
  · rw [toList_inj (eq_of_beq h)]
    cases hv; exact .str _
  · cases hv; exact .nilptr
  · cases hv; exact .nilslice
  · cases hv; exact .nilmap
  · cases hv; exact .nilfunc
  · cases hv; exact .niliface
  · cases h

theorem rel_bool {g : Inj} {a : AVal} {u : Value} {n : Bool} (h : VRel g a u) (hd : den g.sig a = .bool n) : u = .bool n := by
  have := den_rel.2 h
  rw [hd] at this
  cases this
  rfl

theorem rel_str {g : Inj} {a : AVal} {u : Value} {n : ByteArray} (h : VRel g a u) (hd : den g.sig a = .str n) : u = .string n := by
  have := den_rel.2 h
  rw [hd] at this
  cases this
  rfl

def shift (L : Loc) (sh : Nat) : Loc := ⟨L.blk, L.dl + sh, L.n - sh⟩

/-- The blocks of the second are those of the first, by a list. -/
def Moves (f : Bm) (g g2 : Inj) : Prop := (∀ b x sh L, f[b]? = some (x, sh) → g x = some L → g2 b = some (shift L sh)) ∧ g2.sig.ext = g.sig.ext

mutual
theorem matchV_sound {f : Bm} {g g2 : Inj} (hf : Moves f g g2) : ∀ (a b : AVal) (l : Asg) (v : Value), matchV f a b = some l → Fits g.sig g2.sig l → VRel g b v → VRel g2 a v
  | .symi k i, b, l, v, h, hl, hv => by
    simp only [matchV] at h
    split at h
    · rename_i k' hk
      split at h
      · rename_i hkk
        subst hkk
        cases h
        obtain ⟨⟨n, hn⟩, _⟩ := sk_i hk g.sig
        rw [rel_num hv hn]
        exact rel_symi ((hl (i, b) (by simp)).1 _ _ hn)
      · cases h
    · cases h
  | .symb i, b, l, v, h, hl, hv => by
    simp only [matchV] at h
    split at h
    · rename_i hk
      cases h
      obtain ⟨⟨n, hn⟩, _⟩ := sk_b hk g.sig
      rw [rel_bool hv hn]
      exact rel_symb ((hl (i, b) (by simp)).2.1 _ hn)
    · cases h
  | .syms i, b, l, v, h, hl, hv => by
    simp only [matchV] at h
    split at h
    · rename_i hk
      cases h
      obtain ⟨⟨n, hn⟩, _⟩ := sk_s hk g.sig
      rw [rel_str hv hn]
      have := (hl (i, b) (by simp)).2.2 _ hn
      rw [← this]
      exact .syms i
    · cases h
  | .ptr b o, c, l, v, h, hl, hv => by
    simp only [matchV] at h
    split at h
    · rename_i b' o'
      split at h
      · rename_i x sh hx
        split at h
        · rename_i hc
          obtain ⟨rfl, rfl⟩ := hc
          cases hv with
          | ptr _ _ L hL =>
            have := VRel.ptr (g := g2) b o _ (hf.1 b x sh L hx hL)
            simpa [shift, Nat.add_assoc, Nat.add_comm sh o] using this
        · cases h
      · cases h
    · cases h
  | .agg l0, c, l, v, h, hl, hv => by
    simp only [matchV] at h
    split at h
    · cases hv with
      | agg _ m hm => exact .agg _ _ (matchL_sound hf _ _ _ _ h hl hm)
    · cases h
  | .tuple l0, c, l, v, h, hl, hv => by
    simp only [matchV] at h
    split at h
    · cases hv with
      | tuple _ m hm => exact .tuple _ _ (matchL_sound hf _ _ _ _ h hl hm)
    · cases h
  | .iface t x, c, l, v, h, hl, hv => by
    simp only [matchV] at h
    split at h
    · split at h
      · rename_i ht
        subst ht
        cases hv with
        | iface _ _ x' hx => exact .iface _ _ _ (matchV_sound hf _ _ _ _ h hl hx)
      · cases h
    · cases h
  | .row i, c, l, v, h, hl, hv => by
    simp only [matchV] at h
    split at h
    · split at h
      · rename_i hi
        subst hi
        cases hv with
        | row _ X ao cap h1 h2 h3 => exact .row i X ao cap (by rw [hf.2]; exact h1) h2 h3
      · cases h
    · cases h
  | .slice b o len cap ex, c, l, v, h, hl, hv => by
    simp only [matchV] at h
    split at h
    · rename_i b' o' len' cap' ex'
      split at h
      · rename_i x sh hx
        split at h
        · rename_i hc
          obtain ⟨rfl, rfl, rfl, hcap, hnone, hoff⟩ := hc
          cases hv with
          | slice _ _ _ _ _ o2 cv L hL h0 h1 h2 =>
            have hm := hf.1 b x sh L hx hL
            rcases hoff with ⟨hlen, rfl⟩ | ⟨rfl, rfl, hne, rfl⟩
            · have ho : o2 = o + sh := by
                rcases h0 with h0 | h0
                · exact h0
                · rcases hlen with hlen | hlen
                  · omega
                  · exact absurd hlen h0.2.2
              subst ho
              have := VRel.slice (g := g2) b o len cap ex o cv (shift L sh) hm (.inl rfl) (fun e => by rw [h1 e, hnone e]) (fun z hz => by
                obtain ⟨q1, q2⟩ := h2 z hz
                simp only [shift]
                exact ⟨by omega, by omega⟩)
              simpa [shift, Nat.add_assoc, Nat.add_comm sh o] using this
            · have := VRel.slice (g := g2) b o 0 0 ex o2 cv (shift L 0) hm (.inr ⟨rfl, rfl, hne⟩) (fun e => absurd e hne) (fun z hz => by
                obtain ⟨q1, q2⟩ := h2 z hz
                simp only [shift]
                exact ⟨Nat.zero_le _, by omega⟩)
              simpa [shift] using this
        · cases h
      · cases h
    · cases h
  | .yield _, b, l, v, h, hl, hv | .rptr _ _ _, b, l, v, h, hl, hv | .int _ _, b, l, v, h, hl, hv | .bool _, b, l, v, h, hl, hv | .float _ _, b, l, v, h, hl, hv | .str _, b, l, v, h, hl, hv | .nilptr, b, l, v, h, hl, hv | .nilslice, b, l, v, h, hl, hv
  | .nilmap, b, l, v, h, hl, hv | .map _, b, l, v, h, hl, hv | .nilfunc, b, l, v, h, hl, hv | .func _ _ _, b, l, v, h, hl, hv | .niliface, b, l, v, h, hl, hv => by
    simp only [matchV] at h
    split at h
    · rename_i hs; exact sameC_rel hs hv
    · cases h
theorem matchL_sound {f : Bm} {g g2 : Inj} (hf : Moves f g g2) : ∀ (a b : List AVal) (l : Asg) (v : List Value), matchL f a b = some l → Fits g.sig g2.sig l → LRel g b v → LRel g2 a v
  | [], b, l, v, h, hl, hv => by
    simp only [matchL] at h
    split at h
    · cases hv; exact .nil
    · cases h
  | a :: r, b, l, v, h, hl, hv => by
    simp only [matchL] at h
    split at h
    · split at h
      · rename_i x y hx hy
        cases h
        cases hv with
        | cons _ u _ m h1 h2 => exact .cons _ _ _ _ (matchV_sound hf _ _ _ _ hx hl.left h1) (matchL_sound hf _ _ _ _ hy hl.right h2)
      · cases h
    · cases h
end

def matchPre (f : Bm) : List AVal → List AVal → Option Asg
  | [], _ => some []
  | a :: l, m => match m with
    | b :: m => match matchV f a b, matchPre f l m with
      | some x, some y => some (x ++ y)
      | _, _ => none
    | [] => none

theorem matchPre_get {f : Bm} : ∀ (c d : List AVal) (l : Asg), matchPre f c d = some l → ∀ (i : Nat) (a : AVal), c[i]? = some a → ∃ b m, d[i]? = some b ∧ matchV f a b = some m ∧ ∀ p, p ∈ m → p ∈ l
  | [], _, _, _, i, a, h => by simp at h
  | x :: c, d, l, h, i, a, hi => by
    simp only [matchPre] at h
    split at h
    · rename_i b d
      split at h
      · rename_i y z hy hz
        cases h
        cases i with
        | zero => simp at hi; subst hi; exact ⟨b, y, by simp, hy, fun p hp => by simp [hp]⟩
        | succ i =>
          obtain ⟨b', m, h1, h2, h3⟩ := matchPre_get c d z hz i a (by simpa using hi)
          exact ⟨b', m, by simpa using h1, h2, fun p hp => by simp [h3 p hp]⟩
      · cases h
    · cases h

def matchB (f : Bm) (src : List Blk) (k : Blk) (i : Nat) : Option Asg :=
  match k with
  | .gone => some []
  | .map _ => none
  | .loop _ => none
  | .dfr => none
  | .iter _ _ _ => none
  | .cells c e => match f[i]? with
    | some (x, sh) => match src[x]? with
      | some (.cells c' e') => if e = e' ∧ sh ≤ c'.length then matchPre f c (c'.drop sh) else none
      | _ => none
    | none => none

def matchH (f : Bm) (src : List Blk) : List Blk → Nat → Option Asg
  | [], _ => some []
  | k :: ks, i => match matchB f src k i, matchH f src ks (i + 1) with
    | some x, some y => some (x ++ y)
    | _, _ => none

theorem matchH_get {f : Bm} {src : List Blk} : ∀ (ks : List Blk) (n : Nat) (l : Asg), matchH f src ks n = some l → ∀ (i : Nat) (k : Blk), ks[i]? = some k → ∃ m, matchB f src k (n + i) = some m ∧ ∀ p, p ∈ m → p ∈ l
  | [], _, _, _, i, k, h => by simp at h
  | x :: ks, n, l, h, i, k, hi => by
    simp only [matchH] at h
    split at h
    · rename_i y z hy hz
      cases h
      cases i with
      | zero => simp at hi; subst hi; exact ⟨y, hy, fun p hp => by simp [hp]⟩
      | succ i =>
        obtain ⟨m, h1, h2⟩ := matchH_get ks (n + 1) z hz i k (by simpa using hi)
        exact ⟨m, by rw [show n + (i + 1) = n + 1 + i by omega]; exact h1, fun p hp => by simp [h2 p hp]⟩
    · cases h

def matchT (f : Bm) (t : Tm) : List (Nat × AVal) → Option Asg
  | [] => some []
  | p :: r => match t.get p.1 with
    | some b => match matchV f p.2 b, matchT f t r with
      | some x, some y => some (x ++ y)
      | _, _ => none
    | none => none

theorem matchT_get {f : Bm} {t : Tm} : ∀ (r : List (Nat × AVal)) (l : Asg), matchT f t r = some l → ∀ p, p ∈ r → ∃ b m, t.get p.1 = some b ∧ matchV f p.2 b = some m ∧ ∀ q, q ∈ m → q ∈ l
  | [], _, _, p, hp => by cases hp
  | q :: r, l, h, p, hp => by
    simp only [matchT] at h
    split at h
    · rename_i b hb
      split at h
      · rename_i x y hx hy
        cases h
        rcases List.mem_cons.1 hp with rfl | hp
        · exact ⟨b, x, hb, hx, fun z hz => by simp [hz]⟩
        · obtain ⟨b', m, h1, h2, h3⟩ := matchT_get r y hy p hp
          exact ⟨b', m, h1, h2, fun z hz => by simp [h3 z hz]⟩
      · cases h
    · cases h

def notIn (x : Nat) : Bm → Bool
  | [] => true
  | p :: l => !(Nat.beq p.1 x) && notIn x l

def noTwice : Bm → Bool
  | [] => true
  | p :: l => notIn p.1 l && noTwice l

theorem notIn_spec {x : Nat} : ∀ {l : Bm}, notIn x l = true → ∀ (i y sh : Nat), l[i]? = some (y, sh) → y ≠ x
  | [], _, i, y, sh, h => by simp at h
  | p :: l, hl, i, y, sh, h => by
    simp only [notIn, Bool.and_eq_true, Bool.not_eq_true'] at hl
    cases i with
    | zero => simp at h; subst h; exact Nat.ne_of_beq_eq_false hl.1
    | succ i => exact notIn_spec hl.2 i y sh (by simpa using h)

theorem noTwice_spec : ∀ {l : Bm}, noTwice l = true → ∀ (i j x sh sh' : Nat), l[i]? = some (x, sh) → l[j]? = some (x, sh') → i = j
  | [], _, i, _, _, _, _, h, _ => by simp at h
  | p :: l, hl, i, j, x, sh, sh', hi, hj => by
    simp only [noTwice, Bool.and_eq_true] at hl
    cases i with
    | zero =>
      cases j with
      | zero => rfl
      | succ j =>
        simp at hi; subst hi
        exact absurd rfl (notIn_spec hl.1 j x sh' (by simpa using hj))
    | succ i =>
      cases j with
      | zero =>
        simp at hj; subst hj
        exact absurd rfl (notIn_spec hl.1 i x sh (by simpa using hi))
      | succ j => rw [noTwice_spec hl.2 i j x sh sh' (by simpa using hi) (by simpa using hj)]

/-- Where the blocks of a pattern lie. -/
def moved (f : Bm) (g : Inj) (τ : Sig) : Inj := ⟨fun b => match f[b]? with
  | some (x, sh) => (g x).map fun L => shift L sh
  | none => none, τ, fun _ => none⟩

theorem moved_moves (f : Bm) (g : Inj) (τ : Sig) (he : τ.ext = g.sig.ext) : Moves f g (moved f g τ) := by
  refine ⟨?_, he⟩
  intro b x sh L h1 h2
  simp [moved, h1, h2]

theorem moved_from {f : Bm} {g : Inj} {τ : Sig} {b : Nat} {M : Loc} (h : moved f g τ b = some M) : ∃ x sh L, f[b]? = some (x, sh) ∧ g x = some L ∧ M = shift L sh := by
  simp only [moved] at h
  split at h
  · rename_i x sh hx
    simp only [Option.map_eq_some_iff] at h
    obtain ⟨L, hL, rfl⟩ := h
    exact ⟨x, sh, L, hx, hL, rfl⟩
  · cases h

theorem rematch {ng ng2 : Cx} {f : Bm} {g : Inj} {τ : Sig} {H pats : List Blk} {w : World} {l : Asg} (hH : HRel ng g H w) (h0 : ng2.n = 0) (hG : ng2.Good τ) (hlen : f.length = pats.length) (htw : noTwice f = true) (hm : matchH f H pats 0 = some l) (hl : Fits g.sig τ l) (he : τ.ext = g.sig.ext) :
    HRel ng2 (moved f g τ) pats w := by
  have cell : ∀ (i : Nat) (k : Blk), pats[i]? = some k → k ≠ .gone → ∃ c e x sh c' m, k = .cells c e ∧ f[i]? = some (x, sh) ∧ H[x]? = some (.cells c' e) ∧ sh ≤ c'.length ∧ matchPre f c (c'.drop sh) = some m ∧ ∀ p, p ∈ m → p ∈ l := by
    intro i k hi hk
    obtain ⟨m, h1, h2⟩ := matchH_get pats 0 l hm i k hi
    rw [Nat.zero_add] at h1
    unfold matchB at h1
    split at h1
    · exact absurd rfl hk
    · cases h1
    · cases h1
    · cases h1
    · cases h1
    · rename_i c e
      split at h1
      · rename_i x sh hx
        split at h1
        · rename_i c' e' hc
          split at h1
          · rename_i hcond
            obtain ⟨rfl, hs⟩ := hcond
            exact ⟨c, e, x, sh, c', m, rfl, hx, hc, hs, h1, h2⟩
          · cases h1
        · cases h1
      · cases h1
  have live : ∀ (i x sh : Nat), Live pats i → f[i]? = some (x, sh) → Live H x := by
    rintro i x sh ⟨k, hk, hne⟩ hx
    obtain ⟨c, e, x', sh', c', m, rfl, hx', hc, _⟩ := cell i k hk hne
    rw [hx] at hx'; cases hx'
    exact ⟨_, hc, by simp⟩
  refine ⟨?_, ?_, ?_, fun i hi => by omega, hG, ⟨?_, fun i X hi => by cases hi⟩⟩
  rotate_left 3
  · intro i X hi hlen'
    have hi : g.sig.ext i = some X := by rw [← he]; exact hi
    refine ⟨(hH.frz.row i X hi hlen').1, ?_⟩
    intro j M hj lj
    obtain ⟨x, sh, L, h1, h2, rfl⟩ := moved_from hj
    exact (hH.frz.row i X hi hlen').2 x L h2 (live j x sh lj h1)
  · intro i M hi
    obtain ⟨x, sh, L, h1, h2, rfl⟩ := moved_from hi
    exact ⟨by rw [← hlen]; exact (List.getElem?_eq_some_iff.1 h1).1, (hH.dom x L h2).2⟩
  · intro i j M N hi hj hb li lj
    obtain ⟨x, sh, L, h1, h2, rfl⟩ := moved_from hi
    obtain ⟨x', sh', L', h1', h2', rfl⟩ := moved_from hj
    have := hH.inj x x' L L' h2 h2' hb (live i x sh li h1) (live j x' sh' lj h1')
    subst this
    exact noTwice_spec htw i j x sh sh' h1 h1'
  · intro i k hi hk
    obtain ⟨c, e, x, sh, c', m, rfl, hx, hc, hs, hpre, hsub⟩ := cell i k hi hk
    obtain ⟨L, hL, C, fr, b1, b2, b3, b4, b5⟩ := hH.blk x _ hc (by simp)
    refine ⟨shift L sh, (moved_moves f g τ he).1 i x sh L hx hL, C, fr, b1, by simp only [shift]; omega, b3, ?_, ?_⟩
    · have hle : c.length ≤ (c'.drop sh).length := by
        rcases Nat.lt_or_ge (c'.drop sh).length c.length with h9 | h9
        · have hget : c[(c'.drop sh).length]? = some c[(c'.drop sh).length] := by simp
          obtain ⟨b, _, hb, _⟩ := matchPre_get c _ m hpre _ _ hget
          have := (List.getElem?_eq_some_iff.1 hb).1
          omega
        · exact h9
      simp only [List.length_drop] at hle
      simp only [shift]; omega
    · intro j a hj
      obtain ⟨b, m', q1, q2, q3⟩ := matchPre_get c _ m hpre j a hj
      rw [List.getElem?_drop] at q1
      obtain ⟨v, r1, r2, r3⟩ := b5 (sh + j) b q1
      refine ⟨v, ?_, matchV_sound (moved_moves f g τ he) a b m' v q2 (fun p hp => hl p (hsub p (q3 p hp))) r2, r3⟩
      simpa [shift, Nat.add_assoc] using r1

/-! ### States -/

def cx0 (tab : TabF) : Cx := { n := 0, look := fun _ => none, fact := fun _ => none, tab := tab }

theorem cx0_good {tab : TabF} {σ : Sig} (h : σ.tab = tab) : (cx0 tab).Good σ :=
  ⟨fun _ _ h => by simp [cx0] at h, fun _ _ h => by simp [cx0] at h, fun _ _ h => by simp [cx0] at h, h, fun _ _ _ h => by simp [cx0] at h, fun _ _ _ _ h => by simp [cx0] at h, fun _ _ _ _ h => by simp [cx0] at h, fun _ _ h => by simp [cx0] at h, fun _ _ h => by simp [cx0] at h, trivial⟩

/-- The state is of a shape, for unknowns: all that it knows lies in blocks that are new since w0, and all others are as they were. -/
structure At (tab : TabF) (s : Shape) (n : Nat) (σ : Sig) (w0 : World) (a : Act) (w : World) : Prop where
  ex : ∃ g : Inj, g.sig = σ ∧ HRel (cx0 tab) g s.heap w ∧ (∀ p, p ∈ s.t → ∃ u, a.tmps[p.1]? = some u ∧ VRel g p.2 u) ∧ ∀ i L, g i = some L → w0.heap.size ≤ L.blk
  below : RowKit.Below w0.heap.size w0 w
  size : a.tmps.size = n
  defers : a.defers = []

inductive SEx where
  | normal
  | exit (i : Nat)
  | ret

def sameX : SEx → Ex → Bool
  | .normal, .normal => true
  | .exit i, .exit j => Nat.beq i j
  | .ret, .ret => true
  | _, _ => false

def SExRel : SEx → Exit → Prop
  | .normal, .normal => True
  | .exit i, .exit j => i = j
  | .ret, .ret => True
  | _, _ => False

theorem sameX_rel {g : Inj} {x : SEx} {y : Ex} {e : Exit} (h : sameX x y = true) (hr : ExRel g y e) : SExRel x e := by
  cases x <;> cases y <;> simp only [sameX, Bool.false_eq_true] at h <;> cases e <;> simp only [ExRel] at hr <;> simp only [SExRel]
  have := Nat.eq_of_beq_eq_true h
  omega

def findAs : Asg → Nat → Option AVal
  | [], _ => none
  | p :: l, i => match Nat.beq p.1 i with
    | true => some p.2
    | false => findAs l i

def consB (l : Asg) : List (Nat × AVal) → Bool
  | [] => true
  | p :: r => (match findAs l p.1 with
    | some y => sameV p.2 y
    | none => false) && consB l r

def iOf : AVal → Int
  | .int _ n => n
  | _ => 0
def bOf : AVal → Bool
  | .bool b => b
  | _ => false
def sOf : AVal → ByteArray
  | .str s => s
  | _ => .empty

/-- what an entry stands for; a pointer into a row: for what lies there -/
def valS (σ : Sig) : AVal → AVal
  | .rptr i ix j => match σ.ext i with
    | some X => X.val (iOf (den σ ix)).toNat j
    | none => .nilptr
  | a => den σ a

/-- the unknowns that an assignment makes of others -/
def asgS (σ : Sig) (l : Asg) : Sig where
  ival := fun i => match findAs l i with
    | some x => iOf (valS σ x)
    | none => 0
  bval := fun i => match findAs l i with
    | some x => bOf (valS σ x)
    | none => false
  sval := fun i => match findAs l i with
    | some x => sOf (valS σ x)
    | none => .empty
  tab := σ.tab
  ext := σ.ext

theorem consB_spec {l : Asg} : ∀ {r : List (Nat × AVal)}, consB l r = true → ∀ p, p ∈ r → findAs l p.1 = some p.2
  | [], _, p, hp => by cases hp
  | q :: r, h, p, hp => by
    simp only [consB, Bool.and_eq_true] at h
    rcases List.mem_cons.1 hp with rfl | hp
    · have h1 := h.1
      split at h1
      · rename_i y hy; rw [hy, sameV_eq h1]
      · cases h1
    · exact consB_spec h.2 p hp

theorem findAs_append {x : Asg} (y : Asg) {i : Nat} {v : AVal} (h : findAs x i = some v) : findAs (x ++ y) i = some v := by
  induction x with
  | nil => simp [findAs] at h
  | cons p l ih =>
    simp only [List.cons_append, findAs] at h ⊢
    split at h
    · exact h
    · exact ih h

theorem fits_asg {σ : Sig} {l : Asg} (ex : Asg) (h : consB l l = true) : Fits σ (asgS σ (l ++ ex)) l := by
  intro p hp
  have := findAs_append ex (consB_spec h p hp)
  have hv : ∀ a, den σ p.2 = a → (∀ i ix j, p.2 = .rptr i ix j → False) → valS σ p.2 = a := by
    intro a ha hne
    unfold valS
    split
    · rename_i i ix j he; exact (hne i ix j he).elim
    · exact ha
  refine ⟨fun k n hn => ?_, fun b hn => ?_, fun s hn => ?_⟩
  · rw [show (asgS σ (l ++ ex)).ival p.1 = iOf (valS σ p.2) by simp only [asgS, this], hv _ hn (fun i ix j he => by rw [he] at hn; cases hn)]; rfl
  · rw [show (asgS σ (l ++ ex)).bval p.1 = bOf (valS σ p.2) by simp only [asgS, this], hv _ hn (fun i ix j he => by rw [he] at hn; cases hn)]; rfl
  · rw [show (asgS σ (l ++ ex)).sval p.1 = sOf (valS σ p.2) by simp only [asgS, this], hv _ hn (fun i ix j he => by rw [he] at hn; cases hn)]; rfl

def sameAs : Asg → Asg → Bool
  | [], [] => true
  | p :: l, q :: m => Nat.beq p.1 q.1 && sameV p.2 q.2 && sameAs l m
  | _, _ => false

theorem sameAs_eq : ∀ {l m : Asg}, sameAs l m = true → l = m
  | [], [], _ => rfl
  | (a, b) :: l, (c, d) :: m, h => by
    simp only [sameAs, Bool.and_eq_true] at h
    obtain ⟨⟨h1, h2⟩, h3⟩ := h
    have := Nat.eq_of_beq_eq_true h1
    rw [sameAs_eq h3, sameV_eq h2, this]
  | [], _ :: _, h => by simp [sameAs] at h
  | _ :: _, [], h => by simp [sameAs] at h

/-- Does a state match a shape, with just this assignment? -/
def matchS (f : Bm) (s : Shape) (t : Tm) (H : List Blk) (l : Asg) : Bool :=
  match matchT f t s.t, matchH f H s.heap 0 with
  | some x, some y => sameAs (x ++ y) l && Nat.beq f.length s.heap.length && noTwice f
  | _, _ => false

theorem matchS_spec {f : Bm} {s : Shape} {t : Tm} {H : List Blk} {l : Asg} (h : matchS f s t H l = true) : ∃ x y, matchT f t s.t = some x ∧ matchH f H s.heap 0 = some y ∧ l = x ++ y ∧ f.length = s.heap.length ∧ noTwice f = true := by
  unfold matchS at h
  split at h
  · rename_i x y hx hy
    simp only [Bool.and_eq_true] at h
    obtain ⟨⟨h1, h2⟩, h3⟩ := h
    exact ⟨x, y, hx, hy, (sameAs_eq h1).symm, Nat.eq_of_beq_eq_true h2, h3⟩
  · cases h

def notPtr : AVal → Bool
  | .rptr _ _ _ => false
  | _ => true

/-- An unknown that comes twice: as the same, or as plain values (that are to be shown equal). -/
def consE (l : Asg) : List (Nat × AVal) → Bool
  | [] => true
  | p :: r => (match findAs l p.1 with
    | some y => sameV p.2 y || (notPtr p.2 && notPtr y)
    | none => false) && consE l r

/-- What is to be shown of unknowns that come twice. -/
def EqsL (σ : Sig) (l : Asg) : List (Nat × AVal) → Prop
  | [] => True
  | p :: r => match findAs l p.1 with
    | some y => match sameV p.2 y with
      | true => EqsL σ l r
      | false => den σ p.2 = den σ y ∧ EqsL σ l r
    | none => EqsL σ l r

theorem valS_plain {σ : Sig} {a : AVal} (h : notPtr a = true) : valS σ a = den σ a := by
  cases a <;> first | rfl | simp [notPtr] at h

theorem eqsL_val {σ : Sig} {l : Asg} : ∀ {r : List (Nat × AVal)}, consE l r = true → EqsL σ l r → ∀ p, p ∈ r → ∃ y, findAs l p.1 = some y ∧ valS σ p.2 = valS σ y
  | [], _, _, p, hp => by cases hp
  | q :: r, h, he, p, hp => by
    simp only [consE, Bool.and_eq_true] at h
    obtain ⟨h1, h2⟩ := h
    split at h1
    · rename_i y hy
      simp only [EqsL, hy] at he
      have hr : EqsL σ l r := by
        split at he
        · exact he
        · exact he.2
      rcases List.mem_cons.1 hp with rfl | hp
      · refine ⟨y, hy, ?_⟩
        split at he
        · rename_i hs; rw [sameV_eq hs]
        · rename_i hs
          rw [hs, Bool.false_or, Bool.and_eq_true] at h1
          rw [valS_plain h1.1, valS_plain h1.2]; exact he.1
      · exact eqsL_val h2 hr p hp
    · cases h1

theorem fits_eqs {σ : Sig} {l : Asg} (ex : Asg) (h : consE l l = true) (he : EqsL σ l l) : Fits σ (asgS σ (l ++ ex)) l := by
  intro p hp
  obtain ⟨y, h1, h2⟩ := eqsL_val h he p hp
  have := findAs_append ex h1
  have hv : ∀ a, den σ p.2 = a → (∀ i ix j, p.2 = .rptr i ix j → False) → valS σ p.2 = a := by
    intro a ha hne
    unfold valS
    split
    · rename_i i ix j he; exact (hne i ix j he).elim
    · exact ha
  refine ⟨fun k n hn => ?_, fun b hn => ?_, fun s hn => ?_⟩
  · rw [show (asgS σ (l ++ ex)).ival p.1 = iOf (valS σ p.2) by simp only [asgS, this, h2], hv _ hn (fun i ix j he => by rw [he] at hn; cases hn)]; rfl
  · rw [show (asgS σ (l ++ ex)).bval p.1 = bOf (valS σ p.2) by simp only [asgS, this, h2], hv _ hn (fun i ix j he => by rw [he] at hn; cases hn)]; rfl
  · rw [show (asgS σ (l ++ ex)).sval p.1 = sOf (valS σ p.2) by simp only [asgS, this, h2], hv _ hn (fun i ix j he => by rw [he] at hn; cases hn)]; rfl

def idF : Nat → Nat → Bm
  | 0, _ => []
  | n + 1, i => (i, 0) :: idF n (i + 1)

/-- An empty tree of temporaries. -/
def TT.skel (n : Nat) : Nat → Nat → Nat → TT
  | 0, _, _ => .e
  | k + 1, o, s => match Nat.blt o n with
    | true => .n (TT.skel n k (o + s) (2 * s)) none (TT.skel n k (o + 2 * s) (2 * s))
    | false => .e

theorem TT.get_skel (n : Nat) : ∀ (k o s i : Nat), (TT.skel n k o s).get i = none
  | 0, _, _, _ => rfl
  | k + 1, o, s, i => by
    simp only [TT.skel]
    split
    · cases i with
      | zero => rfl
      | succ i =>
        simp only [TT.get]
        split <;> exact TT.get_skel n k _ _ _
    · rfl

def putsT (t : TT) : List (Nat × AVal) → TT
  | [] => t
  | p :: l => putsT (t.put p.1 p.2) l

theorem putsT_get {i : Nat} {v : AVal} : ∀ (l : List (Nat × AVal)) (t : TT), (putsT t l).get i = some v → (i, v) ∈ l ∨ t.get i = some v
  | [], _, h => .inr h
  | p :: l, t, h => by
    rcases putsT_get l _ h with h | h
    · exact .inl (List.mem_cons_of_mem _ h)
    · rcases TT.get_put t p.1 i p.2 v h with ⟨rfl, rfl⟩ | ⟨_, h⟩
      · exact .inl (by simp)
      · exact .inr h

def tmOf (s : Shape) (n : Nat) : Tm := ⟨n, putsT (TT.skel n 12 0 1) s.t, []⟩

theorem tmOf_get {s : Shape} {n i : Nat} {v : AVal} (h : (tmOf s n).get i = some v) : (i, v) ∈ s.t := by
  rcases putsT_get _ _ (Tm.get_tr h) with h | h
  · exact h
  · rw [TT.get_skel] at h; cases h

def idAsg (m : Nat) : Asg → Bool
  | [] => true
  | p :: l => (match p.2 with
    | .symi _ j => Nat.beq p.1 j && Nat.blt j m
    | .symb j => Nat.beq p.1 j && Nat.blt j m
    | .syms j => Nat.beq p.1 j && Nat.blt j m
    | _ => false) && idAsg m l

/-- A shape whose unknowns are the first m. -/
def idOk (s : Shape) (m : Nat) : Bool :=
  match matchL (idF s.heap.length 0) (s.t.map (·.2)) (s.t.map (·.2)), matchH (idF s.heap.length 0) s.heap s.heap 0 with
  | some x, some y => idAsg m x && idAsg m y && noTwice (idF s.heap.length 0)
  | _, _ => false

theorem idF_length : ∀ (n i : Nat), (idF n i).length = n
  | 0, _ => rfl
  | n + 1, i => by simp [idF, idF_length n]

theorem idF_get : ∀ (n i b x sh : Nat), (idF n i)[b]? = some (x, sh) → x = i + b ∧ sh = 0
  | 0, _, _, _, _, h => by simp [idF] at h
  | n + 1, i, 0, x, sh, h => by simp [idF] at h; omega
  | n + 1, i, b + 1, x, sh, h => by
    have := idF_get n (i + 1) b x sh (by simpa [idF] using h)
    omega

theorem idAsg_fits {m : Nat} {σ τ : Sig} (h : Agree m σ τ) : ∀ {l : Asg}, idAsg m l = true → Fits σ τ l
  | [], _ => fun p hp => by cases hp
  | q :: l, hl => by
    simp only [idAsg, Bool.and_eq_true] at hl
    intro p hp
    rcases List.mem_cons.1 hp with rfl | hp
    · have h1 := hl.1
      split at h1
      all_goals first
        | cases h1
        | skip
      all_goals
        rename_i hx
        simp only [Bool.and_eq_true] at h1
        have e := Nat.eq_of_beq_eq_true h1.1
        have lt : p.1 < m := by rw [e]; simpa using h1.2
        have hv := h.val _ lt
        rw [hx, ← e]
        refine ⟨fun k n hn => ?_, fun b hn => ?_, fun s hn => ?_⟩ <;> simp only [den, AVal.int.injEq, AVal.bool.injEq, AVal.str.injEq, reduceCtorEq] at hn
        first
          | exact hv.1.symm.trans hn.2
          | exact hv.2.1.symm.trans hn
          | exact hv.2.2.symm.trans hn
    · exact idAsg_fits h hl.2 p hp

theorem matchL_mem {f : Bm} : ∀ (c d : List AVal) (l : Asg), matchL f c d = some l → c = d → ∀ a, a ∈ c → ∃ m, matchV f a a = some m ∧ ∀ p, p ∈ m → p ∈ l
  | [], _, _, _, _, a, ha => by cases ha
  | x :: c, d, l, h, he, a, ha => by
    subst he
    simp only [matchL] at h
    split at h
    · rename_i y z hy hz
      cases h
      rcases List.mem_cons.1 ha with rfl | ha
      · exact ⟨y, hy, fun p hp => by simp [hp]⟩
      · obtain ⟨m, h1, h2⟩ := matchL_mem c c z hz rfl a ha
        exact ⟨m, h1, fun p hp => by simp [h2 p hp]⟩
    · cases h

/-! ### Segments -/

/-- What a segment comes to. -/
inductive Sv where
  | leaf (x : SEx) (s : Shape) (f : Bm) (l ex : Asg)      -- 'ex': unknowns of its own
  | leafE (x : SEx) (s : Shape) (f : Bm) (l ex : Asg)      -- unknowns that come twice are to be shown equal
  | req (o : Ob) (v : Sv)
  | dead
  | node (i : Nat) (yes no : Sv)
  | pick (i : Nat) (n : Int) (yes no : Sv)

def noDf : List ADef → Bool
  | [] => true
  | _ => false

def okS : Tree (Ex × Tm × Hp) → Sv → Bool
  | .leaf y, .leaf x s f l _ => sameX x y.1 && (noDf y.2.1.df && (matchS f s y.2.1 y.2.2.heap l && consB l l))
  | .leaf y, .leafE x s f l _ => sameX x y.1 && (noDf y.2.1.df && (matchS f s y.2.1 y.2.2.heap l && consE l l))
  | _, .dead => true
  | .node i y n, .node j y' n' => Nat.beq i j && (okS y y' && okS n n')
  | .pick i k y n, .pick j k' y' n' => Nat.beq i j && (decide (k = k') && (okS y y' && okS n n'))
  | .req o t, .req o' v => eqOb o o' && okS t v
  | .or y n, v => okS y v && okS n v
  | _, _ => false

/-- What is to be shown of the leaves. -/
def segs (σ : Sig) (Q : SEx → Shape → Sig → Prop) : Sv → List Fact → Prop
  | .leaf x s _ l ex, F => Holds σ F → Q x s (asgS σ (l ++ ex))
  | .leafE x s _ l ex, F => Holds σ F → EqsL σ l l ∧ Q x s (asgS σ (l ++ ex))
  | .req o v, F => (Holds σ F → o.Sat σ) ∧ segs σ Q v F
  | .dead, F => ¬ Holds σ F
  | .node i y n, F => segs σ Q y (.tru i true :: F) ∧ segs σ Q n (.tru i false :: F)
  | .pick i k y n, F => segs σ Q y (.isn i k :: F) ∧ segs σ Q n (.non i k :: F)

/-- An end, as it was told. -/
def EndS (σ : Sig) (Q : SEx → Shape → Sig → Prop) (y : Ex × Tm × Hp) : Prop :=
  ∃ x s f l ex, sameX x y.1 = true ∧ y.2.1.df = [] ∧ matchS f s y.2.1 y.2.2.heap l = true ∧ Fits σ (asgS σ (l ++ ex)) l ∧ Q x s (asgS σ (l ++ ex))

theorem okS_sat {σ : Sig} {Q : SEx → Shape → Sig → Prop} : ∀ {T : Tree (Ex × Tm × Hp)} {V : Sv} {F : List Fact}, okS T V = true → segs σ Q V F → Holds σ F → Sat σ (EndS σ Q) T
  | T, .dead, F, _, hv, hF => absurd hF hv
  | .leaf y, .leaf x s f l ex, F, h, hv, hF => by
    simp only [okS, Bool.and_eq_true] at h
    refine ⟨x, s, f, l, ex, h.1, ?_, h.2.2.1, fits_asg ex h.2.2.2, hv hF⟩
    have := h.2.1
    unfold noDf at this
    split at this
    · assumption
    · cases this
  | .leaf y, .leafE x s f l ex, F, h, hv, hF => by
    simp only [okS, Bool.and_eq_true] at h
    obtain ⟨hv1, hv2⟩ := hv hF
    refine ⟨x, s, f, l, ex, h.1, ?_, h.2.2.1, fits_eqs ex h.2.2.2 hv1, hv2⟩
    have := h.2.1
    unfold noDf at this
    split at this
    · assumption
    · cases this
  | .node i y n, .node j y' n', F, h, hv, hF => by
    simp only [okS, Bool.and_eq_true] at h
    have := Nat.eq_of_beq_eq_true h.1
    subst this
    exact ⟨fun e => okS_sat h.2.1 hv.1 (holds_cons (.tru _ _) e hF), fun e => okS_sat h.2.2 hv.2 (holds_cons (.tru _ _) e hF)⟩
  | .pick i k y n, .pick j k' y' n', F, h, hv, hF => by
    simp only [okS, Bool.and_eq_true, decide_eq_true_eq] at h
    have := Nat.eq_of_beq_eq_true h.1
    subst this
    obtain ⟨rfl, h1, h2⟩ := h.2
    exact ⟨fun e => okS_sat h1 hv.1 (holds_cons (.isn _ _) e hF), fun e => okS_sat h2 hv.2 (holds_cons (.non _ _) e hF)⟩
  | .req o t, .req o' v, F, h, hv, hF => by
    simp only [okS, Bool.and_eq_true] at h
    have := eqOb_eq _ _ h.1
    subst this
    exact ⟨hv.1 hF, okS_sat h.2 hv.2 hF⟩
  | .or y n, .leaf _ _ _ _ _, F, h, hv, hF => by
    simp only [okS, Bool.and_eq_true] at h
    exact ⟨okS_sat h.1 hv hF, okS_sat h.2 hv hF⟩
  | .or y n, .leafE _ _ _ _ _, F, h, hv, hF => by
    simp only [okS, Bool.and_eq_true] at h
    exact ⟨okS_sat h.1 hv hF, okS_sat h.2 hv hF⟩
  | .or y n, .node i a b, F, h, hv, hF => by
    simp only [okS, Bool.and_eq_true] at h
    exact ⟨okS_sat h.1 hv hF, okS_sat h.2 hv hF⟩
  | .or y n, .pick i k a b, F, h, hv, hF => by
    simp only [okS, Bool.and_eq_true] at h
    exact ⟨okS_sat h.1 hv hF, okS_sat h.2 hv hF⟩
  | .or y n, .req o v, F, h, hv, hF => by
    simp only [okS, Bool.and_eq_true] at h
    exact ⟨okS_sat h.1 hv hF, okS_sat h.2 hv hF⟩
  | .leaf _, .node _ _ _, _, h, _, _ => by simp [okS] at h
  | .leaf _, .pick _ _ _ _, _, h, _, _ => by simp [okS] at h
  | .leaf _, .req _ _, _, h, _, _ => by simp [okS] at h
  | .node _ _ _, .leaf _ _ _ _ _, _, h, _, _ => by simp [okS] at h
  | .node _ _ _, .leafE _ _ _ _ _, _, h, _, _ => by simp [okS] at h
  | .node _ _ _, .pick _ _ _ _, _, h, _, _ => by simp [okS] at h
  | .node _ _ _, .req _ _, _, h, _, _ => by simp [okS] at h
  | .pick _ _ _ _, .leaf _ _ _ _ _, _, h, _, _ => by simp [okS] at h
  | .pick _ _ _ _, .leafE _ _ _ _ _, _, h, _, _ => by simp [okS] at h
  | .pick _ _ _ _, .node _ _ _, _, h, _, _ => by simp [okS] at h
  | .pick _ _ _ _, .req _ _, _, h, _, _ => by simp [okS] at h
  | .req _ _, .leaf _ _ _ _ _, _, h, _, _ => by simp [okS] at h
  | .req _ _, .leafE _ _ _ _ _, _, h, _, _ => by simp [okS] at h
  | .req _ _, .node _ _ _, _, h, _, _ => by simp [okS] at h
  | .req _ _, .pick _ _ _ _, _, h, _, _ => by simp [okS] at h
  | .dead, .leaf _ _ _ _ _, _, h, _, _ => by simp [okS] at h
  | .dead, .leafE _ _ _ _ _, _, h, _, _ => by simp [okS] at h
  | .dead, .node _ _ _, _, h, _, _ => by simp [okS] at h
  | .dead, .pick _ _ _ _, _, h, _, _ => by simp [okS] at h
  | .dead, .req _ _, _, h, _, _ => by simp [okS] at h

/-- Splits ahead of a segment. -/
inductive Sw where
  | run (v : Sv)
  | dead
  | node (i : Nat) (yes no : Sw)
  | pick (i : Nat) (n : Int) (yes no : Sw)

def okSw (run : List Fact → Tree (Ex × Tm × Hp)) : Sw → List Fact → Bool
  | .run v, F => okS (run F) v
  | .dead, _ => true
  | .node i y n, F => okSw run y (.tru i true :: F) && okSw run n (.tru i false :: F)
  | .pick i k y n, F => okSw run y (.isn i k :: F) && okSw run n (.non i k :: F)

def segsW (σ : Sig) (Q : SEx → Shape → Sig → Prop) : Sw → List Fact → Prop
  | .run v, F => segs σ Q v F
  | .dead, F => ¬ Holds σ F
  | .node i y n, F => segsW σ Q y (.tru i true :: F) ∧ segsW σ Q n (.tru i false :: F)
  | .pick i k y n, F => segsW σ Q y (.isn i k :: F) ∧ segsW σ Q n (.non i k :: F)

theorem okSw_sat {σ : Sig} {Q : SEx → Shape → Sig → Prop} {run : List Fact → Tree (Ex × Tm × Hp)} : ∀ {W : Sw} {F : List Fact}, okSw run W F = true → segsW σ Q W F → Holds σ F → ∃ F', Holds σ F' ∧ Sat σ (EndS σ Q) (run F')
  | .run v, F, h, hv, hF => ⟨F, hF, okS_sat h hv hF⟩
  | .dead, _, _, hv, hF => absurd hF hv
  | .node i y n, F, h, hv, hF => by
    simp only [okSw, Bool.and_eq_true] at h
    cases hb : σ.bval i with
    | true => exact okSw_sat h.1 hv.1 (holds_cons (.tru i true) hb hF)
    | false => exact okSw_sat h.2 hv.2 (holds_cons (.tru i false) hb hF)
  | .pick i k y n, F, h, hv, hF => by
    simp only [okSw, Bool.and_eq_true] at h
    rcases Classical.em (σ.ival i = k) with hb | hb
    · exact okSw_sat h.1 hv.1 (holds_cons (.isn i k) hb hF)
    · exact okSw_sat h.2 hv.2 (holds_cons (.non i k) hb hF)

/-! ### Code in pieces -/

def chainK (P : Program) : List Code → (Act → World → Prop) → (Exit → Act → World → Prop) → Act → World → Prop
  | [], K, _ => K
  | x :: l, K, Q => fun a w => x.wpIn (FR none) 0 P (Exit.then (chainK P l K Q) Q) a w

theorem then_then {K J : Act → World → Prop} {Q : Exit → Act → World → Prop} : Exit.then K (Exit.then J Q) = Exit.then K Q := by
  funext e a w; cases e <;> rfl

theorem then_self {Q : Exit → Act → World → Prop} : Exit.then (Q .normal) Q = Q := by
  funext e a w; cases e <;> rfl

theorem chainK_then {P : Program} {J : Act → World → Prop} {Q : Exit → Act → World → Prop} : ∀ (l : List Code) (K : Act → World → Prop), chainK P l K (Exit.then J Q) = chainK P l K Q
  | [], _ => rfl
  | x :: l, K => by
    funext a w
    simp only [chainK, chainK_then l K, then_then]

theorem chainK_append {P : Program} {Q : Exit → Act → World → Prop} : ∀ (l m : List Code) (K : Act → World → Prop), chainK P (l ++ m) K Q = chainK P l (chainK P m K Q) Q
  | [], _, _ => rfl
  | x :: l, m, K => by
    funext a w
    simp only [List.cons_append, chainK, chainK_append l m K]

/-- The pieces of code around its first loop. -/
def cutC : Code → Option (List Code × (Nat × Code) × List Code)
  | .seq x y => match cutC x with
    | some (pre, lp, post) => some (pre, lp, post ++ [y])
    | none => match cutC y with
      | some (pre, lp, post) => some (x :: pre, lp, post)
      | none => none
  | .block id c => match c with
    | .loop b => some ([], (id, b), [])
    | _ => none
  | _ => none

theorem cut_wp {P : Program} : ∀ (c : Code) (pre : List Code) (id : Nat) (b : Code) (post : List Code) (Q : Exit → Act → World → Prop) (a : Act) (w : World), cutC c = some (pre, (id, b), post) →
    chainK P pre (fun a w => (Code.block id (.loop b)).wpIn (FR none) 0 P (Exit.then (chainK P post (Q .normal) Q) Q) a w) Q a w → c.wpIn (FR none) 0 P Q a w
  | .seq x y, pre, id, b, post, Q, a, w, h, hw => by
    simp only [cutC] at h
    split at h
    · rename_i pre' lp post' hx
      cases h
      refine wpIn_seq (cut_wp x pre id b post' _ a w hx ?_)
      rw [chainK_then]
      rw [chainK_append] at hw
      have e : chainK P post' (Exit.then (y.wpIn (FR none) 0 P Q) Q .normal) (Exit.then (y.wpIn (FR none) 0 P Q) Q) = chainK P post' (chainK P [y] (Q .normal) Q) Q := by
        rw [chainK_then]
        simp only [chainK]
        congr 1
        funext a w
        rw [then_self]
        rfl
      rw [e, then_then]
      exact hw
    · split at h
      · rename_i pre' lp post' hy
        cases h
        refine wpIn_seq ?_
        simp only [chainK] at hw
        refine wpIn_mono hw fun e a' w' he => ?_
        cases e with
        | normal => exact cut_wp y pre' id b post Q a' w' hy he
        | _ => exact he
      · cases h
  | .block i c, pre, id, b, post, Q, a, w, h, hw => by
    simp only [cutC] at h
    split at h
    · cases h
      simp only [chainK, then_self] at hw
      exact hw
    · cases h
  | .skip, _, _, _, _, _, _, _, h, _ | .region _ _ _, _, _, _, _, _, _, _, h, _ | .cond _ _ _, _, _, _, _, _, _, _, h, _ | .loop _, _, _, _, _, _, _, _, h, _ | .rangeFunc _ _ _ _, _, _, _, _, _, _, _, h, _
  | .exit _, _, _, _, _, _, _, _, h, _ | .ret, _, _, _, _, _, _, _, h, _ | .label _, _, _, _, _, _, _, _, h, _ | .goto _, _, _, _, _, _, _, _, h, _ | .scope _, _, _, _, _, _, _, _, h, _ | .refuse _, _, _, _, _, _, _, _, h, _ => by
    simp [cutC] at h

def preOf (c : Code) : List Code :=
  match cutC c with
  | some (p, _, _) => p
  | none => []
def loopOf (c : Code) : Code :=
  match cutC c with
  | some (_, (_, b), _) => b
  | none => .skip
def idOf (c : Code) : Nat :=
  match cutC c with
  | some (_, (i, _), _) => i
  | none => 0
def postOf (c : Code) : List Code :=
  match cutC c with
  | some (_, _, p) => p
  | none => []

theorem cut_of {P : Program} {c : Code} {Q : Exit → Act → World → Prop} {a : Act} {w : World} (h : (cutC c).isSome = true)
    (hw : chainK P (preOf c) (fun a w => (Code.block (idOf c) (.loop (loopOf c))).wpIn (FR none) 0 P (Exit.then (chainK P (postOf c) (Q .normal) Q) Q) a w) Q a w) : c.wpIn (FR none) 0 P Q a w := by
  cases hc : cutC c with
  | none => rw [hc] at h; cases h
  | some r =>
    obtain ⟨pre, ⟨id, b⟩, post⟩ := r
    refine cut_wp c pre id b post Q a w hc ?_
    simpa only [preOf, idOf, loopOf, postOf, hc] using hw

def bodyOf (f : Func) : Code :=
  match f.body with
  | some c => c
  | none => .skip

/-! ### A row of pieces, run -/

def runL (P : Program) (C : CxF) (mb : Bool) (fuel : Nat) (call : CallF) (round : RoundF) : List Code → List Fact → Tm → Hp → Tree (Ex × Tm × Hp)
  | [], _, t, hp => .leaf (.normal, t, hp)
  | c :: l, F, t, hp => bindT F (codeT P C mb fuel call round false c F t hp) fun F' x => match x with
    | (.normal, t', hp') => runL P C mb fuel call round l F' t' hp'
    | x => .leaf x

theorem runL_sound {P : Program} {C : CxF} {mb : Bool} {fuel : Nat} {call : CallF} {round : RoundF} (E : Env P C call round) : ∀ (l : List Code) (F : List Fact) (t : Tm) (hp : Hp) (Q : Ex × Tm × Hp → Prop) (g : Inj) (w : World) (a : Act),
    HRel (C F) g hp.heap w → FRel g t a → Sat g.sig Q (runL P C mb fuel call round l F t hp) → ∀ (K : Act → World → Prop) (Z : Exit → Act → World → Prop), (∀ e a' w' x, Q x → CodeQ (C F) hp g w a x e a' w' → Exit.then K Z e a' w') → chainK P l K Z a w
  | [], F, t, hp, Q, g, w, a, hH, ht, hs, K, Z, hq => hq .normal a w _ hs ⟨Touch.refl _, g, trivial, hH, Ext.refl _ _ _, ht, rfl⟩
  | c :: l, F, t, hp, Q, g, w, a, hH, ht, hs, K, Z, hq => by
    simp only [runL] at hs
    have hs := sat_bind (E.ok.facts hH) hs
    simp only [chainK]
    refine wpIn_mono ((codeT_sound (mb := mb) (fuel := fuel) E c false).wp F t hp _ none g w a (fun _ => rfl) hH ht hs) ?_
    rintro e a' w' ⟨⟨x, t', hp'⟩, ⟨F', hF', q⟩, h0, g', h1, h2, h3, h4, h5⟩
    have hF0 : Holds g'.sig F := by rw [h3.sub.sig]; exact E.ok.facts hH
    have other : e ≠ .normal → Sat g.sig Q (.leaf (x, t', hp')) → Exit.then (chainK P l K Z) Z e a' w' := by
      intro hne q
      have := hq e a' w' _ q ⟨h0, g', h1, h2, h3, h4, h5⟩
      cases e with
      | normal => exact absurd rfl hne
      | _ => exact this
    cases x with
    | normal =>
      cases e <;> simp only [ExRel] at h1
      refine runL_sound E l F' t' hp' Q g' w' a' (E.ok.move h2 (by rw [h3.sub.sig]; exact hF')) h4 (by rw [h3.sub.sig]; exact q) K Z ?_
      intro e2 a2 w2 x2 hx2 hc
      refine hq e2 a2 w2 x2 hx2 ?_
      exact CodeQ.trans hH h0 h3 h5 (hc.move E.ok hF0)
    | exit i => exact other (by intro he; subst he; exact h1.elim) q
    | ret => exact other (by intro he; subst he; exact h1.elim) q
    | pan v => exact other (by intro he; subst he; exact h1.elim) q

/-- A row of pieces, from a state of a shape. -/
theorem segL {P : Program} {X : Ing} {mb : Bool} {fuel d n : Nat} {c : List Code} {s : Shape} {W : Sw} {Q0 : SEx → Shape → Sig → Prop} (hm : P.follows .mixedOrders = true) (hT : okLT X.m X.G X.T = true) (hG : okG X.G X.m = true) (hh : ∀ F, Hooks P (cxOf X F)) (h0n : X.n = 0) (hid : idOk s X.m = true)
    (h : okSw (fun F => runL P (cxOf X) mb fuel (evD P (cxOf X) mb fuel d).1 (evD P (cxOf X) mb fuel d).2 c F (tmOf s n) ⟨s.heap, []⟩) W [] = true)
    {σ : Sig} {w0 : World} {a : Act} {w : World} (hA : At X.tab s n σ w0 a w) (hi : InsOk σ X.m X.ins) (hob : segsW (solve X.G X.m σ) Q0 W []) {K : Act → World → Prop} {Z : Exit → Act → World → Prop}
    (hk : ∀ e a' w' x s2 σ2, SExRel x e → Q0 x s2 σ2 → At X.tab s2 n σ2 w0 a' w' → Exit.then K Z e a' w') (hr : RowsOk (solve X.G X.m σ) X.rows) (hcut : CutsOk (solve X.G X.m σ) X.cuts) (hinv : X.inv (solve X.G X.m σ) := by exact True.intro) (hkt : okKt X = true := by exact rfl) : chainK P c K Z a w := by
  obtain ⟨g, rfl, hH, hTm, hB⟩ := hA.ex
  have ag := agree_solve X.G X.m g.sig
  have htab : (solve X.G X.m g.sig).tab = X.tab := by rw [← ag.tab]; exact hH.sig.tab
  have hb : BaseOk X (solve X.G X.m g.sig) := ⟨eqs_solve hG, htab, fun i k hlt hik => by rw [← (ag.val i hlt).1]; exact hi i k hlt hik, hr, hcut, hinv, hkt⟩
  obtain ⟨F, hF, hsat⟩ := okSw_sat h hob trivial
  have hgood : (cxOf X F).Good (solve X.G X.m g.sig) := cx_good hT hb hF
  have hid' := hid
  unfold idOk at hid'
  split at hid'
  · rename_i lx ly hlx hly
    simp only [Bool.and_eq_true] at hid'
    obtain ⟨⟨i1, i2⟩, i3⟩ := hid'
    have hH1 : HRel (cxOf X F) (moved (idF s.heap.length 0) g (solve X.G X.m g.sig)) s.heap w := rematch hH h0n hgood (idF_length _ _) i3 hly (idAsg_fits ag i2) ag.ext.symm
    have hT1 : FRel (moved (idF s.heap.length 0) g (solve X.G X.m g.sig)) (tmOf s n) a := by
      refine ⟨⟨by simp only [tmOf, hA.size]; exact Nat.le_refl _, ?_⟩, by rw [hA.defers]; exact .nil⟩
      intro i v hv
      have hmem := tmOf_get hv
      obtain ⟨u, h1, h2⟩ := hTm _ hmem
      obtain ⟨mm, q1, q2⟩ := matchL_mem _ _ lx hlx rfl v (List.mem_map.2 ⟨_, hmem, rfl⟩)
      exact ⟨u, h1, matchV_sound (moved_moves _ g _ ag.ext.symm) v v mm u q1 (fun p hp => idAsg_fits ag i1 p (q2 p hp)) h2⟩
    have hB1 : ∀ i L, moved (idF s.heap.length 0) g (solve X.G X.m g.sig) i = some L → w0.heap.size ≤ L.blk := by
      intro i L hi
      obtain ⟨y, sh, L', _, h2, rfl⟩ := moved_from hi
      exact hB y L' h2
    refine runL_sound (evD_env (mb := mb) (fuel := fuel) hm (cx_ok hT) hh d) c F (tmOf s n) ⟨s.heap, []⟩ _ _ w a hH1 hT1 hsat K Z ?_
    rintro e a' w' ⟨e0, t, st⟩ ⟨x, s2, f, l, ex, hx, hdf, hmt, hft, hQ⟩ ⟨_, g', r1, r2, r3, r4, r5⟩
    obtain ⟨y1, y2, m1, m2, rfl, m4, m5⟩ := matchS_spec hmt
    have hsig : g'.sig = solve X.G X.m g.sig := r3.sub.sig
    have hfit : Fits g'.sig (asgS (solve X.G X.m g.sig) (y1 ++ y2 ++ ex)) (y1 ++ y2) := by rw [hsig]; exact hft
    have hsz : w0.heap.size ≤ w.heap.size := hA.below.size
    have hB' : ∀ i L, g' i = some L → w0.heap.size ≤ L.blk := by
      intro i L hi
      cases hg : moved (idF s.heap.length 0) g (solve X.G X.m g.sig) i with
      | some M =>
        have := r3.sub i M hg
        rw [this] at hi; cases hi
        exact hB1 i _ hg
      | none =>
        obtain ⟨_, hb⟩ := r3.new i L hi hg
        rcases hb with hb | ⟨j, M, hj, hM, _⟩
        · omega
        · rw [← hM]; exact hB1 j M hj
    refine hk e a' w' x s2 _ (sameX_rel hx r1) hQ ⟨⟨moved f g' (asgS (solve X.G X.m g.sig) (y1 ++ y2 ++ ex)), rfl, rematch r2 rfl (cx0_good htab) m4 m5 m2 hfit.right (by rw [hsig]; rfl), ?_, ?_⟩, ?_, r5.trans hA.size, ?_⟩
    · intro p hp
      obtain ⟨b, mm, q1, q2, q3⟩ := matchT_get _ _ m1 p hp
      obtain ⟨u, h1, h2⟩ := r4.1.2 p.1 b q1
      exact ⟨u, h1, matchV_sound (moved_moves f g' _ (by rw [hsig]; rfl)) p.2 b mm u q2 (fun z hz => hfit z (by simp [q3 z hz])) h2⟩
    · intro i L hi
      obtain ⟨y, sh, L', _, h2, rfl⟩ := moved_from hi
      exact hB' y L' h2
    · refine hA.below.trans ⟨r3.os, r3.tape, r3.output, r3.size, fun k hk => r3.frame k (by omega) ?_⟩
      intro i L hi _ he
      have := hB1 i L hi
      omega
    · have := r4.2
      rw [show t.df = [] from hdf] at this
      generalize a'.defers = ds at this
      cases this
      rfl
  · cases hid'

/-- A loop with a measure. -/
theorem loop_at {P : Program} {c : Code} {Inv : Nat → Act → World → Prop} {Q : Exit → Act → World → Prop}
    (hstep : ∀ k a w, Inv k a w → c.wpIn (FR none) 0 P (fun e a' w' => (e = .normal ∧ ∃ k', k' < k ∧ Inv k' a' w') ∨ (e ≠ .normal ∧ Q e a' w')) a w) (k : Nat) (a : Act) (w : World) (h : Inv k a w) : (Code.loop c).wpIn (FR none) 0 P Q a w := by
  have key : ∀ (n k : Nat) (a : Act) (w : World), k < n → Inv k a w → Code.roundsIn (FR none) 0 P c Q n a w := by
    intro n
    induction n with
    | zero => intro k a w hk _; omega
    | succ n ih =>
      intro k a w hk hI
      rw [roundsIn_succ]
      refine wpIn_mono (hstep k a w hI) fun e a' w' he => ?_
      rcases he with ⟨rfl, k', hk', hI'⟩ | ⟨hne, hq⟩
      · exact ih k' a' w' (by omega) hI'
      · cases e with
        | normal => exact absurd rfl hne
        | _ => exact hq
  exact wpIn_loop_rounds (k + 1) (key (k + 1) k a w (Nat.lt_succ_self k) h)

/-- A call, from its body. -/
theorem calls_body {P : Program} {f : FuncId} {fn : Func} {args : Array Value} {w : World} {R : Ending → World → Prop} (hf : P.funcs[f]? = some fn) (hb : fn.body = some (bodyOf fn))
    (h : (bodyOf fn).wpIn (FR none) 0 P (bodyPost P fn R) { tmps := args ++ Array.replicate (fn.ntmps - args.size) undef, defers := [] } w) : Calls P f args w R :=
  calls_FR (r := none) (n := 0) (callsIn_of_wp hf hb trivial h)

/-! ### A call's start, and its end -/

def argT : Nat → List AVal → List (Nat × AVal)
  | _, [] => []
  | i, a :: l => (i, a) :: argT (i + 1) l

theorem argT_get : ∀ (l : List AVal) (i : Nat) (p : Nat × AVal), p ∈ argT i l → ∃ j, p.1 = i + j ∧ l[j]? = some p.2
  | [], _, p, h => by cases h
  | a :: l, i, p, h => by
    simp only [argT, List.mem_cons] at h
    rcases h with rfl | h
    · exact ⟨0, rfl, rfl⟩
    · obtain ⟨j, h1, h2⟩ := argT_get l (i + 1) p h
      exact ⟨j + 1, by omega, by simpa using h2⟩

theorem at_start {tab : TabF} {args : List AVal} {args' : Array Value} {σ : Sig} (ht : σ.tab = tab) (ha : LRel ⟨fun _ => none, σ, fun _ => none⟩ args args'.toList) {n : Nat} (hn : args'.size ≤ n) (w : World) (hz : ∀ i X, σ.ext i = some X → 0 < X.len → FzOk X w := by exact fun _ _ h => by cases h) :
    At tab ⟨argT 0 args, []⟩ n σ w { tmps := args' ++ Array.replicate (n - args'.size) undef, defers := [] } w := by
  refine ⟨⟨⟨fun _ => none, σ, fun _ => none⟩, rfl, ⟨fun i L hi => by simp at hi, fun i j L M hi => by simp at hi, fun i k hi => by simp at hi, fun i hi => absurd hi (Nat.not_lt_zero i), cx0_good ht, ⟨fun i X hi hl => ⟨hz i X hi hl, fun j L hj => by simp at hj⟩, fun i X hi => by cases hi⟩⟩, ?_, fun i L hi => by simp at hi⟩, RowKit.Below.refl _ _, by simp; omega, rfl⟩
  intro p hp
  obtain ⟨j, h1, h2⟩ := argT_get _ _ _ hp
  obtain ⟨u, k1, k2⟩ := ha.get j p.2 h2
  refine ⟨u, ?_, k2⟩
  have hlt : j < args'.size := by
    have := (List.getElem?_eq_some_iff.1 k1).1
    simpa using this
  rw [h1, Nat.zero_add, Array.getElem?_append_left hlt]
  simpa using k1

/-- A call that ends with a truth in a temporary. -/
theorem at_end {P : Program} {tab : TabF} {s : Shape} {n r : Nat} {σ : Sig} {w0 : World} {a : Act} {w : World} {fn : Func} {b : Bool} (hr : fn.results.toList = [.tmp r]) (hA : At tab s n σ w0 a w) (hm : (r, .bool b) ∈ s.t) {e : Exit} (he : SExRel .ret e ∨ SExRel .normal e) :
    bodyPost P fn (fun e w' => e = .returned (.bool b) ∧ RowKit.Below w0.heap.size w0 w') e a w := by
  obtain ⟨g, _, hH, hT, _⟩ := hA.ex
  obtain ⟨u, h1, h2⟩ := hT _ hm
  cases h2
  have hres : (results fn a.tmps).run P w = .ok (.bool b) w := by
    rw [results_eq, Array.mapM_eq_mapM_toList, hr]
    simp only [Sem.run_bind, Sem.run_map, Sem.run_pure, List.mapM_cons, List.mapM_nil, resOne, Result.andThen_ok]
    have h1' : a.tmps.getD r undef = .bool b := by rw [Array.getD_eq_getD_getElem?, h1]; rfl
    simp [h1']
  have : a.defers = [] ∧ ∃ v, (results fn a.tmps).run P w = .ok v w ∧ (Ending.returned v = .returned (.bool b) ∧ RowKit.Below w0.heap.size w0 w) := ⟨hA.defers, _, hres, rfl, hA.below⟩
  cases e with
  | normal => exact this
  | ret => exact this
  | _ => rcases he with he | he <;> exact he.elim

end Go.Ev
