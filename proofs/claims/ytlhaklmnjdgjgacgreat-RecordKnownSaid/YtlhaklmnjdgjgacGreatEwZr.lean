/- Calls of literal arguments that give memory, known ahead: the result, and the new blocks that it reaches. -/
import Derived.Test.YtlhaklmnjdgjgacGreatEwZq
namespace Go.Ev
open Go.RowKit
set_option linter.unusedVariables false
set_option linter.unusedSimpArgs false

mutual
def noSymV : AVal → Bool
  | .bool _ => true
  | .int _ _ => true
  | .float _ _ => true
  | .str _ => true
  | .nilptr => true
  | .ptr _ _ => true
  | .nilslice => true
  | .slice _ _ _ _ _ => true
  | .nilmap => true
  | .nilfunc => true
  | .func _ f c => noSymVs f && noSymVs c
  | .niliface => true
  | .iface _ v => noSymV v
  | .agg l => noSymVs l
  | .tuple l => noSymVs l
  | _ => false
def noSymVs : List AVal → Bool
  | [] => true
  | a :: l => noSymV a && noSymVs l
end

mutual
/-- The numbers of blocks, so much greater. -/
def shiftV (n : Nat) : AVal → AVal
  | .ptr b o => .ptr (b + n) o
  | .slice b o l c e => .slice (b + n) o l c e
  | .func fn f c => .func fn (shiftVs n f) (shiftVs n c)
  | .iface t v => .iface t (shiftV n v)
  | .agg l => .agg (shiftVs n l)
  | .tuple l => .tuple (shiftVs n l)
  | a => a
def shiftVs (n : Nat) : List AVal → List AVal
  | [] => []
  | a :: l => shiftV n a :: shiftVs n l
end

mutual
theorem shiftV_rel {n : Nat} {g g2 : Inj} (hl : ∀ i L, g i = some L → g2 (i + n) = some L) : ∀ {a : AVal} {v : Value}, VRel g a v → noSymV a = true → VRel g2 (shiftV n a) v
  | _, _, .bool b, _ => .bool b
  | _, _, .int k m, _ => .int k m
  | _, _, .float k m, _ => .float k m
  | _, _, .str s, _ => .str s
  | _, _, .nilptr, _ => .nilptr
  | _, _, .ptr b off L h, _ => .ptr _ off L (hl _ _ h)
  | _, _, .nilslice, _ => .nilslice
  | _, _, .slice b off len cap ex o' cap' L h h0 h1 h2, _ => .slice _ off len cap ex o' cap' L (hl _ _ h) h0 h1 h2
  | _, _, .nilmap, _ => .nilmap
  | _, _, .map _ _ _, h => by simp [noSymV] at h
  | _, _, .nilfunc, _ => .nilfunc
  | _, _, .func fn f c f' c' h1 h2, h => by
    simp only [noSymV, Bool.and_eq_true] at h
    exact .func fn _ _ f' c' (shiftVs_rel hl h1 h.1) (shiftVs_rel hl h2 h.2)
  | _, _, .niliface, _ => .niliface
  | _, _, .iface t v v' h1, h => .iface t _ v' (shiftV_rel hl h1 (by simpa [noSymV] using h))
  | _, _, .agg l l' h1, h => .agg _ l' (shiftVs_rel hl h1 (by simpa [noSymV] using h))
  | _, _, .tuple l l' h1, h => .tuple _ l' (shiftVs_rel hl h1 (by simpa [noSymV] using h))
  | _, _, .symi _ _, h => by simp [noSymV] at h
  | _, _, .symb _, h => by simp [noSymV] at h
  | _, _, .syms _, h => by simp [noSymV] at h
  | _, _, .row _ _ _ _ _ _ _, h => by simp [noSymV] at h
  | _, _, .rptr _ _ _ _ _ _ _ _, h => by simp [noSymV] at h
  | _, _, .yield _ _ _, h => by simp [noSymV] at h
  | _, _, .junk _ _, h => by simp [noSymV] at h
  | _, _, .geq _ _ _, h => by simp [noSymV] at h
theorem shiftVs_rel {n : Nat} {g g2 : Inj} (hl : ∀ i L, g i = some L → g2 (i + n) = some L) : ∀ {a : List AVal} {v : List Value}, LRel g a v → noSymVs a = true → LRel g2 (shiftVs n a) v
  | _, _, .nil, _ => .nil
  | _, _, .cons a v l m h1 h2, h => by
    simp only [noSymVs, Bool.and_eq_true] at h
    exact .cons _ v _ m (shiftV_rel hl h1 h.1) (shiftVs_rel hl h2 h.2)
end

theorem shiftVs_get (n : Nat) : ∀ (l : List AVal) (i : Nat) (a : AVal), (shiftVs n l)[i]? = some a → ∃ b, l[i]? = some b ∧ a = shiftV n b
  | [], i, a, h => by simp [shiftVs] at h
  | b :: l, 0, a, h => by simp [shiftVs] at h; exact ⟨b, rfl, h.symm⟩
  | b :: l, i + 1, a, h => by
    simp only [shiftVs, List.getElem?_cons_succ] at h
    simpa using shiftVs_get n l i a h

theorem shiftVs_len (n : Nat) : ∀ (l : List AVal), (shiftVs n l).length = l.length
  | [] => rfl
  | _ :: l => by simp [shiftVs, shiftVs_len n l]

theorem noSymVs_get : ∀ {l : List AVal}, noSymVs l = true → ∀ (i : Nat) (a : AVal), l[i]? = some a → noSymV a = true
  | [], _, i, a, h => by simp at h
  | b :: l, hn, 0, a, h => by
    simp only [noSymVs, Bool.and_eq_true] at hn
    simp at h; subst h; exact hn.1
  | b :: l, hn, i + 1, a, h => by
    simp only [noSymVs, Bool.and_eq_true] at hn
    exact noSymVs_get hn.2 i a (by simpa using h)

def shiftB (n : Nat) : Blk → Blk
  | .cells c e => .cells (shiftVs n c) e
  | k => k
def shiftBs (n : Nat) : List Blk → List Blk
  | [] => []
  | k :: l => shiftB n k :: shiftBs n l
def litB : Blk → Bool
  | .cells c _ => noSymVs c
  | _ => false
def litBs : List Blk → Bool
  | [] => true
  | k :: l => litB k && litBs l

theorem shiftBs_get (n : Nat) : ∀ (l : List Blk) (i : Nat) (k : Blk), (shiftBs n l)[i]? = some k → ∃ b, l[i]? = some b ∧ k = shiftB n b
  | [], i, a, h => by simp [shiftBs] at h
  | b :: l, 0, a, h => by simp [shiftBs] at h; exact ⟨b, rfl, h.symm⟩
  | b :: l, i + 1, a, h => by
    simp only [shiftBs, List.getElem?_cons_succ] at h
    simpa using shiftBs_get n l i a h
theorem shiftBs_len (n : Nat) : ∀ (l : List Blk), (shiftBs n l).length = l.length
  | [] => rfl
  | _ :: l => by simp [shiftBs, shiftBs_len n l]
theorem litBs_get : ∀ {l : List Blk}, litBs l = true → ∀ (i : Nat) (k : Blk), l[i]? = some k → ∃ c e, k = .cells c e ∧ noSymVs c = true
  | [], _, i, k, h => by simp at h
  | b :: l, hn, 0, k, h => by
    simp only [litBs, Bool.and_eq_true] at hn
    simp at h; subst h
    have := hn.1
    cases b <;> simp only [litB, Bool.false_eq_true] at this
    exact ⟨_, _, rfl, this⟩
  | b :: l, hn, i + 1, k, h => by
    simp only [litBs, Bool.and_eq_true] at hn
    exact litBs_get hn.2 i k (by simpa using h)

/-- A call of literal arguments: what it gives, and the new blocks that this reaches. -/
structure MemE where
  f : FuncId
  args : List AVal
  v : AVal
  bs : List Blk

def findMem (f : FuncId) (args : List AVal) : List MemE → Option MemE
  | [] => none
  | e :: l => match Nat.beq f e.f with
    | true => match eqVs args e.args with
      | true => some e
      | false => findMem f args l
    | false => findMem f args l

theorem findMem_mem {f : FuncId} {args : List AVal} {e : MemE} : ∀ {l : List MemE}, findMem f args l = some e → e ∈ l ∧ e.f = f ∧ e.args = args
  | [], h => by cases h
  | x :: l, h => by
    simp only [findMem] at h
    have rest : findMem f args l = some e → e ∈ x :: l ∧ e.f = f ∧ e.args = args := fun h =>
      let ⟨h1, h2⟩ := findMem_mem h
      ⟨List.mem_cons_of_mem _ h1, h2⟩
    split at h
    · rename_i hf
      split at h
      · rename_i ha
        cases h
        exact ⟨List.mem_cons_self .., (Nat.eq_of_beq_eq_true hf).symm, (eqVs_eq _ _ ha).symm⟩
      · exact rest h
    · exact rest h

def memMh (tbl : List MemE) : MHookF := fun _ f args hp =>
  match findMem f args tbl with
  | some e => some (shiftV hp.heap.length e.v, ⟨hp.heap ++ shiftBs hp.heap.length e.bs, hp.log⟩)
  | none => none

/-- What such an entry says of the program, in worlds of a kind. -/
def MemOk (P : Program) (Wd : World → Prop) (e : MemE) : Prop :=
  litVs e.args = true ∧ noSymV e.v = true ∧ litBs e.bs = true ∧ ∀ (w : World), Wd w → ∀ (g : Inj) (args' : Array Value), LRel g e.args args'.toList → Calls P e.f args' w fun en w' =>
    ∃ (u : Value) (g1 : Inj), en = .returned u ∧ VRel g1 e.v u ∧ Below w.heap.size w w' ∧ (∀ i L, g1 i = some L → i < e.bs.length ∧ w.heap.size ≤ L.blk ∧ L.blk < w'.heap.size) ∧ (∀ i j L M, g1 i = some L → g1 j = some M → L.blk = M.blk → i = j) ∧
      (∀ i k, e.bs[i]? = some k → ∃ L, g1 i = some L ∧ BRel g1 w' k L)

theorem mem_mem {P : Program} {X : Ing} {tbl : List MemE} {Wd : World → Prop} (h : ∀ e, e ∈ tbl → MemOk P Wd e) (hW : ∀ F g H w, HRel (cxOf X F) g H w → Wd w)
    (F : List Fact) (f : FuncId) (args : List AVal) (hp : Hp) (v : AVal) (hp' : Hp) (hm : memMh tbl (symS (baseOf X F)) f args hp = some (v, hp')) : CallP P (cxOf X F) f args hp (.val v) hp' := by
  unfold memMh at hm
  split at hm
  · rename_i e he
    cases hm
    obtain ⟨hmem, rfl, rfl⟩ := findMem_mem he
    obtain ⟨_, hv, hbs, hc⟩ := h e hmem
    refine ⟨⟨by simp, ⟨[], rfl, fun i hi _ => List.getElem?_append_left hi⟩, fun i hi ⟨k, hk, hne⟩ => ⟨k, by rw [List.getElem?_append_left hi] at hk; exact hk, hne⟩, fun i la hi hl => ⟨la, by rw [List.getElem?_append_left hi] at hl; exact hl, rfl, rfl, rfl, rfl, rfl⟩⟩, fun g w args' hH hl => ?_⟩
    refine (hc w (hW F g _ w hH) g args' hl).mono ?_
    rintro en w' ⟨u, g1, rfl, hu, hB, hdom, hinj, hblk⟩
    obtain ⟨hH', hE'⟩ := hH.below hB
    have hgn : ∀ i L, g i = some L → i < hp.heap.length := fun i L hi => (hH.dom i L hi).1
    let g2 : Inj := ⟨fun i => if i < hp.heap.length then g i else g1 (i - hp.heap.length), g.sig, g.mp⟩
    have lo : ∀ i, i < hp.heap.length → g2 i = g i := fun i hi => by show (if i < hp.heap.length then g i else _) = _; rw [if_pos hi]
    have hi' : ∀ i, ¬ i < hp.heap.length → g2 i = g1 (i - hp.heap.length) := fun i hi => by show (if i < hp.heap.length then g i else _) = _; rw [if_neg hi]
    have hsub : Sub g g2 := ⟨fun i L hi => by rw [lo i (hgn i L hi)]; exact hi, rfl, fun _ _ h => h⟩
    have hsh : ∀ i L, g1 i = some L → g2 (i + hp.heap.length) = some L := fun i L hi => by rw [hi' _ (by omega)]; simpa using hi
    have hlenb : (hp.heap ++ shiftBs hp.heap.length e.bs).length = hp.heap.length + e.bs.length := by simp [shiftBs_len]
    refine ⟨g2, ⟨u, rfl, shiftV_rel hsh hu hv⟩, ⟨?_, ?_, ?_, ?_, hH.sig, ?_⟩, ?_⟩
    · intro i L hi
      by_cases hlt : i < hp.heap.length
      · rw [lo i hlt] at hi
        have := hH'.dom i L hi
        exact ⟨by rw [hlenb]; omega, this.2⟩
      · rw [hi' i hlt] at hi
        have := hdom _ L hi
        exact ⟨by rw [hlenb]; omega, this.2.2⟩
    · intro i j L M hi hj hb li lj
      by_cases h1 : i < hp.heap.length <;> by_cases h2 : j < hp.heap.length
      · rw [lo i h1] at hi; rw [lo j h2] at hj
        refine hH.inj i j L M hi hj hb ?_ ?_
        · obtain ⟨k, hk, hne⟩ := li; exact ⟨k, by rw [List.getElem?_append_left h1] at hk; exact hk, hne⟩
        · obtain ⟨k, hk, hne⟩ := lj; exact ⟨k, by rw [List.getElem?_append_left h2] at hk; exact hk, hne⟩
      · rw [lo i h1] at hi; rw [hi' j h2] at hj
        have a1 := (hH.dom i L hi).2
        have a2 := (hdom _ M hj).2.1
        omega
      · rw [hi' i h1] at hi; rw [lo j h2] at hj
        have a1 := (hH.dom j M hj).2
        have a2 := (hdom _ L hi).2.1
        omega
      · rw [hi' i h1] at hi; rw [hi' j h2] at hj
        have := hinj _ _ L M hi hj hb
        omega
    · intro i k hi hk
      by_cases h1 : i < hp.heap.length
      · rw [List.getElem?_append_left h1] at hi
        obtain ⟨L, hL, hBr⟩ := hH'.blk i k hi hk
        exact ⟨L, by rw [lo i h1]; exact hL, hBr.mono hsub⟩
      · rw [List.getElem?_append_right (by omega)] at hi
        obtain ⟨b, hb, rfl⟩ := shiftBs_get _ _ _ _ hi
        obtain ⟨c, t, rfl, hns⟩ := litBs_get hbs _ _ hb
        obtain ⟨L, hL, C, fr, k1, k2, k3, k4, k5⟩ := hblk _ _ hb
        refine ⟨L, by rw [hi' i h1]; exact hL, C, fr, k1, k2, k3, by rw [shiftVs_len]; exact k4, ?_⟩
        intro j a hj
        obtain ⟨a0, h0, rfl⟩ := shiftVs_get _ _ _ _ hj
        obtain ⟨y, y1, y2, y3⟩ := k5 j a0 h0
        exact ⟨y, y1, shiftV_rel hsh y2 (noSymVs_get hns j a0 h0), y3⟩
    · intro i hi
      obtain ⟨N, n1, n2⟩ := hH.glob i hi
      exact ⟨N, by rw [lo i (hgn i N n1)]; exact n1, n2⟩
    · refine ⟨fun i X hi hX => ?_, fun i X hi => ?_⟩
      · have f0 := hH.frz.row i X hi hX
        have f := hH'.frz.row i X hi hX
        refine ⟨f.1, fun j N hj lj => ?_⟩
        by_cases h1 : j < hp.heap.length
        · rw [lo j h1] at hj
          obtain ⟨k, hk, hne⟩ := lj
          exact f0.2 j N hj ⟨k, by rw [List.getElem?_append_left h1] at hk; exact hk, hne⟩
        · rw [hi' j h1] at hj
          have a1 := (hdom _ N hj).2.1
          have a2 := f0.1.lt
          omega
      · have f0 := hH.frz.mp i X hi
        have f := hH'.frz.mp i X hi
        refine ⟨by rw [hlenb]; omega, f.2.1, fun j N hj lj => ?_⟩
        by_cases h1 : j < hp.heap.length
        · rw [lo j h1] at hj
          obtain ⟨k, hk, hne⟩ := lj
          exact f0.2.2 j N hj ⟨k, by rw [List.getElem?_append_left h1] at hk; exact hk, hne⟩
        · rw [hi' j h1] at hj
          have a1 := (hdom _ N hj).2.1
          have a2 := f0.2.1.lt
          omega
    · refine ⟨hsub, ?_, fun i X hi hn => ?_, by simp, fun i hi ⟨k, hk, hne⟩ => ⟨k, by rw [List.getElem?_append_left hi] at hk; exact hk, hne⟩, hB.size, fun b hb _ => hB.block b hb, hB.os, hB.tape, hB.output⟩
      · intro i L hi hn
        by_cases h1 : i < hp.heap.length
        · rw [lo i h1] at hi; rw [hn] at hi; cases hi
        · rw [hi' i h1] at hi
          exact ⟨by omega, .inl (hdom _ L hi).2.1⟩
      · exact absurd hi (by show ¬ g.mp i = some X; rw [hn]; simp)
  · cases hm

def isNilL : Option Asg → Bool
  | some [] => true
  | _ => false

/-- The run ends in one leaf, and that is as the entry says, up to the numbers of blocks. -/
def isMem (e : MemE) (f : Bm) : Tree (Out × Hp) → Bool
  | .leaf x => match x.1 with
    | .val v => isNilL (matchV f e.v v) && (isNilL (matchH f x.2.heap e.bs 0) && (Nat.beq f.length e.bs.length && noTwice f))
    | _ => false
  | _ => false

theorem isNilL_eq {o : Option Asg} (h : isNilL o = true) : o = some [] := by
  unfold isNilL at h
  split at h
  · rfl
  · cases h

/-- A call of literal arguments that is reckoned to give such memory. -/
theorem closed_mem {P : Program} {X : Ing} {mb : Bool} {fuel d : Nat} {e : MemE} (f : Bm) {Wd : World → Prop} (ext : World → Nat → Option Fz) (hX : X.m = 0 ∧ X.G = [] ∧ X.T = .e ∧ X.n = 0 ∧ X.rows = [] ∧ X.cuts = []) (hinv : ∀ w σ, Wd w → σ.ext = ext w → X.inv σ)
    (hext : ∀ w i Z, Wd w → ext w i = some Z → FzOk Z w) (hm : P.follows .mixedOrders = true) (hh : ∀ F, Hooks P (cxOf X F)) (hl : (litVs e.args && (noSymV e.v && litBs e.bs)) = true) (h : isMem e f ((evD P (cxOf X) mb fuel d).1 [] e.f e.args ⟨[], []⟩) = true) (hkt : okKt X = true := by exact rfl) : MemOk P Wd e := by
  simp only [Bool.and_eq_true] at hl
  obtain ⟨hl1, hl2, hl3⟩ := hl
  refine ⟨hl1, hl2, hl3, fun w hw g0 args' ha => ?_⟩
  obtain ⟨x1, x2, x3, x4, x5, x6⟩ := hX
  let σ : Sig := ⟨fun _ => 0, fun _ => false, fun _ => .empty, X.tab, ext w⟩
  have hb : BaseOk X σ := ⟨by rw [x2]; intro k d h; simp at h, rfl, fun i k hi _ => by omega, by rw [x5]; exact rows_nil, by rw [x6]; exact cuts_nil, hinv w _ hw rfl, hkt⟩
  have hg := cx_good (X := X) (F := []) (σ := σ) (by rw [x3]; rfl) hb trivial
  have h0 : HRel (cxOf X []) ⟨fun _ => none, σ, fun _ => none⟩ [] w := ⟨fun i L hi => by simp at hi, fun i j L M hi => by simp at hi, fun i k hi => by simp at hi, fun i hi => by have : (cxOf X []).n = 0 := x4; omega, hg,
    ⟨fun i Z hi _ => ⟨hext w i Z hw hi, fun j L hj => by cases hj⟩, fun i Y hi => by cases hi⟩⟩
  generalize hT : (evD P (cxOf X) mb fuel d).1 [] e.f e.args ⟨[], []⟩ = T at h
  unfold isMem at h
  split at h
  · rename_i x
    split at h
    · rename_i v hv
      simp only [Bool.and_eq_true] at h
      obtain ⟨m1, m2, m3, m4⟩ := h
      have m1 := isNilL_eq m1
      have m2 := isNilL_eq m2
      have m3 := Nat.eq_of_beq_eq_true m3
      refine ((evD_env (mb := mb) (fuel := fuel) hm (cx_ok (by rw [x3]; rfl)) hh d).call [] e.f e.args ⟨[], []⟩ (fun y => y = x) ⟨fun _ => none, σ, fun _ => none⟩ w args' h0 (litVs_rel ha hl1) (by rw [hT]; rfl)).mono ?_
      rintro en w' ⟨y, rfl, _, g', o1, o2, o3⟩
      rw [hv] at o1
      obtain ⟨u, rfl, hu⟩ := o1
      have hsig : g'.sig = σ := o3.sub.sig
      have R : HRel (cxOf X []) (moved f g' σ) e.bs w' := rematch o2 (show (cxOf X []).n = 0 from x4) hg m3 m4 m2 (fun p hp => by cases hp) (by rw [hsig])
      refine ⟨u, moved f g' σ, rfl, matchV_sound (moved_moves f g' σ (by rw [hsig])) e.v v [] u m1 (fun p hp => by cases hp) hu, ⟨o3.os, o3.tape, o3.output, o3.size, fun k hk => o3.frame k hk (fun i L hi => by simp at hi)⟩, ?_, ?_, ?_⟩
      · intro i L hi
        have a := R.dom i L hi
        obtain ⟨y, sh, L', _, h2, rfl⟩ := moved_from hi
        refine ⟨a.1, ?_, a.2⟩
        rcases (o3.new y L' h2 rfl).2 with h3 | ⟨j, M, h3, _⟩
        · exact h3
        · cases h3
      · intro i j L M hi hj hb
        have liv : ∀ i L, moved f g' σ i = some L → Live e.bs i := by
          intro i L hi
          have hlt := (R.dom i L hi).1
          have hk : e.bs[i]? = some e.bs[i] := by simp [hlt]
          obtain ⟨c, t, hk2, _⟩ := litBs_get hl3 i _ hk
          exact ⟨_, hk, by rw [hk2]; simp⟩
        exact R.inj i j L M hi hj hb (liv i L hi) (liv j M hj)
      · intro i k hi
        obtain ⟨c, t, rfl, _⟩ := litBs_get hl3 i k hi
        exact R.blk i _ hi (by simp)
    · cases h
  · cases h
end Go.Ev
