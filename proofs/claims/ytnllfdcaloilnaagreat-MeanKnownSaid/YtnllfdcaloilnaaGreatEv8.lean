/- The evaluator, part 8. -/
import Derived.Test.YtnllfdcaloilnaaGreatEv7
namespace Go.Ev
open Go.RowKit
set_option linter.unusedVariables false
set_option linter.unusedSimpArgs false
mutual
/-- The numbers of blocks, by a map. -/
def renV (ρ : Nat → Nat) : AVal → AVal
  | .ptr b o => .ptr (ρ b) o
  | .slice b o l c e => .slice (ρ b) o l c e
  | .func fn f c => .func fn (renVs ρ f) (renVs ρ c)
  | .iface t v => .iface t (renV ρ v)
  | .agg l => .agg (renVs ρ l)
  | .tuple l => .tuple (renVs ρ l)
  | a => a
def renVs (ρ : Nat → Nat) : List AVal → List AVal
  | [] => []
  | a :: l => renV ρ a :: renVs ρ l
end
mutual
theorem renV_rel {ρ : Nat → Nat} {g g2 : Inj} (hl : ∀ i L, g i = some L → g2 (ρ i) = some L) : ∀ {a : AVal} {v : Value}, VRel g a v → noSymV a = true → VRel g2 (renV ρ a) v
  | _, _, .bool b, _ => .bool b
  | _, _, .int k m, _ => .int k m
  | _, _, .float k m, _ => .float k m
  | _, _, .str s, _ => .str s
  | _, _, .nilptr, _ => .nilptr
  | _, _, .ptr b off L h, _ => .ptr _ off L (hl _ _ h)
  | _, _, .nilslice, _ => .nilslice
  | _, _, .slice b off len cap ex o' cap' L h h0 h1 h2, _ => .slice _ off len cap ex o' cap' L (hl _ _ h) h0 h1 h2
  | _, _, .nilmap, _ => .nilmap
  | _, _, .map _ _ _, h => by simp [noSymV] at h
  | _, _, .nilfunc, _ => .nilfunc
  | _, _, .func fn f c f' c' h1 h2, h => by
    simp only [noSymV, Bool.and_eq_true] at h
    exact .func fn _ _ f' c' (renVs_rel hl h1 h.1) (renVs_rel hl h2 h.2)
  | _, _, .niliface, _ => .niliface
  | _, _, .iface t v v' h1, h => .iface t _ v' (renV_rel hl h1 (by simpa [noSymV] using h))
  | _, _, .agg l l' h1, h => .agg _ l' (renVs_rel hl h1 (by simpa [noSymV] using h))
  | _, _, .tuple l l' h1, h => .tuple _ l' (renVs_rel hl h1 (by simpa [noSymV] using h))
  | _, _, .symi _ _, h => by simp [noSymV] at h
  | _, _, .symb _, h => by simp [noSymV] at h
  | _, _, .syms _, h => by simp [noSymV] at h
  | _, _, .row _ _ _ _ _ _ _, h => by simp [noSymV] at h
  | _, _, .rptr _ _ _ _ _ _ _ _, h => by simp [noSymV] at h
  | _, _, .yield _ _ _, h => by simp [noSymV] at h
  | _, _, .junk _ _, h => by simp [noSymV] at h
  | _, _, .geq _ _ _, h => by simp [noSymV] at h
theorem renVs_rel {ρ : Nat → Nat} {g g2 : Inj} (hl : ∀ i L, g i = some L → g2 (ρ i) = some L) : ∀ {a : List AVal} {v : List Value}, LRel g a v → noSymVs a = true → LRel g2 (renVs ρ a) v
  | _, _, .nil, _ => .nil
  | _, _, .cons a v l m h1 h2, h => by
    simp only [noSymVs, Bool.and_eq_true] at h
    exact .cons _ v _ m (renV_rel hl h1 h.1) (renVs_rel hl h2 h.2)
end
theorem renVs_get (ρ : Nat → Nat) : ∀ (l : List AVal) (i : Nat) (a : AVal), (renVs ρ l)[i]? = some a → ∃ b, l[i]? = some b ∧ a = renV ρ b
  | [], i, a, h => by simp [renVs] at h
  | b :: l, 0, a, h => by simp [renVs] at h; exact ⟨b, rfl, h.symm⟩
  | b :: l, i + 1, a, h => by
    simp only [renVs, List.getElem?_cons_succ] at h
    simpa using renVs_get ρ l i a h
theorem renVs_len (ρ : Nat → Nat) : ∀ (l : List AVal), (renVs ρ l).length = l.length
  | [] => rfl
  | _ :: l => by simp [renVs, renVs_len ρ l]
def renB (ρ : Nat → Nat) : Blk → Blk
  | .cells c e => .cells (renVs ρ c) e
  | k => k
def renBs (ρ : Nat → Nat) : List Blk → List Blk
  | [] => []
  | k :: l => renB ρ k :: renBs ρ l
theorem renBs_get (ρ : Nat → Nat) : ∀ (l : List Blk) (i : Nat) (k : Blk), (renBs ρ l)[i]? = some k → ∃ b, l[i]? = some b ∧ k = renB ρ b
  | [], i, a, h => by simp [renBs] at h
  | b :: l, 0, a, h => by simp [renBs] at h; exact ⟨b, rfl, h.symm⟩
  | b :: l, i + 1, a, h => by
    simp only [renBs, List.getElem?_cons_succ] at h
    simpa using renBs_get ρ l i a h
theorem renBs_len (ρ : Nat → Nat) : ∀ (l : List Blk), (renBs ρ l).length = l.length
  | [] => rfl
  | _ :: l => by simp [renBs, renBs_len ρ l]
/-- A call of literal arguments: the blocks that they reach; what it gives; these blocks afterwards, and the new ones that are reached. -/
structure MemF where
  f : FuncId
  args : List AVal
  pre : List Blk
  v : AVal
  post : List Blk
mutual
/-- Where the blocks of an entry lie: by a walk (nothing rests on it). -/
def uV (m : List Nat) : AVal → AVal → List Nat
  | .ptr b _, .ptr x _ => match Nat.beq b m.length with
    | true => m ++ [x]
    | false => m
  | .slice b _ _ _ _, .slice x _ _ _ _ => match Nat.beq b m.length with
    | true => m ++ [x]
    | false => m
  | .func _ f c, .func _ f' c' => uL (uL m f f') c c'
  | .iface _ v, .iface _ v' => uV m v v'
  | .agg l, .agg l' => uL m l l'
  | .tuple l, .tuple l' => uL m l l'
  | _, _ => m
def uL (m : List Nat) : List AVal → List AVal → List Nat
  | a :: l, b :: l' => uL (uV m a b) l l'
  | _, _ => m
end
def uH (H : List Blk) : List Blk → Nat → List Nat → List Nat
  | [], _, m => m
  | .cells c _ :: ks, i, m => match m[i]? with
    | some x => match H[x]? with
      | some (.cells c' _) => uH H ks (i + 1) (uL m c c')
      | _ => m
    | none => m
  | _ :: _, _, m => m
def zs : List Nat → Bm
  | [] => []
  | x :: l => (x, 0) :: zs l
theorem zs_get : ∀ {l : List Nat} {i x sh : Nat}, (zs l)[i]? = some (x, sh) → l[i]? = some x ∧ sh = 0
  | [], i, x, sh, h => by simp [zs] at h
  | y :: l, 0, x, sh, h => by
    simp [zs] at h
    obtain ⟨rfl, rfl⟩ := h
    exact ⟨rfl, rfl⟩
  | y :: l, i + 1, x, sh, h => by simpa using zs_get (l := l) (i := i) (by simpa [zs] using h)
theorem zs_of {l : List Nat} : ∀ {i x : Nat}, l[i]? = some x → (zs l)[i]? = some (x, 0) := by
  induction l with
  | nil => intro i x h; simp at h
  | cons y l ih =>
    intro i x h
    cases i with
    | zero => simp at h; simp [zs, h]
    | succ i => simpa [zs] using ih (by simpa using h)
theorem zs_len : ∀ (l : List Nat), (zs l).length = l.length
  | [] => rfl
  | _ :: l => by simp [zs, zs_len l]
def nilL : Option Asg → Bool
  | some [] => true
  | _ => false
theorem nilL_eq {o : Option Asg} (h : nilL o = true) : o = some [] := by
  unfold nilL at h
  split at h
  · rfl
  · cases h
/-- Does the entry fit there? -/
def fitsF (e : MemF) (args : List AVal) (H : List Blk) (m : List Nat) : Bool :=
  Nat.beq m.length e.pre.length && (nilL (matchL (zs m) e.args args) && (nilL (matchH (zs m) H e.pre 0) && noTwice (zs m)))
/-- A quick look: the numbers among the arguments (nothing rests on it). -/
def quickL : List AVal → List AVal → Bool
  | a :: l, b :: m => match a with
    | .int _ x => match b with
      | .int _ y => match x == y with
        | true => quickL l m
        | false => false
      | _ => quickL l m
    | _ => quickL l m
  | _, _ => true
/-- A number that lies behind the first argument: by a way of offsets (nothing rests on it). -/
def keyV (H : List Blk) : List Nat → AVal → Option Int
  | [], a => match a with
    | .int _ n => some n
    | _ => none
  | o :: p, a => match a with
    | .ptr b off => match H[b]? with
      | some (.cells c _) => match c[off + o]? with
        | some v => keyV H p v
        | none => none
      | _ => none
    | _ => none
def quickK (e : MemF) (args : List AVal) (H : List Blk) : List Nat → Bool
  | [] => true
  | o :: p => match e.args with
    | a :: _ => match args with
      | b :: _ => match keyV e.pre (o :: p) a with
        | some x => match keyV H (o :: p) b with
          | some y => x == y
          | none => true
        | none => true
      | [] => true
    | [] => true
def findF (ks : FuncId → List Nat) (f : FuncId) (args : List AVal) (H : List Blk) : List MemF → Option (MemF × List Nat)
  | [] => none
  | e :: l => match Nat.beq f e.f with
    | true => match (match quickL e.args args with
        | true => quickK e args H (ks f)
        | false => false) with
      | true => match fitsF e args H (uH H e.pre 0 (uL [] e.args args)) with
        | true => some (e, uH H e.pre 0 (uL [] e.args args))
        | false => findF ks f args H l
      | false => findF ks f args H l
    | false => findF ks f args H l
theorem findF_mem {ks : FuncId → List Nat} {f : FuncId} {args : List AVal} {H : List Blk} {e : MemF} {m : List Nat} : ∀ {l : List MemF}, findF ks f args H l = some (e, m) → e ∈ l ∧ e.f = f ∧ fitsF e args H m = true
  | [], h => by cases h
  | x :: l, h => by
    simp only [findF] at h
    have rest : findF ks f args H l = some (e, m) → e ∈ x :: l ∧ e.f = f ∧ fitsF e args H m = true := fun h =>
      let ⟨h1, h2⟩ := findF_mem h
      ⟨List.mem_cons_of_mem _ h1, h2⟩
    split at h
    · rename_i hf
      split at h
      · split at h
        · rename_i ha
          cases h
          exact ⟨List.mem_cons_self .., (Nat.eq_of_beq_eq_true hf).symm, ha⟩
        · exact rest h
      · exact rest h
    · exact rest h
/-- The blocks of an entry, by the caller's numbers. -/
def rho (m : List Nat) (n : Nat) (i : Nat) : Nat := match m[i]? with
  | some x => x
  | none => i - m.length + n
/-- These are written there; what is left over is new. -/
def wr : List Nat → List Blk → List Blk → List Blk
  | [], bs, H => H ++ bs
  | _ :: _, [], H => H
  | x :: m, b :: bs, H => wr m bs (H.set x b)
theorem wr_len : ∀ (m : List Nat) (bs H : List Blk), (wr m bs H).length = H.length + (bs.length - m.length)
  | [], bs, H => by simp [wr]
  | _ :: _, [], H => by simp [wr]
  | x :: m, b :: bs, H => by simp [wr, wr_len m bs]
theorem wr_new : ∀ (m : List Nat) (bs H : List Blk) (i : Nat), m.length ≤ bs.length → (wr m bs H)[H.length + i]? = bs[m.length + i]?
  | [], bs, H, i, _ => by rw [wr, List.getElem?_append_right (by omega)]; simp
  | _ :: _, [], H, i, h => by simp at h
  | x :: m, b :: bs, H, i, h => by
    have := wr_new m bs (H.set x b) i (by simpa using h)
    simp only [List.length_set] at this
    simp only [wr, this, List.length_cons]
    rw [show m.length + 1 + i = (m.length + i) + 1 by omega]; simp
theorem wr_old : ∀ (m : List Nat) (bs H : List Blk) (i : Nat), i < H.length → i ∉ m → (wr m bs H)[i]? = H[i]?
  | [], bs, H, i, h, _ => by simp [wr, List.getElem?_append_left h]
  | _ :: _, [], H, i, h, _ => by simp [wr]
  | x :: m, b :: bs, H, i, h, hn => by
    simp only [List.mem_cons, not_or] at hn
    rw [wr, wr_old m bs _ i (by simpa using h) hn.2]
    exact List.getElem?_set_ne (fun e => hn.1 e.symm)
theorem wr_at : ∀ (m : List Nat) (bs H : List Blk) (j x : Nat), m.length ≤ bs.length → noTwice (zs m) = true → (∀ y, y ∈ m → y < H.length) → m[j]? = some x → (wr m bs H)[x]? = bs[j]?
  | [], bs, H, j, x, _, _, _, h => by simp at h
  | _ :: _, [], H, j, x, h, _, _, _ => by simp at h
  | y :: m, b :: bs, H, j, x, hl, hn, hd, h => by
    simp only [zs, noTwice, Bool.and_eq_true] at hn
    cases j with
    | zero =>
      simp at h; subst h
      have hnot : y ∉ m := fun hm => by
        obtain ⟨i, hi⟩ := List.mem_iff_getElem?.1 hm
        exact notIn_spec hn.1 i y 0 (zs_of hi) rfl
      have hlt := hd y (by simp)
      rw [wr, wr_old m bs _ y (by simpa using hlt) hnot]
      simp [hlt]
    | succ j =>
      rw [wr, wr_at m bs _ j x (by simpa using hl) hn.2 (fun z hz => by simpa using hd z (by simp [hz])) (by simpa using h)]
      simp
def memMf (tbl : List MemF) (ks : FuncId → List Nat := fun _ => []) : MHookF := fun _ f args hp =>
  match findF ks f args hp.heap tbl with
  | some (e, m) => some (renV (rho m hp.heap.length) e.v, ⟨wr m (renBs (rho m hp.heap.length) e.post) hp.heap, m ++ hp.log⟩)
  | none => none
/-- All are literal, or gone. -/
def litGs : List Blk → Bool
  | [] => true
  | .gone :: l => litGs l
  | k :: l => litB k && litGs l
theorem litGs_get : ∀ {l : List Blk}, litGs l = true → ∀ (i : Nat) (k : Blk), l[i]? = some k → k ≠ .gone → ∃ c e, k = .cells c e ∧ noSymVs c = true
  | [], _, i, k, h, _ => by simp at h
  | b :: l, hn, 0, k, h, hk => by
    simp only [List.getElem?_cons_zero, Option.some.injEq] at h
    subst h
    have h2 : litB b = true := by
      cases b <;> first | exact absurd rfl hk | (simp only [litGs, Bool.and_eq_true] at hn; exact hn.1)
    exact litBs_get (l := [b]) (by simp [litBs, h2]) 0 b rfl
  | b :: l, hn, i + 1, k, h, hk => by
    have h2 : litGs l = true := by
      cases b <;> simp only [litGs, Bool.and_eq_true] at hn <;> first | exact hn | exact hn.2
    exact litGs_get h2 i k (by simpa using h) hk
/-- These blocks, all literal, lie there. -/
structure LitRel (g : Inj) (H : List Blk) (w : World) : Prop where
  dom : ∀ i L, g i = some L → i < H.length ∧ L.blk < w.heap.size
  inj : ∀ i j L M, g i = some L → g j = some M → L.blk = M.blk → Live H i → Live H j → i = j
  blk : ∀ i k, H[i]? = some k → k ≠ .gone → ∃ L, g i = some L ∧ BRel g w k L
def sgz (tab : Nat → List Int → Int) : Sig := ⟨fun _ => 0, fun _ => false, fun _ => .empty, tab, fun _ => none⟩
/-- What such an entry says of the program. -/
def MemFOk (P : Program) (tab : Nat → List Int → Int) (e : MemF) : Prop :=
  noSymV e.v = true ∧ litBs e.pre = true ∧ litGs e.post = true ∧ e.pre.length ≤ e.post.length ∧ ∀ (w : World) (l : Nat → Option Loc) (args' : Array Value), LitRel ⟨l, sgz tab, fun _ => none⟩ e.pre w → LRel ⟨l, sgz tab, fun _ => none⟩ e.args args'.toList → Calls P e.f args' w fun en w' =>
    ∃ (u : Value) (g1 : Inj), en = .returned u ∧ VRel g1 e.v u ∧ LitRel g1 e.post w' ∧ (∀ i, i < e.pre.length → g1 i = l i) ∧ (∀ i L, e.pre.length ≤ i → g1 i = some L → w.heap.size ≤ L.blk ∨ ∃ j M, l j = some M ∧ M.blk = L.blk) ∧
      w.heap.size ≤ w'.heap.size ∧ (∀ b, b < w.heap.size → (∀ i L, l i = some L → L.blk ≠ b) → w'.heap[b]? = w.heap[b]?) ∧ w'.os = w.os ∧ w'.tape = w.tape ∧ w'.output = w.output
theorem mem_memF {P : Program} {X : Ing} {tbl : List MemF} {ks : FuncId → List Nat} (h : ∀ e, e ∈ tbl → MemFOk P X.tab e) (hX : X.m = 0 ∧ X.G = [] ∧ X.T = .e ∧ X.n = 0 ∧ X.rows = [] ∧ X.cuts = []) (hi0 : ∀ σ, X.inv σ → σ.ext = fun _ => none) (hi1 : ∀ σ, (σ.ext = fun _ => none) → X.inv σ) (hkt : okKt X = true)
    (F : List Fact) (f : FuncId) (args : List AVal) (hp : Hp) (v : AVal) (hp' : Hp) (hm : memMf tbl ks (symS (baseOf X F)) f args hp = some (v, hp')) : CallP P (cxOf X F) f args hp (.val v) hp' := by
  unfold memMf at hm
  split at hm
  · rename_i e m he
    cases hm
    obtain ⟨hmem, rfl, hfit⟩ := findF_mem he
    obtain ⟨hv, hpre, hpost, hlen, hc⟩ := h e hmem
    simp only [fitsF, Bool.and_eq_true] at hfit
    obtain ⟨f1, f2, f3, f4⟩ := hfit
    have f1 := Nat.eq_of_beq_eq_true f1
    have f2 := nilL_eq f2
    have f3 := nilL_eq f3
    have hcell : ∀ (j x : Nat), m[j]? = some x → ∃ (c : List AVal) (t : TypeId), hp.heap[x]? = some (Blk.cells c t) := by
      intro j x hj
      have hlt : j < e.pre.length := by rw [← f1]; exact (List.getElem?_eq_some_iff.1 hj).1
      obtain ⟨c, t, hk, _⟩ := litBs_get hpre j _ (List.getElem?_eq_getElem hlt)
      obtain ⟨l, h1, _⟩ := matchH_get e.pre 0 _ f3 j _ (List.getElem?_eq_getElem hlt)
      rw [hk, Nat.zero_add] at h1
      simp only [matchB, zs_of hj] at h1
      split at h1
      · rename_i c' e' hc'
        exact ⟨_, _, hc'⟩
      · cases h1
    have hmlt : ∀ y, y ∈ m → y < hp.heap.length := by
      intro y hy
      obtain ⟨j, hj⟩ := List.mem_iff_getElem?.1 hy
      obtain ⟨c, t, hk⟩ := hcell j y hj
      exact (List.getElem?_eq_some_iff.1 hk).1
    have hlive : ∀ y, y ∈ m → Live hp.heap y := by
      intro y hy
      obtain ⟨j, hj⟩ := List.mem_iff_getElem?.1 hy
      obtain ⟨c, t, hk⟩ := hcell j y hj
      exact ⟨_, hk, by simp⟩
    have hlp : m.length ≤ (renBs (rho m hp.heap.length) e.post).length := by rw [renBs_len, f1]; exact hlen
    have hat : ∀ j x, m[j]? = some x → (wr m (renBs (rho m hp.heap.length) e.post) hp.heap)[x]? = (renBs (rho m hp.heap.length) e.post)[j]? := fun j x hj => wr_at m _ _ j x hlp f4 hmlt hj
    have hback : ∀ i, i < hp.heap.length → Live (wr m (renBs (rho m hp.heap.length) e.post) hp.heap) i → Live hp.heap i := by
      intro i hi hl
      by_cases hin : i ∈ m
      · exact hlive i hin
      · obtain ⟨k, hk, hne⟩ := hl
        rw [wr_old m _ _ i hi hin] at hk
        exact ⟨k, hk, hne⟩
    have hwl : (wr m (renBs (rho m hp.heap.length) e.post) hp.heap).length = hp.heap.length + (e.post.length - m.length) := by rw [wr_len, renBs_len]
    refine ⟨⟨by show hp.heap.length ≤ (wr _ _ _).length; omega, ⟨m, rfl, fun i hi hn => wr_old m _ _ i hi hn⟩, hback, fun i la hi hl => ?_⟩, fun g w args' hH hl => ?_⟩
    · by_cases hin : i ∈ m
      · obtain ⟨j, hj⟩ := List.mem_iff_getElem?.1 hin
        have hl : (wr m (renBs (rho m hp.heap.length) e.post) hp.heap)[i]? = some (.loop la) := hl
        rw [hat j i hj] at hl
        obtain ⟨b, hb, hbb⟩ := renBs_get _ _ _ _ hl
        obtain ⟨c, t, rfl, _⟩ := litGs_get hpost _ _ hb (by rintro rfl; cases hbb)
        cases hbb
      · have hl : (wr m (renBs (rho m hp.heap.length) e.post) hp.heap)[i]? = some (.loop la) := hl
        rw [wr_old m _ _ i hi hin] at hl
        exact ⟨la, hl, rfl, rfl, rfl, rfl, rfl⟩
    obtain ⟨x1, x2, x3, x4, x5, x6⟩ := hX
    have hext : g.sig.ext = fun _ => none := hi0 _ hH.sig.ok.2.inv
    have hb : BaseOk X (sgz X.tab) := ⟨by rw [x2]; intro k d h; simp at h, rfl, fun i k hi _ => by omega, by rw [x5]; exact rows_nil, by rw [x6]; exact cuts_nil, hi1 _ rfl, hkt⟩
    have hg := cx_good (X := X) (F := []) (σ := sgz X.tab) (by rw [x3]; rfl) hb trivial
    have R : HRel (cxOf X []) (moved (zs m) g (sgz X.tab)) e.pre w := rematch hH (show (cxOf X []).n = 0 from x4) hg (by rw [zs_len, f1]) f4 f3 (fun p hp => by cases hp) (by rw [hext]; rfl)
    have hmv : ∀ j L, moved (zs m) g (sgz X.tab) j = some L → ∃ x, m[j]? = some x ∧ g x = some L := by
      intro j L hj
      obtain ⟨x, sh, L', h1, h2, rfl⟩ := moved_from hj
      obtain ⟨h3, rfl⟩ := zs_get h1
      exact ⟨x, h3, h2⟩
    have hpr : LitRel (moved (zs m) g (sgz X.tab)) e.pre w := by
      refine ⟨R.dom, fun i j L M hi hj hbb _ _ => ?_, fun i k hi _ => ?_⟩
      · have liv : ∀ i L, moved (zs m) g (sgz X.tab) i = some L → Live e.pre i := by
          intro i L hi
          have hlt := (R.dom i L hi).1
          obtain ⟨c, t, hk2, _⟩ := litBs_get hpre i _ (List.getElem?_eq_getElem hlt)
          exact ⟨_, List.getElem?_eq_getElem hlt, by rw [hk2]; simp⟩
        exact R.inj i j L M hi hj hbb (liv i L hi) (liv j M hj)
      · obtain ⟨c, t, rfl, _⟩ := litBs_get hpre i k hi
        exact R.blk i _ hi (by simp)
    have hargs : LRel (moved (zs m) g (sgz X.tab)) e.args args'.toList := matchL_sound (moved_moves (zs m) g (sgz X.tab) (by rw [hext]; rfl)) e.args args [] _ f2 (fun p hp => by cases hp) hl
    refine (hc w (moved (zs m) g (sgz X.tab)).loc args' hpr hargs).mono ?_
    rintro en w' ⟨u, g1, rfl, hu, hP, hsame, hnew, hsz, hfr, hos, htp, hout⟩
    have hgn : ∀ i L, g i = some L → i < hp.heap.length := fun i L hi => (hH.dom i L hi).1
    let n := hp.heap.length
    let g2 : Inj := ⟨fun i => if i < hp.heap.length then g i else g1 (i - hp.heap.length + m.length), g.sig, g.mp⟩
    have lo : ∀ i, i < hp.heap.length → g2 i = g i := fun i hi => by show (if i < hp.heap.length then g i else _) = _; rw [if_pos hi]
    have hi' : ∀ i, ¬ i < hp.heap.length → g2 i = g1 (i - hp.heap.length + m.length) := fun i hi => by show (if i < hp.heap.length then g i else _) = _; rw [if_neg hi]
    have hsub : Sub g g2 := ⟨fun i L hi => by rw [lo i (hgn i L hi)]; exact hi, rfl, fun _ _ h => h⟩
    have hold : ∀ j L, j < m.length → g1 j = some L → ∃ x, m[j]? = some x ∧ g x = some L := by
      intro j L hj h1
      rw [hsame j (by rw [← f1]; exact hj)] at h1
      exact hmv j L h1
    have hren : ∀ i L, g1 i = some L → g2 (rho m hp.heap.length i) = some L := by
      intro i L h1
      by_cases hlt : i < m.length
      · obtain ⟨x, hx, hgx⟩ := hold i L hlt h1
        have : rho m hp.heap.length i = x := by simp [rho, hx]
        rw [this, lo x (hgn x L hgx)]; exact hgx
      · have : rho m hp.heap.length i = i - m.length + hp.heap.length := by simp [rho, List.getElem?_eq_none (by omega : m.length ≤ i)]
        rw [this, hi' _ (by omega), show i - m.length + hp.heap.length - hp.heap.length + m.length = i by omega]
        exact h1
    have hfresh : ∀ i L, ¬ i < hp.heap.length → g2 i = some L → w.heap.size ≤ L.blk ∨ ∃ x M, x ∈ m ∧ g x = some M ∧ M.blk = L.blk := by
      intro i L hlt h2
      rw [hi' i hlt] at h2
      rcases hnew _ L (by rw [← f1]; omega) h2 with h3 | ⟨j, M, h3, h4⟩
      · exact .inl h3
      · obtain ⟨x, hx, hgx⟩ := hmv j M h3
        exact .inr ⟨x, M, List.mem_iff_getElem?.2 ⟨_, hx⟩, hgx, h4⟩
    -- an old one, and a new one, do not lie at one place
    have hapart : ∀ i j L M, i < hp.heap.length → ¬ j < hp.heap.length → g i = some L → g2 j = some M → L.blk = M.blk → Live (wr m (renBs (rho m hp.heap.length) e.post) hp.heap) i → Live (wr m (renBs (rho m hp.heap.length) e.post) hp.heap) j → False := by
      intro i j L M h1 h2 hi hj hb li lj
      rcases hfresh j M h2 hj with h3 | ⟨x, N, hx, hgx, hN⟩
      · have a1 := (hH.dom i L hi).2
        omega
      · have hxi := hH.inj i x L N hi hgx (by rw [hb, hN]) (hback i h1 li) (hlive x hx)
        subst hxi
        obtain ⟨q, hq⟩ := List.mem_iff_getElem?.1 hx
        have hql : q < m.length := (List.getElem?_eq_some_iff.1 hq).1
        have lq : Live e.post q := by
          obtain ⟨k, hk, hne⟩ := li
          rw [hat q i hq] at hk
          obtain ⟨b, hb2, rfl⟩ := renBs_get _ _ _ _ hk
          exact ⟨b, hb2, by rintro rfl; exact hne rfl⟩
        have lj2 : Live e.post (j - hp.heap.length + m.length) := by
          obtain ⟨k, hk, hne⟩ := lj
          rw [show j = hp.heap.length + (j - hp.heap.length) by omega, wr_new m _ _ _ hlp] at hk
          obtain ⟨b, hb2, rfl⟩ := renBs_get _ _ _ _ hk
          exact ⟨b, by rw [Nat.add_comm]; exact hb2, by rintro rfl; exact hne rfl⟩
        obtain ⟨L2, hL2⟩ : ∃ L2, g1 q = some L2 := by
          obtain ⟨k, hk, hne⟩ := lq
          obtain ⟨L2, hL2, _⟩ := hP.blk q k hk hne
          exact ⟨L2, hL2⟩
        obtain ⟨y, hy, hgy⟩ := hold q L2 hql hL2
        rw [hq] at hy; cases hy
        rw [hi] at hgy; cases hgy
        rw [hi' j h2] at hj
        have := hP.inj q _ L M hL2 hj hb lq lj2
        omega
    have hkeep : ∀ b, b < w.heap.size → (∀ x L, x ∈ m → g x = some L → L.blk ≠ b) → w'.heap[b]? = w.heap[b]? := by
      intro b hb hno
      refine hfr b hb fun i L hiL => ?_
      obtain ⟨x, hx, hgx⟩ := hmv i L hiL
      exact hno x L (List.mem_iff_getElem?.2 ⟨_, hx⟩) hgx
    have hblock : ∀ (k : Nat) (c : List AVal) (t : TypeId) (L : Loc) (b : Blk), b = .cells c t → noSymVs c = true → BRel g1 w' b L → BRel g2 w' (renB (rho m hp.heap.length) b) L := by
      rintro _ c t L b rfl hns ⟨C, fr, k1, k2, k3, k4, k5⟩
      refine ⟨C, fr, k1, k2, k3, by rw [renVs_len]; exact k4, ?_⟩
      intro j a hj
      obtain ⟨a0, h0, rfl⟩ := renVs_get _ _ _ _ hj
      obtain ⟨y, y1, y2, y3⟩ := k5 j a0 h0
      exact ⟨y, y1, renV_rel hren y2 (noSymVs_get hns j a0 h0), y3⟩
    refine ⟨g2, ⟨u, rfl, renV_rel hren hu hv⟩, ⟨?_, ?_, ?_, ?_, hH.sig, ?_⟩, ?_⟩
    · intro i L hi
      show i < (wr _ _ _).length ∧ _
      by_cases hlt : i < hp.heap.length
      · rw [lo i hlt] at hi
        have := hH.dom i L hi
        exact ⟨by rw [hwl]; omega, by omega⟩
      · rw [hi' i hlt] at hi
        have := hP.dom _ L hi
        exact ⟨by rw [hwl]; omega, this.2⟩
    · intro i j L M hi hj hb li lj
      by_cases h1 : i < hp.heap.length <;> by_cases h2 : j < hp.heap.length
      · rw [lo i h1] at hi; rw [lo j h2] at hj
        exact hH.inj i j L M hi hj hb (hback i h1 li) (hback j h2 lj)
      · rw [lo i h1] at hi
        exact (hapart i j L M h1 h2 hi hj hb li lj).elim
      · rw [lo j h2] at hj
        exact (hapart j i M L h2 h1 hj hi hb.symm lj li).elim
      · have lv : ∀ i, ¬ i < hp.heap.length → Live (wr m (renBs (rho m hp.heap.length) e.post) hp.heap) i → Live e.post (i - hp.heap.length + m.length) := by
          rintro i h1 ⟨k, hk, hne⟩
          rw [show i = hp.heap.length + (i - hp.heap.length) by omega, wr_new m _ _ _ hlp] at hk
          obtain ⟨b, hb2, rfl⟩ := renBs_get _ _ _ _ hk
          exact ⟨b, by rw [Nat.add_comm]; exact hb2, by rintro rfl; exact hne rfl⟩
        rw [hi' i h1] at hi; rw [hi' j h2] at hj
        have := hP.inj _ _ L M hi hj hb (lv i h1 li) (lv j h2 lj)
        omega
    · intro i k hi hk
      have hi : (wr m (renBs (rho m hp.heap.length) e.post) hp.heap)[i]? = some k := hi
      by_cases h1 : i < hp.heap.length
      · by_cases hin : i ∈ m
        · obtain ⟨j, hj⟩ := List.mem_iff_getElem?.1 hin
          rw [hat j i hj] at hi
          obtain ⟨b, hb, rfl⟩ := renBs_get _ _ _ _ hi
          have hbg : b ≠ .gone := by rintro rfl; exact hk rfl
          obtain ⟨c, t, rfl, hns⟩ := litGs_get hpost _ _ hb hbg
          obtain ⟨L, hL, hBr⟩ := hP.blk _ _ hb hbg
          have hjl : j < m.length := (List.getElem?_eq_some_iff.1 hj).1
          obtain ⟨x, hx, hgx⟩ := hold j L hjl hL
          rw [hj] at hx; cases hx
          exact .inr ⟨L, by rw [lo i h1]; exact hgx, hblock 0 c t L _ rfl hns hBr⟩
        · rw [wr_old m _ _ i h1 hin] at hi
          rcases hH.blk0 i k hi hk with hz | ⟨L, hL, hBr⟩
          · exact .inl (hz.mono rfl)
          refine .inr ⟨L, by rw [lo i h1]; exact hL, (hBr.of_same (hkeep L.blk (hH.dom i L hL).2 fun x M hx hgx hbb => ?_)).mono hsub⟩
          have := hH.inj x i M L hgx hL hbb (hlive x hx) ⟨k, hi, hk⟩
          exact hin (this ▸ hx)
      · have hnl : i = hp.heap.length + (i - hp.heap.length) := by omega
        rw [hnl, wr_new m _ _ _ hlp] at hi
        obtain ⟨b, hb, rfl⟩ := renBs_get _ _ _ _ hi
        have hbg : b ≠ .gone := by rintro rfl; exact hk rfl
        obtain ⟨c, t, rfl, hns⟩ := litGs_get hpost _ _ hb hbg
        obtain ⟨L, hL, hBr⟩ := hP.blk _ _ hb hbg
        refine .inr ⟨L, by rw [hi' i h1, show i - hp.heap.length + m.length = m.length + (i - hp.heap.length) by omega]; exact hL, hblock 0 c t L _ rfl hns hBr⟩
    · intro i hi
      have : (cxOf X F).n = 0 := x4
      omega
    · refine ⟨fun i Y hi hY => ?_, fun i Y hi => ?_⟩
      · have hi : g.sig.ext i = some Y := hi
        rw [hext] at hi; cases hi
      · have f := hH.frz.mp i Y hi
        refine ⟨by show i < (wr _ _ _).length; rw [hwl]; omega, f.2.1.of_same (hkeep _ f.2.1.lt fun x M hx hgx => f.2.2 x M hgx (hlive x hx)), fun j N hj lj => ?_⟩
        by_cases h1 : j < hp.heap.length
        · rw [lo j h1] at hj
          exact f.2.2 j N hj (hback j h1 lj)
        · rcases hfresh j N h1 hj with a1 | ⟨x, M, hx, hgx, hM⟩
          · have a2 := f.2.1.lt
            omega
          · rw [← hM]; exact f.2.2 x M hgx (hlive x hx)
    · refine ⟨hsub, ?_, fun i Y hi hn => ?_, by show _ ≤ (wr _ _ _).length; omega, hback, hsz, fun b hb hno => hkeep b hb fun x L hx hgx => hno x L hgx (hlive x hx), hos, htp, hout⟩
      · intro i L hi hn
        by_cases h1 : i < hp.heap.length
        · rw [lo i h1] at hi; rw [hn] at hi; cases hi
        · exact ⟨by omega, (hfresh i L h1 hi).imp id fun ⟨x, M, hx, hgx, hM⟩ => ⟨x, M, hgx, hM, hlive x hx⟩⟩
      · exact absurd hi (by show ¬ g.mp i = some Y; rw [hn]; simp)
  · cases hm
/-- The first are themselves. -/
def idB : Nat → Nat → Bm → Bool
  | 0, _, _ => true
  | n + 1, i, l => match l with
    | p :: l => Nat.beq p.1 i && (Nat.beq p.2 0 && idB n (i + 1) l)
    | [] => false
theorem idB_spec : ∀ {n i : Nat} {l : Bm}, idB n i l = true → ∀ j, j < n → l[j]? = some (i + j, 0)
  | 0, _, _, _, j, hj => by omega
  | n + 1, i, [], h, j, hj => by simp [idB] at h
  | n + 1, i, p :: l, h, j, hj => by
    simp only [idB, Bool.and_eq_true] at h
    cases j with
    | zero =>
      obtain ⟨a, b⟩ := p
      have h1 := Nat.eq_of_beq_eq_true h.1
      have h2 := Nat.eq_of_beq_eq_true h.2.1
      simp only at h1 h2
      subst h1; subst h2; rfl
    | succ j => simpa [show i + (j + 1) = i + 1 + j by omega] using idB_spec h.2.2 j (by omega)
/-- The run ends in one leaf, and that is as the entry says, up to the numbers of new blocks. -/
def isMemF (e : MemF) (f : Bm) : Tree (Out × Hp) → Bool
  | .leaf x => match x.1 with
    | .val v => isNilL (matchV f e.v v) && (isNilL (matchH f x.2.heap e.post 0) && (Nat.beq f.length e.post.length && (noTwice f && idB e.pre.length 0 f)))
    | _ => false
  | _ => false
theorem closed_memF {P : Program} {X : Ing} {mb : Bool} {fuel d : Nat} {e : MemF} (f : Bm) (hX : X.m = 0 ∧ X.G = [] ∧ X.T = .e ∧ X.n = 0 ∧ X.rows = [] ∧ X.cuts = []) (hi1 : ∀ σ, (σ.ext = fun _ => none) → X.inv σ)
    (hm : P.follows .mixedOrders = true) (hh : ∀ F, Hooks P (cxOf X F)) (hl : (noSymV e.v && (litBs e.pre && (litGs e.post && Nat.ble e.pre.length e.post.length))) = true) (h : isMemF e f ((evD P (cxOf X) mb fuel d).1 [] e.f e.args ⟨e.pre, []⟩) = true) (hkt : okKt X = true := by exact rfl) : MemFOk P X.tab e := by
  simp only [Bool.and_eq_true] at hl
  obtain ⟨hl1, hl2, hl3, hl4⟩ := hl
  have hl4 := Nat.le_of_ble_eq_true hl4
  refine ⟨hl1, hl2, hl3, hl4, fun w l0 args' hP ha => ?_⟩
  obtain ⟨x1, x2, x3, x4, x5, x6⟩ := hX
  have hb : BaseOk X (sgz X.tab) := ⟨by rw [x2]; intro k d h; simp at h, rfl, fun i k hi _ => by omega, by rw [x5]; exact rows_nil, by rw [x6]; exact cuts_nil, hi1 _ rfl, hkt⟩
  have hg := cx_good (X := X) (F := []) (σ := sgz X.tab) (by rw [x3]; rfl) hb trivial
  have h0 : HRel (cxOf X []) ⟨l0, sgz X.tab, fun _ => none⟩ e.pre w := ⟨hP.dom, fun i j L M hi hj hb li lj => hP.inj i j L M hi hj hb li lj, fun i k hi hk => .inr (hP.blk i k hi hk), fun i hi => by have : (cxOf X []).n = 0 := x4; omega, hg,
    ⟨fun i Z hi _ => (by cases hi), fun i Y hi => (by cases hi)⟩⟩
  generalize hT : (evD P (cxOf X) mb fuel d).1 [] e.f e.args ⟨e.pre, []⟩ = T at h
  unfold isMemF at h
  split at h
  · rename_i x
    split at h
    · rename_i v hv
      simp only [Bool.and_eq_true] at h
      obtain ⟨m1, m2, m3, m4, m5⟩ := h
      have m1 := isNilL_eq m1
      have m2 := isNilL_eq m2
      have m3 := Nat.eq_of_beq_eq_true m3
      refine ((evD_env (mb := mb) (fuel := fuel) hm (cx_ok (by rw [x3]; rfl)) hh d).call [] e.f e.args ⟨e.pre, []⟩ (fun y => y = x) ⟨l0, sgz X.tab, fun _ => none⟩ w args' h0 ha (by rw [hT]; rfl)).mono ?_
      rintro en w' ⟨y, rfl, _, g', o1, o2, o3⟩
      rw [hv] at o1
      obtain ⟨u, rfl, hu⟩ := o1
      have hsig : g'.sig = sgz X.tab := o3.sub.sig
      have R : HRel (cxOf X []) (moved f g' (sgz X.tab)) e.post w' := rematch o2 (show (cxOf X []).n = 0 from x4) hg m3 m4 m2 (fun p hp => by cases hp) (by rw [hsig])
      have hid : ∀ i, i < e.pre.length → moved f g' (sgz X.tab) i = l0 i := by
        intro i hi
        have hfi := idB_spec m5 i hi
        rw [Nat.zero_add] at hfi
        obtain ⟨c0, t0, hk0, _⟩ := litBs_get hl2 i _ (List.getElem?_eq_getElem hi)
        obtain ⟨L, hL, _⟩ := hP.blk i _ (List.getElem?_eq_getElem hi) (by rw [hk0]; simp)
        have hL : l0 i = some L := hL
        have := o3.sub i L hL
        rw [(moved_moves f g' (sgz X.tab) (by rw [hsig])).1 i i 0 L hfi this, hL]
        rfl
      refine ⟨u, moved f g' (sgz X.tab), rfl, matchV_sound (moved_moves f g' (sgz X.tab) (by rw [hsig])) e.v v [] u m1 (fun p hp => by cases hp) hu, ⟨R.dom, fun i j L M hi hj hb li lj => R.inj i j L M hi hj hb li lj, fun i k hi hk => ?_⟩, hid, ?_, o3.size, fun b hb hno => o3.frame b hb fun i L hi _ => hno i L hi, o3.os, o3.tape, o3.output⟩
      · obtain ⟨c, t, rfl, _⟩ := litGs_get hl3 i k hi hk
        exact R.blk i _ hi (by simp)
      · intro i L hge hi
        obtain ⟨y, sh, L', h1, h2, rfl⟩ := moved_from hi
        have hyn : (⟨l0, sgz X.tab, fun _ => none⟩ : Inj) y = none := by
          cases hy : l0 y with
          | none => exact hy
          | some M =>
            have hlt := (hP.dom y M hy).1
            have hfy := idB_spec m5 y hlt
            rw [Nat.zero_add] at hfy
            have := noTwice_spec m4 i y y sh 0 h1 hfy
            omega
        rcases (o3.new y L' h2 hyn).2 with h3 | ⟨j, M, h3, h4, _⟩
        · exact .inl h3
        · exact .inr ⟨j, M, h3, h4⟩
    · cases h
  · cases h
/-- Many such calls at once. -/
def batchB (P : Program) (X : Ing) : List (MemF × Bm) → Bool
  | [] => true
  | p :: l => (noSymV p.1.v && (litBs p.1.pre && (litGs p.1.post && Nat.ble p.1.pre.length p.1.post.length))) && (isMemF p.1 p.2 ((evD P (cxOf X) true 1000 40).1 [] p.1.f p.1.args ⟨p.1.pre, []⟩) && batchB P X l)
def fstsF : List (MemF × Bm) → List MemF
  | [] => []
  | p :: l => p.1 :: fstsF l
def AllF (P : Program) (tab : Nat → List Int → Int) (l : List MemF) : Prop := ∀ e, e ∈ l → MemFOk P tab e
theorem AllF.nil {P : Program} {tab : Nat → List Int → Int} : AllF P tab [] := fun e h => by cases h
theorem AllF.cons {P : Program} {tab : Nat → List Int → Int} {e : MemF} {l : List MemF} (h : MemFOk P tab e) (h' : AllF P tab l) : AllF P tab (e :: l) := fun x hx => (List.mem_cons.1 hx).elim (fun q => q ▸ h) (h' x)
theorem AllF.append {P : Program} {tab : Nat → List Int → Int} {l m : List MemF} (h : AllF P tab l) (h' : AllF P tab m) : AllF P tab (l ++ m) := fun x hx => (List.mem_append.1 hx).elim (h x) (h' x)
theorem closed_batch {P : Program} {X : Ing} (hX : X.m = 0 ∧ X.G = [] ∧ X.T = .e ∧ X.n = 0 ∧ X.rows = [] ∧ X.cuts = []) (hi1 : ∀ σ, (σ.ext = fun _ => none) → X.inv σ)
    (hm : P.follows .mixedOrders = true) (hh : ∀ F, Hooks P (cxOf X F)) (hkt : okKt X = true := by exact rfl) : ∀ (l : List (MemF × Bm)), batchB P X l = true → AllF P X.tab (fstsF l)
  | [], _ => AllF.nil
  | p :: l, h => by
    simp only [batchB, Bool.and_eq_true] at h
    exact AllF.cons (closed_memF p.2 hX hi1 hm hh (by simp only [Bool.and_eq_true]; exact h.1) h.2.1 hkt) (closed_batch hX hi1 hm hh hkt l h.2.2)
end Go.Ev
