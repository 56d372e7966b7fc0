/- The evaluator, part 8. -/
import Derived.Test.YtipejmklkmccnaaGreatEv7
namespace Go.Ev
open Go.RowKit
set_option linter.unusedVariables false
set_option linter.unusedSimpArgs false
mutual
/-- The numbers of blocks, by a map. -/
def renV (ρ : Nat → Nat) : AVal → AVal
  | .ptr b o => .ptr (ρ b) o
  | .slice b o l c e => .slice (ρ b) o l c e
  | .func fn f c => .func fn (renVs ρ f) (renVs ρ c)
  | .iface t v => .iface t (renV ρ v)
  | .agg l => .agg (renVs ρ l)
  | .tuple l => .tuple (renVs ρ l)
  | a => a
def renVs (ρ : Nat → Nat) : List AVal → List AVal
  | [] => []
  | a :: l => renV ρ a :: renVs ρ l
end
mutual
theorem renV_rel {ρ : Nat → Nat} {g g2 : Inj} (hl : ∀ i L, g i = some L → g2 (ρ i) = some L) : ∀ {a : AVal} {v : Value}, VRel g a v → noSymV a = true → VRel g2 (renV ρ a) v
  | _, _, .bool b, _ => .bool b
  | _, _, .int k m, _ => .int k m
  | _, _, .float k m, _ => .float k m
  | _, _, .str s, _ => .str s
  | _, _, .nilptr, _ => .nilptr
  | _, _, .ptr b off L h, _ => .ptr _ off L (hl _ _ h)
  | _, _, .nilslice, _ => .nilslice
  | _, _, .slice b off len cap ex o' cap' L h h0 h1 h2, _ => .slice _ off len cap ex o' cap' L (hl _ _ h) h0 h1 h2
  | _, _, .nilmap, _ => .nilmap
  | _, _, .map _ _ _, h => by simp [noSymV] at h
  | _, _, .nilfunc, _ => .nilfunc
  | _, _, .func fn f c f' c' h1 h2, h => by
    simp only [noSymV, Bool.and_eq_true] at h
    exact .func fn _ _ f' c' (renVs_rel hl h1 h.1) (renVs_rel hl h2 h.2)
  | _, _, .niliface, _ => .niliface
  | _, _, .iface t v v' h1, h => .iface t _ v' (renV_rel hl h1 (by simpa [noSymV] using h))
  | _, _, .agg l l' h1, h => .agg _ l' (renVs_rel hl h1 (by simpa [noSymV] using h))
  | _, _, .tuple l l' h1, h => .tuple _ l' (renVs_rel hl h1 (by simpa [noSymV] using h))
  | _, _, .symi _ _, h => by simp [noSymV] at h
  | _, _, .symb _, h => by simp [noSymV] at h
  | _, _, .syms _, h => by simp [noSymV] at h
  | _, _, .row _ _ _ _ _ _ _, h => by simp [noSymV] at h
  | _, _, .rptr _ _ _ _ _ _ _ _, h => by simp [noSymV] at h
  | _, _, .yield _ _ _, h => by simp [noSymV] at h
  | _, _, .junk _ _, h => by simp [noSymV] at h
  | _, _, .geq _ _ _, h => by simp [noSymV] at h
theorem renVs_rel {ρ : Nat → Nat} {g g2 : Inj} (hl : ∀ i L, g i = some L → g2 (ρ i) = some L) : ∀ {a : List AVal} {v : List Value}, LRel g a v → noSymVs a = true → LRel g2 (renVs ρ a) v
  | _, _, .nil, _ => .nil
  | _, _, .cons a v l m h1 h2, h => by
    simp only [noSymVs, Bool.and_eq_true] at h
    exact .cons _ v _ m (renV_rel hl h1 h.1) (renVs_rel hl h2 h.2)
end
theorem renVs_get (ρ : Nat → Nat) : ∀ (l : List AVal) (i : Nat) (a : AVal), (renVs ρ l)[i]? = some a → ∃ b, l[i]? = some b ∧ a = renV ρ b
  | [], i, a, h => by simp [renVs] at h
  | b :: l, 0, a, h => by simp [renVs] at h; exact ⟨b, rfl, h.symm⟩
  | b :: l, i + 1, a, h => by
    simp only [renVs, List.getElem?_cons_succ] at h
    simpa using renVs_get ρ l i a h
theorem renVs_len (ρ : Nat → Nat) : ∀ (l : List AVal), (renVs ρ l).length = l.length
  | [] => rfl
  | _ :: l => by simp [renVs, renVs_len ρ l]
def renB (ρ : Nat → Nat) : Blk → Blk
  | .cells c e => .cells (renVs ρ c) e
  | k => k
def renBs (ρ : Nat → Nat) : List Blk → List Blk
  | [] => []
  | k :: l => renB ρ k :: renBs ρ l
theorem renBs_get (ρ : Nat → Nat) : ∀ (l : List Blk) (i : Nat) (k : Blk), (renBs ρ l)[i]? = some k → ∃ b, l[i]? = some b ∧ k = renB ρ b
  | [], i, a, h => by simp [renBs] at h
  | b :: l, 0, a, h => by simp [renBs] at h; exact ⟨b, rfl, h.symm⟩
  | b :: l, i + 1, a, h => by
    simp only [renBs, List.getElem?_cons_succ] at h
    simpa using renBs_get ρ l i a h
theorem renBs_len (ρ : Nat → Nat) : ∀ (l : List Blk), (renBs ρ l).length = l.length
  | [] => rfl
  | _ :: l => by simp [renBs, renBs_len ρ l]
/-- A call of literal arguments: the blocks that they reach; what it gives; these blocks afterwards, and the new ones that are reached. -/
structure MemF where
  f : FuncId
  args : List AVal
  pre : List Blk
  v : AVal
  post : List Blk
mutual
/-- Where the blocks of an entry lie: by a walk (nothing rests on it). -/
def uV (m : List Nat) : AVal → AVal → List Nat
  | .ptr b _, .ptr x _ => match Nat.beq b m.length with
    | true => m ++ [x]
    | false => m
  | .slice b _ _ _ _, .slice x _ _ _ _ => match Nat.beq b m.length with
    | true => m ++ [x]
    | false => m
  | .func _ f c, .func _ f' c' => uL (uL m f f') c c'
  | .iface _ v, .iface _ v' => uV m v v'
  | .agg l, .agg l' => uL m l l'
  | .tuple l, .tuple l' => uL m l l'
  | _, _ => m
def uL (m : List Nat) : List AVal → List AVal → List Nat
  | a :: l, b :: l' => uL (uV m a b) l l'
  | _, _ => m
end
def uH (H : List Blk) : List Blk → Nat → List Nat → List Nat
  | [], _, m => m
  | .cells c _ :: ks, i, m => match m[i]? with
    | some x => match H[x]? with
      | some (.cells c' _) => uH H ks (i + 1) (uL m c c')
      | _ => m
    | none => m
  | _ :: _, _, m => m
def zs : List Nat → Bm
  | [] => []
  | x :: l => (x, 0) :: zs l
theorem zs_get : ∀ {l : List Nat} {i x sh : Nat}, (zs l)[i]? = some (x, sh) → l[i]? = some x ∧ sh = 0
  | [], i, x, sh, h => by simp [zs] at h
  | y :: l, 0, x, sh, h => by
    simp [zs] at h
    obtain ⟨rfl, rfl⟩ := h
    exact ⟨rfl, rfl⟩
  | y :: l, i + 1, x, sh, h => by simpa using zs_get (l := l) (i := i) (by simpa [zs] using h)
theorem zs_of {l : List Nat} : ∀ {i x : Nat}, l[i]? = some x → (zs l)[i]? = some (x, 0) := by
  induction l with
  | nil => intro i x h; simp at h
  | cons y l ih =>
    intro i x h
    cases i with
    | zero => simp at h; simp [zs, h]
    | succ i => simpa [zs] using ih (by simpa using h)
theorem zs_len : ∀ (l : List Nat), (zs l).length = l.length
  | [] => rfl
  | _ :: l => by simp [zs, zs_len l]
def nilL : Option Asg → Bool
  | some [] => true
  | _ => false
theorem nilL_eq {o : Option Asg} (h : nilL o = true) : o = some [] := by
  unfold nilL at h
  split at h
  · rfl
  · cases h
/-- Does the entry fit there? -/
def fitsF (e : MemF) (args : List AVal) (H : List Blk) (m : List Nat) : Bool :=
  Nat.beq m.length e.pre.length && (nilL (matchL (zs m) e.args args) && (nilL (matchH (zs m) H e.pre 0) && noTwice (zs m)))
/-- A quick look: the numbers among the arguments (nothing rests on it). -/
def quickL : List AVal → List AVal → Bool
  | a :: l, b :: m => match a with
    | .int _ x => match b with
      | .int _ y => match x == y with
        | true => quickL l m
        | false => false
      | _ => quickL l m
    | _ => quickL l m
  | _, _ => true
/-- A number that lies behind the first argument: by a way of offsets (nothing rests on it). -/
def keyV (H : List Blk) : List Nat → AVal → Option Int
  | [], a => match a with
    | .int _ n => some n
    | _ => none
  | o :: p, a => match a with
    | .ptr b off => match H[b]? with
      | some (.cells c _) => match c[off + o]? with
        | some v => keyV H p v
        | none => none
      | _ => none
    | _ => none
def quickK (e : MemF) (args : List AVal) (H : List Blk) : List Nat → Bool
  | [] => true
  | o :: p => match e.args with
    | a :: _ => match args with
      | b :: _ => match keyV e.pre (o :: p) a with
        | some x => match keyV H (o :: p) b with
          | some y => x == y
          | none => true
        | none => true
      | [] => true
    | [] => true
def findF (ks : FuncId → List Nat) (f : FuncId) (args : List AVal) (H : List Blk) : List MemF → Option (MemF × List Nat)
  | [] => none
  | e :: l => match Nat.beq f e.f with
    | true => match (match quickL e.args args with
        | true => quickK e args H (ks f)
        | false => false) with
      | true => match fitsF e args H (uH H e.pre 0 (uL [] e.args args)) with
        | true => some (e, uH H e.pre 0 (uL [] e.args args))
        | false => findF ks f args H l
      | false => findF ks f args H l
    | false => findF ks f args H l
theorem findF_mem {ks : FuncId → List Nat} {f : FuncId} {args : List AVal} {H : List Blk} {e : MemF} {m : List Nat} : ∀ {l : List MemF}, findF ks f args H l = some (e, m) → e ∈ l ∧ e.f = f ∧ fitsF e args H m = true
  | [], h => by cases h
  | x :: l, h => by
    simp only [findF] at h
    have rest : findF ks f args H l = some (e, m) → e ∈ x :: l ∧ e.f = f ∧ fitsF e args H m = true := fun h =>
      let ⟨h1, h2⟩ := findF_mem h
      ⟨List.mem_cons_of_mem _ h1, h2⟩
    split at h
    · rename_i hf
      split at h
      · split at h
        · rename_i ha
          cases h
          exact ⟨List.mem_cons_self .., (Nat.eq_of_beq_eq_true hf).symm, ha⟩
        · exact rest h
      · exact rest h
    · exact rest h
/-- The blocks of an entry, by the caller's numbers. -/
def rho (m : List Nat) (n : Nat) (i : Nat) : Nat := match m[i]? with
  | some x => x
  | none => i - m.length + n
/-- These are written there; what is left over is new. -/
def wr : List Nat → List Blk → List Blk → List Blk
  | [], bs, H => H ++ bs
  | _ :: _, [], H => H
  | x :: m, b :: bs, H => wr m bs (H.set x b)
theorem wr_len : ∀ (m : List Nat) (bs H : List Blk), (wr m bs H).length = H.length + (bs.length - m.length)
  | [], bs, H => by simp [wr]
  | _ :: _, [], H => by simp [wr]
  | x :: m, b :: bs, H => by simp [wr, wr_len m bs]
theorem wr_new : ∀ (m : List Nat) (bs H : List Blk) (i : Nat), m.length ≤ bs.length → (wr m bs H)[H.length + i]? = bs[m.length + i]?
  | [], bs, H, i, _ => by rw [wr, List.getElem?_append_right (by omega)]; simp
  | _ :: _, [], H, i, h => by simp at h
  | x :: m, b :: bs, H, i, h => by
    have := wr_new m bs (H.set x b) i (by simpa using h)
    simp only [List.length_set] at this
    simp only [wr, this, List.length_cons]
    rw [show m.length + 1 + i = (m.length + i) + 1 by omega]; simp
theorem wr_old : ∀ (m : List Nat) (bs H : List Blk) (i : Nat), i < H.length → i ∉ m → (wr m bs H)[i]? = H[i]?
  | [], bs, H, i, h, _ => by simp [wr, List.getElem?_append_left h]
  | _ :: _, [], H, i, h, _ => by simp [wr]
  | x :: m, b :: bs, H, i, h, hn => by
    simp only [List.mem_cons, not_or] at hn
    rw [wr, wr_old m bs _ i (by simpa using h) hn.2]
    exact List.getElem?_set_ne (fun e => hn.1 e.symm)
theorem wr_at : ∀ (m : List Nat) (bs H : List Blk) (j x : Nat), m.length ≤ bs.length → noTwice (zs m) = true → (∀ y, y ∈ m → y < H.length) → m[j]? = some x → (wr m bs H)[x]? = bs[j]?
  | [], bs, H, j, x, _, _, _, h => by simp at h
  | _ :: _, [], H, j, x, h, _, _, _ => by simp at h
  | y :: m, b :: bs, H, j, x, hl, hn, hd, h => by
    simp only [zs, noTwice, Bool.and_eq_true] at hn
    cases j with
    | zero =>
      simp at h; subst h
      have hnot : y ∉ m := fun hm => by
        obtain ⟨i, hi⟩ := List.mem_iff_getElem?.1 hm
        exact notIn_spec hn.1 i y 0 (zs_of hi) rfl
      have hlt := hd y (by simp)
      rw [wr, wr_old m bs _ y (by simpa using hlt) hnot]
      simp [hlt]
    | succ j =>
      rw [wr, wr_at m bs _ j x (by simpa using hl) hn.2 (fun z hz => by simpa using hd z (by simp [hz])) (by simpa using h)]
      simp
def memMf (tbl : List MemF) (ks : FuncId → List Nat := fun _ => []) : MHookF := fun _ f args hp =>
  match findF ks f args hp.heap tbl with
  | some (e, m) => some (renV (rho m hp.heap.length) e.v, ⟨wr m (renBs (rho m hp.heap.length) e.post) hp.heap, m ++ hp.log⟩)
  | none => none
/-- All are literal, or gone. -/
def litGs : List Blk → Bool
  | [] => true
  | .gone :: l => litGs l
  | k :: l => litB k && litGs l
theorem litGs_get : ∀ {l : List Blk}, litGs l = true → ∀ (i : Nat) (k : Blk), l[i]? = some k → k ≠ .gone → ∃ c e, k = .cells c e ∧ noSymVs c = true
  | [], _, i, k, h, _ => by simp at h
  | b :: l, hn, 0, k, h, hk => by
    simp only [List.getElem?_cons_zero, Option.some.injEq] at h
    subst h
    have h2 : litB b = true := by
      cases b <;> first | exact absurd rfl hk | (simp only [litGs, Bool.and_eq_true] at hn; exact hn.1)
    exact litBs_get (l := [b]) (by simp [litBs, h2]) 0 b rfl
  | b :: l, hn, i + 1, k, h, hk => by
    have h2 : litGs l = true := by
      cases b <;> simp only [litGs, Bool.and_eq_true] at hn <;> first | exact hn | exact hn.2
    exact litGs_get h2 i k (by simpa using h) hk
/-- These blocks, all literal, lie there. -/
structure LitRel (g : Inj) (H : List Blk) (w : World) : Prop where
  dom : ∀ i L, g i = some L → i < H.length ∧ L.blk < w.heap.size
  inj : ∀ i j L M, g i = some L → g j = some M → L.blk = M.blk → Live H i → Live H j → i = j
  blk : ∀ i k, H[i]? = some k → k ≠ .gone → ∃ L, g i = some L ∧ BRel g w k L
def sgz (tab : Nat → List Int → Int) : Sig := ⟨fun _ => 0, fun _ => false, fun _ => .empty, tab, fun _ => none⟩
/-- What such an entry says of the program. -/
def MemFOk (P : Program) (tab : Nat → List Int → Int) (e : MemF) : Prop :=
  noSymV e.v = true ∧ litBs e.pre = true ∧ litGs e.post = true ∧ e.pre.length ≤ e.post.length ∧ ∀ (w : World) (l : Nat → Option Loc) (args' : Array Value), LitRel ⟨l, sgz tab, fun _ => none⟩ e.pre w → LRel ⟨l, sgz tab, fun _ => none⟩ e.args args'.toList → Calls P e.f args' w fun en w' =>
    ∃ (u : Value) (g1 : Inj), en = .returned u ∧ VRel g1 e.v u ∧ LitRel g1 e.post w' ∧ (∀ i, i < e.pre.length → g1 i = l i) ∧ (∀ i L, e.pre.length ≤ i → g1 i = some L → w.heap.size ≤ L.blk ∨ ∃ j M, l j = some M ∧ M.blk = L.blk) ∧
      w.heap.size ≤ w'.heap.size ∧ (∀ b, b < w.heap.size → (∀ i L, l i = some L → L.blk ≠ b) → w'.heap[b]? = w.heap[b]?) ∧ w'.os = w.os ∧ w'.tape = w.tape ∧ w'.output = w.output
theorem mem_memF {P : Program} {X : Ing} {tbl : List MemF} {ks : FuncId → List Nat} (h : ∀ e, e ∈ tbl → MemFOk P X.tab e) (hX : X.m = 0 ∧ X.G = [] ∧ X.T = .e ∧ X.n = 0 ∧ X.rows = [] ∧ X.cuts = []) (hi0 : ∀ σ, X.inv σ → σ.ext = fun _ => none) (hi1 : ∀ σ, (σ.ext = fun _ => none) → X.inv σ) (hkt : okKt X = true)
    (F : List Fact) (f : FuncId) (args : List AVal) (hp : Hp) (v : AVal) (hp' : Hp) (hm : memMf tbl ks (symS (baseOf X F)) f args hp = some (v, hp')) : CallP P (cxOf X F) f args hp (.val v) hp' := by
  unfold memMf at hm
  split at hm
  · rename_i e m he
    cases hm
    obtain ⟨hmem, rfl, hfit⟩ := findF_mem he
    obtain ⟨hv, hpre, hpost, hlen, hc⟩ := h e hmem
    simp only [fitsF, Bool.and_eq_true] at hfit
    obtain ⟨f1, f2, f3, f4⟩ := hfit
    have f1 := Nat.eq_of_beq_eq_true f1
    have f2 := nilL_eq f2
    have f3 := nilL_eq f3
    have hcell : ∀ (j x : Nat), m[j]? = some x → ∃ (c : List AVal) (t : TypeId), hp.heap[x]? = some (Blk.cells c t) := by
      intro j x hj
      have hlt : j < e.pre.length := by rw [← f1]; exact (List.getElem?_eq_some_iff.1 hj).1
      obtain ⟨c, t, hk, _⟩ := litBs_get hpre j _ (List.getElem?_eq_getElem hlt)
      obtain ⟨l, h1, _⟩ := matchH_get e.pre 0 _ f3 j _ (List.getElem?_eq_getElem hlt)
      rw [hk, Nat.zero_add] at h1
      simp only [matchB, zs_of hj] at h1
      split at h1
      · rename_i c' e' hc'
        exact ⟨_, _, hc'⟩
      · cases h1
    have hmlt : ∀ y, y ∈ m → y < hp.heap.length := by
      intro y hy
      obtain ⟨j, hj⟩ := List.mem_iff_getElem?.1 hy
      obtain ⟨c, t, hk⟩ := hcell j y hj
      exact (List.getElem?_eq_some_iff.1 hk).1
    have hlive : ∀ y, y ∈ m → Live hp.heap y := by
      intro y hy
      obtain ⟨j, hj⟩ := List.mem_iff_getElem?.1 hy
      obtain ⟨c, t, hk⟩ := hcell j y hj
      exact ⟨_, hk, by simp⟩
    have hlp : m.length ≤ (renBs (rho m hp.heap.length) e.post).length := by rw [renBs_len, f1]; exact hlen
    have hat : ∀ j x, m[j]? = some x → (wr m (renBs (rho m hp.heap.length) e.post) hp.heap)[x]? = (renBs (rho m hp.heap.length) e.post)[j]? := fun j x hj => wr_at m _ _ j x hlp f4 hmlt hj
    have hback : ∀ i, i < hp.heap.length → Live (wr m (renBs (rho m hp.heap.length) e.post) hp.heap) i → Live hp.heap i := by
      intro i hi hl
      by_cases hin : i ∈ m
      · exact hlive i hin
      · obtain ⟨k, hk, hne⟩ := hl
        rw [wr_old m _ _ i hi hin] at hk
        exact ⟨k, hk, hne⟩
    have hwl : (wr m (renBs (rho m hp.heap.length) e.post) hp.heap).length = hp.heap.length + (e.post.length - m.length) := by rw [wr_len, renBs_len]
    refine ⟨⟨by show hp.heap.length ≤ (wr _ _ _).length; omega, ⟨m, rfl, fun i hi hn => wr_old m _ _ i hi hn⟩, hback, fun i la hi hl => ?_⟩, fun g w args' hH hl => ?_⟩
    · by_cases hin : i ∈ m
      · obtain ⟨j, hj⟩ := List.mem_iff_getElem?.1 hin
        have hl : (wr m (renBs (rho m hp.heap.length) e.post) hp.heap)[i]? = some (.loop la) := hl
        rw [hat j i hj] at hl
        obtain ⟨b, hb, hbb⟩ := renBs_get _ _ _ _ hl
        obtain ⟨c, t, rfl, _⟩ := litGs_get hpost _ _ hb (by rintro rfl; cases hbb)
        cases hbb
      · have hl : (wr m (renBs (rho m hp.heap.length) e.post) hp.heap)[i]? = some (.loop la) := hl
        rw [wr_old m _ _ i hi hin] at hl
        exact ⟨la, hl, rfl, rfl, rfl, rfl, rfl⟩
    obtain ⟨x1, x2, x3, x4, x5, x6⟩ := hX
    have hext : g.sig.ext = fun _ => none := hi0 _ hH.sig.ok.2.inv
    have hb : BaseOk X (sgz X.tab) := ⟨by rw [x2]; intro k d h; simp at h, rfl, fun i k hi _ => by omega, by rw [x5]; exact rows_nil, by rw [x6]; exact cuts_nil, hi1 _ rfl, hkt⟩
    have hg := cx_good (X := X) (F := []) (σ := sgz X.tab) (by rw [x3]; rfl) hb trivial
    have R : HRel (cxOf X []) (moved (zs m) g (sgz X.tab)) e.pre w := rematch hH (show (cxOf X []).n = 0 from x4) hg (by rw [zs_len, f1]) f4 f3 (fun p hp => by cases hp) (by rw [hext]; rfl)
    have hmv : ∀ j L, moved (zs m) g (sgz X.tab) j = some L → ∃ x, m[j]? = some x ∧ g x = some L := by
      intro j L hj
      obtain ⟨x, sh, L', h1, h2, rfl⟩ := moved_from hj
      obtain ⟨h3, rfl⟩ := zs_get h1
      exact ⟨x, h3, h2⟩
    have hpr : LitRel (moved (zs m) g (sgz X.tab)) e.pre w := by
      refine ⟨R.dom, fun i j L M hi hj hbb _ _ => ?_, fun i k hi _ => ?_⟩
      · have liv : ∀ i L, moved (zs m) g (sgz X.tab) i = some L → Live e.pre i := by
          intro i L hi
          have hlt := (R.dom i L hi).1
          obtain ⟨c, t, hk2, _⟩ := litBs_get hpre i _ (List.getElem?_eq_getElem hlt)
          exact ⟨_, List.getElem?_eq_getElem hlt, by rw [hk2]; simp⟩
        exact R.inj i j L M hi hj hbb (liv i L hi) (liv j M hj)
      · obtain ⟨c, t, rfl, _⟩ := litBs_get hpre i k hi
        exact R.blk i _ hi (by simp)
    have hargs : LRel (moved (zs m) g (sgz X.tab)) e.args args'.toList := matchL_sound (moved_moves (zs m) g (sgz X.tab) (by rw [hext]; rfl)) e.args args [] _ f2 (fun p hp => by cases hp) hl
    refine (hc w (moved (zs m) g (sgz X.tab)).loc args' hpr hargs).mono ?_
    rintro en w' ⟨u, g1, rfl, hu, hP, hsame, hnew, hsz, hfr, hos, htp, hout⟩
    have hgn : ∀ i L, g i = some L → i < hp.heap.length := fun i L hi => (hH.dom i L hi).1
    let n := hp.heap.length
    let g2 : Inj := ⟨fun i => if i < hp.heap.length then g i else g1 (i - hp.heap.length + m.length), g.sig, g.mp⟩
    have lo : ∀ i, i < hp.heap.length → g2 i = g i := fun i hi => by show (if i < hp.heap.length then g i else _) = _; rw [if_pos hi]
    have hi' : ∀ i, ¬ i < hp.heap.length → g2 i = g1 (i - hp.heap.length + m.length) := fun i hi => by show (if i < hp.heap.length then g i else _) = _; rw [if_neg hi]
    have hsub : Sub g g2 := ⟨fun i L hi => by rw [lo i (hgn i L hi)]; exact hi, rfl, fun _ _ h => h⟩
    have hold : ∀ j L, j < m.length → g1 j = some L → ∃ x, m[j]? = some x ∧ g x = some L := by
      intro j L hj h1
      rw [hsame j (by rw [← f1]; exact hj)] at h1
      exact hmv j L h1
    have hren : ∀ i L, g1 i = some L → g2 (rho m hp.heap.length i) = some L := by
      intro i L h1
      by_cases hlt : i < m.length
      · obtain ⟨x, hx, hgx⟩ := hold i L hlt h1
        have : rho m hp.heap.length i = x := by simp [rho, hx]
        rw [this, lo x (hgn x L hgx)]; exact hgx
      · have : rho m hp.heap.length i = i - m.length + hp.heap.length := by simp [rho, List.getElem?_eq_none (by omega : m.length ≤ i)]
        rw [this, hi' _ (by omega), show i - m.length + hp.heap.length - hp.heap.length + m.length = i by omega]
        exact h1
    have hfresh : ∀ i L, ¬ i < hp.heap.length → g2 i = some L → w.heap.size ≤ L.blk ∨ ∃ x M, x ∈ m ∧ g x = some M ∧ M.blk = L.blk := by
      intro i L hlt h2
      rw [hi' i hlt] at h2
      rcases hnew _ L (by rw [← f1]; omega) h2 with h3 | ⟨j, M, h3, h4⟩
      · exact .inl h3
      · obtain ⟨x, hx, hgx⟩ := hmv j M h3
        exact .inr ⟨x, M, List.mem_iff_getElem?.2 ⟨_, hx⟩, hgx, h4⟩
    -- an old one, and a new one, do not lie at one place
    have hapart : ∀ i j L M, i < hp.heap.length → ¬ j < hp.heap.length → g i = some L → g2 j = some M → L.blk = M.blk → Live (wr m (renBs (rho m hp.heap.length) e.post) hp.heap) i → Live (wr m (renBs (rho m hp.heap.length) e.post) hp.heap) j → False := by
      intro i j L M h1 h2 hi hj hb li lj
      rcases hfresh j M h2 hj with h3 | ⟨x, N, hx, hgx, hN⟩
      · have a1 := (hH.dom i L hi).2
        omega
      · have hxi := hH.inj i x L N hi hgx (by rw [hb, hN]) (hback i h1 li) (hlive x hx)
        subst hxi
        obtain ⟨q, hq⟩ := List.mem_iff_getElem?.1 hx
        have hql : q < m.length := (List.getElem?_eq_some_iff.1 hq).1
        have lq : Live e.post q := by
          obtain ⟨k, hk, hne⟩ := li
          rw [hat q i hq] at hk
          obtain ⟨b, hb2, rfl⟩ := renBs_get _ _ _ _ hk
          exact ⟨b, hb2, by rintro rfl; exact hne rfl⟩
        have lj2 : Live e.post (j - hp.heap.length + m.length) := by
          obtain ⟨k, hk, hne⟩ := lj
          rw [show j = hp.heap.length + (j - hp.heap.length) by omega, wr_new m _ _ _ hlp] at hk
          obtain ⟨b, hb2, rfl⟩ := renBs_get _ _ _ _ hk
          exact ⟨b, by rw [Nat.add_comm]; exact hb2, by rintro rfl; exact hne rfl⟩
        obtain ⟨L2, hL2⟩ : ∃ L2, g1 q = some L2 := by
          obtain ⟨k, hk, hne⟩ := lq
          obtain ⟨L2, hL2, _⟩ := hP.blk q k hk hne
          exact ⟨L2, hL2⟩
        obtain ⟨y, hy, hgy⟩ := hold q L2 hql hL2
        rw [hq] at hy; cases hy
        rw [hi] at hgy; cases hgy
        rw [hi' j h2] at hj
        have := hP.inj q _ L M hL2 hj hb lq lj2
        omega
    have hkeep : ∀ b, b < w.heap.size → (∀ x L, x ∈ m → g x = some L → L.blk ≠ b) → w'.heap[b]? = w.heap[b]? := by
      intro b hb hno
      refine hfr b hb fun i L hiL => ?_
      obtain ⟨x, hx, hgx⟩ := hmv i L hiL
      exact hno x L (List.mem_iff_getElem?.2 ⟨_, hx⟩) hgx
    have hblock : ∀ (k : Nat) (c : List AVal) (t : TypeId) (L : Loc) (b : Blk), b = .cells c t → noSymVs c = true → BRel g1 w' b L → BRel g2 w' (renB (rho m hp.heap.length) b) L := by
      rintro _ c t L b rfl hns ⟨C, fr, k1, k2, k3, k4, k5⟩
      refine ⟨C, fr, k1, k2, k3, by rw [renVs_len]; exact k4, ?_⟩
      intro j a hj
      obtain ⟨a0, h0, rfl⟩ := renVs_get _ _ _ _ hj
      obtain ⟨y, y1, y2, y3⟩ := k5 j a0 h0
      exact ⟨y, y1, renV_rel hren y2 (noSymVs_get hns j a0 h0), y3⟩
    refine ⟨g2, ⟨u, rfl, renV_rel hren hu hv⟩, ⟨?_, ?_, ?_, ?_, hH.sig, ?_⟩, ?_⟩
    · intro i L hi
      show i < (wr _ _ _).length ∧ _
      by_cases hlt : i < hp.heap.length
      · rw [lo i hlt] at hi
        have := hH.dom i L hi
        exact ⟨by rw [hwl]; omega, by omega⟩
      · rw [hi' i hlt] at hi
        have := hP.dom _ L hi
        exact ⟨by rw [hwl]; omega, this.2⟩
    · intro i j L M hi hj hb li lj
      by_cases h1 : i < hp.heap.length <;> by_cases h2 : j < hp.heap.length
      · rw [lo i h1] at hi; rw [lo j h2] at hj
        exact hH.inj i j L M hi hj hb (hback i h1 li) (hback j h2 lj)
      · rw [lo i h1] at hi
        exact (hapart i j L M h1 h2 hi hj hb li lj).elim
      · rw [lo j h2] at hj
        exact (hapart j i M L h2 h1 hj hi hb.symm lj li).elim
      · have lv : ∀ i, ¬ i < hp.heap.length → Live (wr m (renBs (rho m hp.heap.length) e.post) hp.heap) i → Live e.post (i - hp.heap.length + m.length) := by
          rintro i h1 ⟨k, hk, hne⟩
          rw [show i = hp.heap.length + (i - hp.heap.length) by omega, wr_new m _ _ _ hlp] at hk
          obtain ⟨b, hb2, rfl⟩ := renBs_get _ _ _ _ hk
          exact ⟨b, by rw [Nat.add_comm]; exact hb2, by rintro rfl; exact hne rfl⟩
        rw [hi' i h1] at hi; rw [hi' j h2] at hj
        have := hP.inj _ _ L M hi hj hb (lv i h1 li) (lv j h2 lj)
        omega
    · intro i k hi hk
      have hi : (wr m (renBs (rho m hp.heap.length) e.post) hp.heap)[i]? = some k := hi
      by_cases h1 : i < hp.heap.length
      · by_cases hin : i ∈ m
        · obtain ⟨j, hj⟩ := List.mem_iff_getElem?.1 hin
          rw [hat j i hj] at hi
          obtain ⟨b, hb, rfl⟩ := renBs_get _ _ _ _ hi
          have hbg : b ≠ .gone := by rintro rfl; exact hk rfl
          obtain ⟨c, t, rfl, hns⟩ := litGs_get hpost _ _ hb hbg
          obtain ⟨L, hL, hBr⟩ := hP.blk _ _ hb hbg
          have hjl : j < m.length := (List.getElem?_eq_some_iff.1 hj).1
          obtain ⟨x, hx, hgx⟩ := hold j L hjl hL
          rw [hj] at hx; cases hx
          exact .inr ⟨L, by rw [lo i h1]; exact hgx, hblock 0 c t L _ rfl hns hBr⟩
        · rw [wr_old m _ _ i h1 hin] at hi
          rcases hH.blk0 i k hi hk with hz | ⟨L, hL, hBr⟩
          · exact .inl (hz.mono rfl)
          refine .inr ⟨L, by rw [lo i h1]; exact hL, (hBr.of_same (hkeep L.blk (hH.dom i L hL).2 fun x M hx hgx hbb => ?_)).mono hsub⟩
          have := hH.inj x i M L hgx hL hbb (hlive x hx) ⟨k, hi, hk⟩
          exact hin (this ▸ hx)
      · have hnl : i = hp.heap.length + (i - hp.heap.length) := by omega
        rw [hnl, wr_new m _ _ _ hlp] at hi
        obtain ⟨b, hb, rfl⟩ := renBs_get _ _ _ _ hi
        have hbg : b ≠ .gone := by rintro rfl; exact hk rfl
        obtain ⟨c, t, rfl, hns⟩ := litGs_get hpost _ _ hb hbg
        obtain ⟨L, hL, hBr⟩ := hP.blk _ _ hb hbg
        refine .inr ⟨L, by rw [hi' i h1, show i - hp.heap.length + m.length = m.length + (i - hp.heap.length) by omega]; exact hL, hblock 0 c t L _ rfl hns hBr⟩
    · intro i hi
      have : (cxOf X F).n = 0 := x4
      omega
    · refine ⟨fun i Y hi hY => ?_, fun i Y hi => ?_⟩
      · have hi : g.sig.ext i = some Y := hi
        rw [hext] at hi; cases hi
      · have f := hH.frz.mp i Y hi
        refine ⟨by show i < (wr _ _ _).length; rw [hwl]; omega, f.2.1.of_same (hkeep _ f.2.1.lt fun x M hx hgx => f.2.2 x M hgx (hlive x hx)), fun j N hj lj => ?_⟩
        by_cases h1 : j < hp.heap.length
        · rw [lo j h1] at hj
          exact f.2.2 j N hj (hback j h1 lj)
        · rcases hfresh j N h1 hj with a1 | ⟨x, M, hx, hgx, hM⟩
          · have a2 := f.2.1.lt
            omega
          · rw [← hM]; exact f.2.2 x M hgx (hlive x hx)
    · refine ⟨hsub, ?_, fun i Y hi hn => ?_, by show _ ≤ (wr _ _ _).length; omega, hback, hsz, fun b hb hno => hkeep b hb fun x L hx hgx => hno x L hgx (hlive x hx), hos, htp, hout⟩
      · intro i L hi hn
        by_cases h1 : i < hp.heap.length
        · rw [lo i h1] at hi; rw [hn] at hi; cases hi
        · exact ⟨by omega, (hfresh i L h1 hi).imp id fun ⟨x, M, hx, hgx, hM⟩ => ⟨x, M, hgx, hM, hlive x hx⟩⟩
      · exact absurd hi (by show ¬ g.mp i = some Y; rw [hn]; simp)
  · cases hm
/-- The first are themselves. -/
def idB : Nat → Nat → Bm → Bool
  | 0, _, _ => true
  | n + 1, i, l => match l with
    | p :: l => Nat.beq p.1 i && (Nat.beq p.2 0 && idB n (i + 1) l)
    | [] => false
theorem idB_spec : ∀ {n i : Nat} {l : Bm}, idB n i l = true → ∀ j, j < n → l[j]? = some (i + j, 0)
  | 0, _, _, _, j, hj => by omega
  | n + 1, i, [], h, j, hj => by simp [idB] at h
  | n + 1, i, p :: l, h, j, hj => by
    simp only [idB, Bool.and_eq_true] at h
    cases j with
    | zero =>
      obtain ⟨a, b⟩ := p
      have h1 := Nat.eq_of_beq_eq_true h.1
      have h2 := Nat.eq_of_beq_eq_true h.2.1
      simp only at h1 h2
      subst h1; subst h2; rfl
    | succ j => simpa [show i + (j + 1) = i + 1 + j by omega] using idB_spec h.2.2 j (by omega)
/-- The run ends in one leaf, and that is as the entry says, up to the numbers of new blocks. -/
def isMemF (e : MemF) (f : Bm) : Tree (Out × Hp) → Bool
  | .leaf x => match x.1 with
    | .val v => isNilL (matchV f e.v v) && (isNilL (matchH f x.2.heap e.post 0) && (Nat.beq f.length e.post.length && (noTwice f && idB e.pre.length 0 f)))
    | _ => false
  | _ => false
theorem closed_memF {P : Program} {X : Ing} {mb : Bool} {fuel d : Nat} {e : MemF} (f : Bm) (hX : X.m = 0 ∧ X.G = [] ∧ X.T = .e ∧ X.n = 0 ∧ X.rows = [] ∧ X.cuts = []) (hi1 : ∀ σ, (σ.ext = fun _ => none) → X.inv σ)
    (hm : P.follows .mixedOrders = true) (hh : ∀ F, Hooks P (cxOf X F)) (hl : (noSymV e.v && (litBs e.pre && (litGs e.post && Nat.ble e.pre.length e.post.length))) = true) (h : isMemF e f ((evD P (cxOf X) mb fuel d).1 [] e.f e.args ⟨e.pre, []⟩) = true) (hkt : okKt X = true := by exact rfl) : MemFOk P X.tab e := by
  simp only [Bool.and_eq_true] at hl
  obtain ⟨hl1, hl2, hl3, hl4⟩ := hl
  have hl4 := Nat.le_of_ble_eq_true hl4
  refine ⟨hl1, hl2, hl3, hl4, fun w l0 args' hP ha => ?_⟩
  obtain ⟨x1, x2, x3, x4, x5, x6⟩ := hX
  have hb : BaseOk X (sgz X.tab) := ⟨by rw [x2]; intro k d h; simp at h, rfl, fun i k hi _ => by omega, by rw [x5]; exact rows_nil, by rw [x6]; exact cuts_nil, hi1 _ rfl, hkt⟩
  have hg := cx_good (X := X) (F := []) (σ := sgz X.tab) (by rw [x3]; rfl) hb trivial
  have h0 : HRel (cxOf X []) ⟨l0, sgz X.tab, fun _ => none⟩ e.pre w := ⟨hP.dom, fun i j L M hi hj hb li lj => hP.inj i j L M hi hj hb li lj, fun i k hi hk => .inr (hP.blk i k hi hk), fun i hi => by have : (cxOf X []).n = 0 := x4; omega, hg,
    ⟨fun i Z hi _ => (by cases hi), fun i Y hi => (by cases hi)⟩⟩
  generalize hT : (evD P (cxOf X) mb fuel d).1 [] e.f e.args ⟨e.pre, []⟩ = T at h
  unfold isMemF at h
  split at h
  · rename_i x
    split at h
    · rename_i v hv
      simp only [Bool.and_eq_true] at h
      obtain ⟨m1, m2, m3, m4, m5⟩ := h
      have m1 := isNilL_eq m1
      have m2 := isNilL_eq m2
      have m3 := Nat.eq_of_beq_eq_true m3
      refine ((evD_env (mb := mb) (fuel := fuel) hm (cx_ok (by rw [x3]; rfl)) hh d).call [] e.f e.args ⟨e.pre, []⟩ (fun y => y = x) ⟨l0, sgz X.tab, fun _ => none⟩ w args' h0 ha (by rw [hT]; rfl)).mono ?_
      rintro en w' ⟨y, rfl, _, g', o1, o2, o3⟩
      rw [hv] at o1
      obtain ⟨u, rfl, hu⟩ := o1
      have hsig : g'.sig = sgz X.tab := o3.sub.sig
      have R : HRel (cxOf X []) (moved f g' (sgz X.tab)) e.post w' := rematch o2 (show (cxOf X []).n = 0 from x4) hg m3 m4 m2 (fun p hp => by cases hp) (by rw [hsig])
      have hid : ∀ i, i < e.pre.length → moved f g' (sgz X.tab) i = l0 i := by
        intro i hi
        have hfi := idB_spec m5 i hi
        rw [Nat.zero_add] at hfi
        obtain ⟨c0, t0, hk0, _⟩ := litBs_get hl2 i _ (List.getElem?_eq_getElem hi)
        obtain ⟨L, hL, _⟩ := hP.blk i _ (List.getElem?_eq_getElem hi) (by rw [hk0]; simp)
        have hL : l0 i = some L := hL
        have := o3.sub i L hL
        rw [(moved_moves f g' (sgz X.tab) (by rw [hsig])).1 i i 0 L hfi this, hL]
        rfl
      refine ⟨u, moved f g' (sgz X.tab), rfl, matchV_sound (moved_moves f g' (sgz X.tab) (by rw [hsig])) e.v v [] u m1 (fun p hp => by cases hp) hu, ⟨R.dom, fun i j L M hi hj hb li lj => R.inj i j L M hi hj hb li lj, fun i k hi hk => ?_⟩, hid, ?_, o3.size, fun b hb hno => o3.frame b hb fun i L hi _ => hno i L hi, o3.os, o3.tape, o3.output⟩
      · obtain ⟨c, t, rfl, _⟩ := litGs_get hl3 i k hi hk
        exact R.blk i _ hi (by simp)
      · intro i L hge hi
        obtain ⟨y, sh, L', h1, h2, rfl⟩ := moved_from hi
        have hyn : (⟨l0, sgz X.tab, fun _ => none⟩ : Inj) y = none := by
          cases hy : l0 y with
          | none => exact hy
          | some M =>
            have hlt := (hP.dom y M hy).1
            have hfy := idB_spec m5 y hlt
            rw [Nat.zero_add] at hfy
            have := noTwice_spec m4 i y y sh 0 h1 hfy
            omega
        rcases (o3.new y L' h2 hyn).2 with h3 | ⟨j, M, h3, h4, _⟩
        · exact .inl h3
        · exact .inr ⟨j, M, h3, h4⟩
    · cases h
  · cases h
/-- Many such calls at once. -/
def batchB (P : Program) (X : Ing) : List (MemF × Bm) → Bool
  | [] => true
  | p :: l => (noSymV p.1.v && (litBs p.1.pre && (litGs p.1.post && Nat.ble p.1.pre.length p.1.post.length))) && (isMemF p.1 p.2 ((evD P (cxOf X) true 1000 40).1 [] p.1.f p.1.args ⟨p.1.pre, []⟩) && batchB P X l)
def fstsF : List (MemF × Bm) → List MemF
  | [] => []
  | p :: l => p.1 :: fstsF l
def AllF (P : Program) (tab : Nat → List Int → Int) (l : List MemF) : Prop := ∀ e, e ∈ l → MemFOk P tab e
theorem AllF.nil {P : Program} {tab : Nat → List Int → Int} : AllF P tab [] := fun e h => by cases h
theorem AllF.cons {P : Program} {tab : Nat → List Int → Int} {e : MemF} {l : List MemF} (h : MemFOk P tab e) (h' : AllF P tab l) : AllF P tab (e :: l) := fun x hx => (List.mem_cons.1 hx).elim (fun q => q ▸ h) (h' x)
theorem AllF.append {P : Program} {tab : Nat → List Int → Int} {l m : List MemF} (h : AllF P tab l) (h' : AllF P tab m) : AllF P tab (l ++ m) := fun x hx => (List.mem_append.1 hx).elim (h x) (h' x)
theorem closed_batch {P : Program} {X : Ing} (hX : X.m = 0 ∧ X.G = [] ∧ X.T = .e ∧ X.n = 0 ∧ X.rows = [] ∧ X.cuts = []) (hi1 : ∀ σ, (σ.ext = fun _ => none) → X.inv σ)
    (hm : P.follows .mixedOrders = true) (hh : ∀ F, Hooks P (cxOf X F)) (hkt : okKt X = true := by exact rfl) : ∀ (l : List (MemF × Bm)), batchB P X l = true → AllF P X.tab (fstsF l)
  | [], _ => AllF.nil
  | p :: l, h => by
    simp only [batchB, Bool.and_eq_true] at h
    exact AllF.cons (closed_memF p.2 hX hi1 hm hh (by simp only [Bool.and_eq_true]; exact h.1) h.2.1 hkt) (closed_batch hX hi1 hm hh hkt l h.2.2)
end Go.Ev
namespace Go.Ev
open Go.RowKit
set_option linter.unusedVariables false
set_option linter.unusedSimpArgs false
/-- what the callee's unknowns are here -/
structure EnvS (σ τ : Sig) (env : TT) : Prop where
  i : ∀ i a k, env.get i = some a → skOf a = some (.i k) → den σ a = .int k (τ.ival i)
  b : ∀ i a, env.get i = some a → skOf a = some .b → den σ a = .bool (τ.bval i)
  s : ∀ i a, env.get i = some a → skOf a = some .s → den σ a = .str (τ.sval i)
def sbA (env : TT) (a : AVal) : Option AVal :=
  match a with
  | .symi k i => match env.get i with
    | some v => match skOf v with
      | some (.i k') => match decide (k = k') with
        | true => some v
        | false => none
      | _ => none
    | none => none
  | .symb i => match env.get i with
    | some v => match skOf v with
      | some .b => some v
      | _ => none
    | none => none
  | .syms i => match env.get i with
    | some v => match skOf v with
      | some .s => some v
      | _ => none
    | none => none
  | .int _ _ => some a
  | .bool _ => some a
  | .str _ => some a
  | _ => none
theorem sbA_ok {σ τ : Sig} {env : TT} (h : EnvS σ τ env) {a v : AVal} (he : sbA env a = some v) : den σ v = den τ a := by
  unfold sbA at he
  split at he
  · rename_i k i
    split at he
    · rename_i w hw
      split at he
      · rename_i k' hk
        split at he
        · rename_i hd
          simp only [decide_eq_true_eq] at hd
          subst hd
          cases he
          exact h.i i _ _ hw hk
        · cases he
      · cases he
    · cases he
  · rename_i i
    split at he
    · rename_i w hw
      split at he
      · rename_i hk; cases he; exact h.b i _ hw hk
      · cases he
    · cases he
  · rename_i i
    split at he
    · rename_i w hw
      split at he
      · rename_i hk; cases he; exact h.s i _ hw hk
      · cases he
    · cases he
  · cases he; rfl
  · cases he; rfl
  · cases he; rfl
  · cases he
theorem EnvS.put {σ τ : Sig} {env : TT} (h : EnvS σ τ env) {i : Nat} {a : AVal} {d : SDef} (ha : den σ a = den τ (resS d i)) : EnvS σ τ (env.put i a) := by
  refine ⟨fun j b k hb hk => ?_, fun j b hb hk => ?_, fun j b hb hk => ?_⟩ <;> rcases TT.get_put _ _ _ _ _ hb with ⟨rfl, rfl⟩ | ⟨_, h2⟩
  · obtain ⟨⟨n, hn⟩, _⟩ := sk_i hk σ
    rcases resS_cases d j with ⟨k', e⟩ | e | e <;> rw [e, hn] at ha <;> simp only [den, AVal.int.injEq, reduceCtorEq] at ha
    rw [hn, ha.2]
  · exact h.i j b k h2 hk
  · obtain ⟨⟨n, hn⟩, _⟩ := sk_b hk σ
    rcases resS_cases d j with ⟨k', e⟩ | e | e <;> rw [e, hn] at ha <;> simp only [den, AVal.bool.injEq, reduceCtorEq] at ha
    rw [hn, ha]
  · exact h.b j b h2 hk
  · obtain ⟨⟨n, hn⟩, _⟩ := sk_s hk σ
    rcases resS_cases d j with ⟨k', e⟩ | e | e <;> rw [e, hn] at ha <;> simp only [den, AVal.str.injEq, reduceCtorEq] at ha
    rw [hn, ha]
  · exact h.s j b h2 hk
mutual
/-- A value of the callee's, here. -/
def sbV (env : TT) (ρ : Nat → Nat) : AVal → Option AVal
  | .ptr b o => some (.ptr (ρ b) o)
  | .slice b o l c e => some (.slice (ρ b) o l c e)
  | .func fn f c => match sbVs env ρ f, sbVs env ρ c with
    | some f, some c => some (.func fn f c)
    | _, _ => none
  | .iface t v => match sbV env ρ v with
    | some v => some (.iface t v)
    | none => none
  | .agg l => match sbVs env ρ l with
    | some l => some (.agg l)
    | none => none
  | .tuple l => match sbVs env ρ l with
    | some l => some (.tuple l)
    | none => none
  | .symi k i => sbA env (.symi k i)
  | .symb i => sbA env (.symb i)
  | .syms i => sbA env (.syms i)
  | .int k n => some (.int k n)
  | .bool b => some (.bool b)
  | .str s => some (.str s)
  | .nilptr => some .nilptr
  | .nilslice => some .nilslice
  | .nilmap => some .nilmap
  | .nilfunc => some .nilfunc
  | .niliface => some .niliface
  | .row i => some (.row i)
  | .rptr i ix j => match sbA env ix with
    | some ix => some (.rptr i ix j)
    | none => none
  | .junk => some .junk
  | _ => none
def sbVs (env : TT) (ρ : Nat → Nat) : List AVal → Option (List AVal)
  | [] => some []
  | a :: l => match sbV env ρ a, sbVs env ρ l with
    | some b, some m => some (b :: m)
    | _, _ => none
end
theorem sb_rel {g g2 : Inj} {env : TT} (he : EnvS g2.sig g.sig env) {a a' : AVal} {v : Value} (h : sbA env a = some a') (hv : VRel g a v) : VRel g2 a' v := by
  have hd := sbA_ok he h
  unfold sbA at h
  split at h
  · cases hv; exact den_rel.1 (by rw [hd]; exact .int _ _)
  · cases hv; exact den_rel.1 (by rw [hd]; exact .bool _)
  · cases hv; exact den_rel.1 (by rw [hd]; exact .str _)
  · cases h; cases hv; exact .int _ _
  · cases h; cases hv; exact .bool _
  · cases h; cases hv; exact .str _
  · cases h
mutual
theorem sbV_rel {ρ : Nat → Nat} {g g2 : Inj} {env : TT} (hl : ∀ i L, g i = some L → g2 (ρ i) = some L) (he : EnvS g2.sig g.sig env) (hx : g2.sig.ext = g.sig.ext) : ∀ {a a' : AVal} {v : Value}, VRel g a v → sbV env ρ a = some a' → VRel g2 a' v
  | _, _, _, .bool b, h => by simp only [sbV, Option.some.injEq] at h; subst h; exact .bool b
  | _, _, _, .int k m, h => by simp only [sbV, Option.some.injEq] at h; subst h; exact .int k m
  | _, _, _, .float k m, h => by simp [sbV] at h
  | _, _, _, .str s, h => by simp only [sbV, Option.some.injEq] at h; subst h; exact .str s
  | _, _, _, .nilptr, h => by simp only [sbV, Option.some.injEq] at h; subst h; exact .nilptr
  | _, _, _, .ptr b off L h1, h => by simp only [sbV, Option.some.injEq] at h; subst h; exact .ptr _ off L (hl _ _ h1)
  | _, _, _, .nilslice, h => by simp only [sbV, Option.some.injEq] at h; subst h; exact .nilslice
  | _, _, _, .slice b off len cap ex o' cap' L h1 h0 h2 h3, h => by simp only [sbV, Option.some.injEq] at h; subst h; exact .slice _ off len cap ex o' cap' L (hl _ _ h1) h0 h2 h3
  | _, _, _, .nilmap, h => by simp only [sbV, Option.some.injEq] at h; subst h; exact .nilmap
  | _, _, _, .map _ _ _, h => by simp [sbV] at h
  | _, _, _, .nilfunc, h => by simp only [sbV, Option.some.injEq] at h; subst h; exact .nilfunc
  | _, _, _, .func fn f c f' c' h1 h2, h => by
    simp only [sbV] at h
    split at h
    · rename_i f2 c2 e1 e2; cases h; exact .func fn _ _ f' c' (sbVs_rel hl he hx h1 e1) (sbVs_rel hl he hx h2 e2)
    · cases h
  | _, _, _, .niliface, h => by simp only [sbV, Option.some.injEq] at h; subst h; exact .niliface
  | _, _, _, .iface t v v' h1, h => by
    simp only [sbV] at h
    split at h
    · rename_i v2 e; cases h; exact .iface t _ v' (sbV_rel hl he hx h1 e)
    · cases h
  | _, _, _, .agg l l' h1, h => by
    simp only [sbV] at h
    split at h
    · rename_i v2 e; cases h; exact .agg _ l' (sbVs_rel hl he hx h1 e)
    · cases h
  | _, _, _, .tuple l l' h1, h => by
    simp only [sbV] at h
    split at h
    · rename_i v2 e; cases h; exact .tuple _ l' (sbVs_rel hl he hx h1 e)
    · cases h
  | _, _, _, .symi k i, h => sb_rel he (by simpa only [sbV] using h) (.symi k i)
  | _, _, _, .symb i, h => sb_rel he (by simpa only [sbV] using h) (.symb i)
  | _, _, _, .syms i, h => sb_rel he (by simpa only [sbV] using h) (.syms i)
  | _, _, _, .row i X ao cap h1 h2 h3, h => by simp only [sbV, Option.some.injEq] at h; subst h; exact .row i X ao cap (by rw [hx]; exact h1) h2 h3
  | _, _, _, .rptr i ix j m X h1 h2 h3, h => by
    simp only [sbV] at h
    split at h
    · rename_i ix2 e; cases h; exact .rptr i _ j m X (by rw [hx]; exact h1) (by rw [sbA_ok he e]; exact h2) h3
    · cases h
  | _, _, _, .yield _ _ _, h => by simp [sbV] at h
  | _, _, _, .junk v h1, h => by simp only [sbV, Option.some.injEq] at h; subst h; exact .junk v h1
  | _, _, _, .geq _ _ _, h => by simp [sbV] at h
theorem sbVs_rel {ρ : Nat → Nat} {g g2 : Inj} {env : TT} (hl : ∀ i L, g i = some L → g2 (ρ i) = some L) (he : EnvS g2.sig g.sig env) (hx : g2.sig.ext = g.sig.ext) : ∀ {a a' : List AVal} {v : List Value}, LRel g a v → sbVs env ρ a = some a' → LRel g2 a' v
  | _, _, _, .nil, h => by simp only [sbVs, Option.some.injEq] at h; subst h; exact .nil
  | _, _, _, .cons a v l m h1 h2, h => by
    simp only [sbVs] at h
    split at h
    · rename_i b m2 e1 e2; cases h; exact .cons _ v _ m (sbV_rel hl he hx h1 e1) (sbVs_rel hl he hx h2 e2)
    · cases h
end
theorem sbVs_get {env : TT} {ρ : Nat → Nat} : ∀ {l m : List AVal}, sbVs env ρ l = some m → ∀ (i : Nat) (a : AVal), m[i]? = some a → ∃ b, l[i]? = some b ∧ sbV env ρ b = some a
  | [], m, h, i, a, hi => by simp only [sbVs, Option.some.injEq] at h; subst h; simp at hi
  | b :: l, m, h, i, a, hi => by
    simp only [sbVs] at h
    split at h
    · rename_i b' m' e1 e2
      cases h
      cases i with
      | zero => simp at hi; subst hi; exact ⟨b, rfl, e1⟩
      | succ i => simpa using sbVs_get e2 i a (by simpa using hi)
    · cases h
theorem sbVs_len {env : TT} {ρ : Nat → Nat} : ∀ {l m : List AVal}, sbVs env ρ l = some m → m.length = l.length
  | [], m, h => by simp only [sbVs, Option.some.injEq] at h; subst h; rfl
  | b :: l, m, h => by
    simp only [sbVs] at h
    split at h
    · rename_i b' m' e1 e2; cases h; simp [sbVs_len e2]
    · cases h
def sbBs (env : TT) (ρ : Nat → Nat) : List Blk → Option (List Blk)
  | [] => some []
  | .cells c e :: l => match sbVs env ρ c, sbBs env ρ l with
    | some c, some l => some (.cells c e :: l)
    | _, _ => none
  | _ :: _ => none
theorem sbBs_get {env : TT} {ρ : Nat → Nat} : ∀ {l m : List Blk}, sbBs env ρ l = some m → ∀ (i : Nat) (k : Blk), m[i]? = some k → ∃ c c' e, l[i]? = some (.cells c e) ∧ k = .cells c' e ∧ sbVs env ρ c = some c'
  | [], m, h, i, k, hi => by simp only [sbBs, Option.some.injEq] at h; subst h; simp at hi
  | .cells c e :: l, m, h, i, k, hi => by
    simp only [sbBs] at h
    split at h
    · rename_i c' m' e1 e2
      cases h
      cases i with
      | zero => simp at hi; subst hi; exact ⟨c, c', e, rfl, rfl, e1⟩
      | succ i => simpa using sbBs_get e2 i k (by simpa using hi)
    · cases h
  | .map _ :: _, _, h, _, _, _ | .gone :: _, _, h, _, _, _ | .loop _ :: _, _, h, _, _, _ | .dfr :: _, _, h, _, _, _ | .iter _ _ _ :: _, _, h, _, _, _ => by simp [sbBs] at h
theorem sbBs_len {env : TT} {ρ : Nat → Nat} : ∀ {l m : List Blk}, sbBs env ρ l = some m → m.length = l.length
  | [], m, h => by simp only [sbBs, Option.some.injEq] at h; subst h; rfl
  | .cells c e :: l, m, h => by
    simp only [sbBs] at h
    split at h
    · rename_i c' m' e1 e2; cases h; simp [sbBs_len e2]
    · cases h
  | .map _ :: _, _, h | .gone :: _, _, h | .loop _ :: _, _, h | .dfr :: _, _, h | .iter _ _ _ :: _, _, h => by simp [sbBs] at h
def cellsBs : List Blk → Bool
  | [] => true
  | .cells _ _ :: l => cellsBs l
  | _ :: _ => false
theorem cellsBs_get : ∀ {l : List Blk}, cellsBs l = true → ∀ (i : Nat) (k : Blk), l[i]? = some k → ∃ c e, k = .cells c e
  | [], _, i, k, hi => by simp at hi
  | .cells c e :: l, h, 0, k, hi => by simp at hi; exact ⟨c, e, hi.symm⟩
  | .cells c e :: l, h, i + 1, k, hi => cellsBs_get (l := l) (by simpa [cellsBs] using h) i k (by simpa using hi)
  | .map _ :: _, h, _, _, _ | .gone :: _, h, _, _, _ | .loop _ :: _, h, _, _, _ | .dfr :: _, h, _, _, _ | .iter _ _ _ :: _, h, _, _, _ => by simp [cellsBs] at h
/-- A call: its arguments and the blocks that they reach, over m unknowns; what is taken of these; the operations behind; what it gives, and these blocks (and new ones) afterwards. -/
structure SymF where
  f : FuncId
  m : Nat
  ins : List (Option IntKind)
  args : List AVal
  pre : List Blk
  pcs : List SDef
  G : List SDef
  v : AVal
  post : List Blk
structure SymFOk (P : Program) (tab : TabF) (inv : Sig → Prop) (e : SymF) : Prop where
  len : e.pre.length ≤ e.post.length
  cpre : cellsBs e.pre = true
  cpost : cellsBs e.post = true
  ok : okG e.G e.m = true
  call : ∀ (g : Inj) (w : World) (args' : Array Value), g.sig.tab = tab → inv g.sig → Eqs g.sig e.m e.G → InsOk g.sig e.m e.ins → (∀ d, d ∈ e.pcs → evalS g.sig d = some (.bool true)) → HRel (cx0 tab) g e.pre w → LRel g e.args args'.toList →
    Calls P e.f args' w fun en w' => ∃ (u : Value) (g1 : Inj), en = .returned u ∧ g1.sig = g.sig ∧ VRel g1 e.v u ∧ HRel (cx0 tab) g1 e.post w' ∧ (∀ i, i < e.pre.length → g1 i = g i) ∧ (∀ i L, e.pre.length ≤ i → g1 i = some L → w.heap.size ≤ L.blk) ∧
      w.heap.size ≤ w'.heap.size ∧ (∀ b, b < w.heap.size → (∀ i L, g i = some L → L.blk ≠ b) → w'.heap[b]? = w.heap[b]?) ∧ w'.os = w.os ∧ w'.tape = w.tape ∧ w'.output = w.output
/-! ### Such a contract, from the stages of the callee's body -/
/-- what such a call leaves -/
def MemR (tab : TabF) (e : SymF) (g : Inj) (w : World) (en : Ending) (w' : World) : Prop :=
  ∃ (u : Value) (g1 : Inj), en = .returned u ∧ g1.sig = g.sig ∧ VRel g1 e.v u ∧ HRel (cx0 tab) g1 e.post w' ∧ (∀ i, i < e.pre.length → g1 i = g i) ∧ (∀ i L, e.pre.length ≤ i → g1 i = some L → w.heap.size ≤ L.blk) ∧
      w.heap.size ≤ w'.heap.size ∧ (∀ b, b < w.heap.size → (∀ i L, g i = some L → L.blk ≠ b) → w'.heap[b]? = w.heap[b]?) ∧ w'.os = w.os ∧ w'.tape = w.tape ∧ w'.output = w.output
def fraOf (g : Inj) (w : World) : Fra where
  w := w
  own := fun b => w.heap.size ≤ b ∨ ∃ i L, g i = some L ∧ L.blk = b
  new := fun _ h => .inl h
  pin := g.loc
/-- the unknowns of the end -/
def idE (e : SymF) : Option Asg :=
  match matchV (idF e.post.length 0) e.v e.v, matchH (idF e.post.length 0) e.post e.post 0 with
  | some x, some y => some (x ++ y)
  | _, _ => none
def DenEq (σ τ : Sig) : Asg → Prop
  | [] => True
  | p :: r => den σ p.2 = den τ p.2 ∧ DenEq σ τ r
theorem denEq_fits {σ τ : Sig} {M : Nat} : ∀ {l : Asg}, idAsg M l = true → DenEq σ τ l → Fits σ τ l
  | [], _, _ => fun p hp => by cases hp
  | q :: l, hl, hd => by
    simp only [idAsg, Bool.and_eq_true] at hl
    intro p hp
    rcases List.mem_cons.1 hp with rfl | hp
    · have h1 := hl.1
      have h2 := hd.1
      split at h1
      all_goals first
        | cases h1
        | skip
      all_goals
        rename_i hx
        simp only [Bool.and_eq_true] at h1
        have e := Nat.eq_of_beq_eq_true h1.1
        rw [hx] at h2 ⊢
        rw [← e] at h2 ⊢
        refine ⟨fun k n hn => ?_, fun b hn => ?_, fun s hn => ?_⟩ <;> rw [h2] at hn <;> simp only [den, AVal.int.injEq, AVal.bool.injEq, AVal.str.injEq, reduceCtorEq] at hn
        first
          | exact hn.2
          | exact hn
    · exact denEq_fits hl.2 hd.2 p hp
theorem endZ_mem {P : Program} {tab : TabF} {n M : Nat} {fn : Func} {e : SymF} {g : Inj} {w : World} {SE : Shape} {vs : List AVal} {σ : Sig} {x : SEx} {l : Asg} (hSE : resA P (tmOf SE n) SE.heap fn.results.toList = some vs) (hv : packA vs = e.v) (hp : SE.heap = e.post)
    (hH : HRel (cx0 tab) g e.pre w) (ht : g.sig.tab = tab) (hcp : cellsBs e.pre = true) (hc : cellsBs e.post = true) (hid : idE e = some l) (hidl : idAsg M l = true) (hnt : noTwice (idF e.post.length 0) = true) (hd : DenEq σ g.sig l) (hext : σ.ext = g.sig.ext) (hx : x = .ret ∨ x = .normal) :
    EndZ tab n (fraOf g w) (bodyPost P fn (MemR tab e g w)) x SE σ := by
  intro en a w' hxe hA
  obtain ⟨g', rfl, hH', hT, hO, hP⟩ := hA.ex
  have hT1 : TRel g' (tmOf SE n) a := by
    refine ⟨by simp only [tmOf, hA.size]; exact Nat.le_refl _, ?_⟩
    intro i v hv
    exact hT _ (tmOf_get hv)
  obtain ⟨u, hres, h2⟩ := results_run hH' hT1 hSE
  rw [hv] at h2
  rw [hp] at hH'
  have hfit := denEq_fits hidl hd
  unfold idE at hid
  split at hid
  · rename_i lx ly hlx hly
    cases hid
    have R : HRel (cx0 tab) (moved (idF e.post.length 0) g' g.sig) e.post w' := rematch hH' rfl (cx0_good ht) (idF_length _ _) hnt hly hfit.right hext.symm
    have hmv : ∀ i, i < e.post.length → moved (idF e.post.length 0) g' g.sig i = g' i := by
      intro i hi
      have h0 : (idF e.post.length 0)[i]? = some (i, 0) := by simpa using idF_at (i := 0) hi
      cases hg : g' i with
      | none => simp only [moved, h0, hg, Option.map_none]
      | some L => simp only [moved, h0, hg, Option.map_some, shift, Nat.add_zero, Nat.sub_zero]
    have hlive : ∀ i L, g' i = some L → Live e.post i := by
      intro i L hi
      have hlt := (hH'.dom i L hi).1
      obtain ⟨c, t, hk⟩ := cellsBs_get hc i _ (List.getElem?_eq_getElem hlt)
      exact ⟨_, List.getElem?_eq_getElem hlt, by rw [hk]; simp⟩
    have hR : MemR tab e g w (.returned u) w' := by
      refine ⟨u, moved (idF e.post.length 0) g' g.sig, rfl, rfl, matchV_sound (moved_moves _ g' _ hext.symm) e.v e.v lx u hlx hfit.left h2, R, fun i hi => ?_, fun i L hi hL => ?_, hA.below.size, fun b hb hno => hA.below.frame b hb ?_, hA.below.os, hA.below.tape, hA.below.output⟩
      · obtain ⟨c, t, hk⟩ := cellsBs_get hcp i _ (List.getElem?_eq_getElem hi)
        obtain ⟨L, hL, _⟩ := hH.blk i _ (List.getElem?_eq_getElem hi) (by rw [hk]; simp) (by rw [hk]; rfl)
        have h3 : g' i = some L := hP i L hL
        rw [hmv i (hH'.dom i L h3).1, h3, hL]
      · have hlt := (R.dom i L hL).1
        rw [hmv i hlt] at hL
        rcases hO i L hL with h3 | ⟨j, N, hj, hb⟩
        · exact h3
        · have h4 : g' j = some N := hP j N hj
          have := hH'.inj j i N L h4 hL hb (hlive j N h4) (hlive i L hL)
          have := (hH.dom j N hj).1
          omega
      · rintro (h3 | ⟨i, L, hi, h3⟩)
        · exact absurd h3 (by omega)
        · exact hno i L hi h3
    have : a.defers = [] ∧ ∃ v, (results fn a.tmps).run P w' = .ok v w' ∧ MemR tab e g w (.returned v) w' := ⟨hA.defers, _, hres, hR⟩
    cases en with
    | normal => exact this
    | ret => exact this
    | _ => rcases hx with rfl | rfl <;> exact hxe.elim
  · cases hid
theorem symF_of_stage {P : Program} {tab : TabF} {inv : Sig → Prop} {e : SymF} {fn : Func} {n : Nat} (hf : P.funcs[e.f]? = some fn) (hb : fn.body = some (bodyOf fn)) (hn : fn.ntmps = n) (hna : e.args.length ≤ n)
    (hlen : e.pre.length ≤ e.post.length) (hcp : cellsBs e.pre = true) (hc : cellsBs e.post = true) (hG : okG e.G e.m = true)
    (h : ∀ (g : Inj) (w : World), g.sig.tab = tab → inv g.sig → Eqs g.sig e.m e.G → InsOk g.sig e.m e.ins → (∀ d, d ∈ e.pcs → evalS g.sig d = some (.bool true)) → HRel (cx0 tab) g e.pre w →
      Stage P tab n (fraOf g w) (bodyPost P fn (MemR tab e g w)) (flatC (bodyOf fn)) ⟨argT 0 e.args, e.pre⟩ e.m e.ins (fun σ => Agree e.m g.sig σ)) : SymFOk P tab inv e := by
  refine ⟨hlen, hcp, hc, hG, fun g w args' ht hi he hins hpc hH ha => ?_⟩
  refine calls_body hf hb ?_
  rw [hn]
  have hal : args'.size ≤ n := by
    have := ha.length
    simp only [Array.length_toList] at this
    omega
  have hA0 : At tab ⟨argT 0 e.args, e.pre⟩ n g.sig (fraOf g w) { tmps := args' ++ Array.replicate (n - args'.size) undef, defers := [] } w := by
    refine ⟨⟨g, rfl, hH, ?_, fun i L hi => .inr ⟨i, L, hi, rfl⟩, fun i L hi => hi⟩, BelowF.refl (fraOf g w), by simp; omega, rfl⟩
    intro p hp
    obtain ⟨j, h1, h2⟩ := argT_get _ _ _ hp
    obtain ⟨u, k1, k2⟩ := ha.get j p.2 h2
    refine ⟨u, ?_, k2⟩
    have hlt : j < args'.size := by
      have := (List.getElem?_eq_some_iff.1 k1).1
      simpa using this
    rw [h1, Nat.zero_add, Array.getElem?_append_left hlt]
    simpa using k1
  have := flat_wp _ (h g w ht hi he hins hpc hH _ _ g.sig hA0 hins ⟨fun _ _ => ⟨rfl, rfl, rfl⟩, rfl, rfl⟩ ht)
  rwa [then_self] at this
end Go.Ev
namespace Go.Ev
open Go.RowKit
set_option linter.unusedVariables false
set_option linter.unusedSimpArgs false
/-- what came in: rows, of which the first is gone over; its length is unknown 1, and unknown 0 counts -/
structure RowE (E : Nat → Option Fz) (X : Fz) (σ : Sig) : Prop where
  ext : σ.ext = E
  len : σ.ival 1 = X.len
  lo : 0 ≤ σ.ival 0
  hi : σ.ival 0 ≤ X.len
def RowEEl (q : Nat) (cl : List Cl) (E : Nat → Option Fz) (X : Fz) (τ : Sig) : Prop := ∃ σ, Agree (q + cl.length) (elSig σ q X) τ ∧ RowE E X σ
theorem RowEEl.hd {E : Nat → Option Fz} {cl : List Cl} {X : Fz} {q : Nat} (h2 : 2 ≤ q) {τ : Sig} (h : RowEEl q cl E X τ) : RowE E X τ := by
  obtain ⟨σ, ag, he, h1, h0, h3⟩ := h
  refine ⟨by rw [← ag.ext]; exact he, ?_, ?_, ?_⟩
  · rw [← (ag.val 1 (by omega)).1]; simp [elSig, show 1 < q by omega, h1]
  · rw [← (ag.val 0 (by omega)).1]; simp [elSig, show 0 < q by omega, h0]
  · rw [← (ag.val 0 (by omega)).1]; simp [elSig, show 0 < q by omega, h3]
theorem RowEEl.rows {E : Nat → Option Fz} {W : World} {cl : List Cl} {v : Value} {X : Fz} (hX : RowV W cl v X) (hE : ∀ Y, E 0 = some Y → Y = X) {q : Nat} (h2q : 2 ≤ q) {τ : Sig} (h : RowEEl q cl E X τ) : RowsOk τ [⟨.symi .i64 1, [(.symi .i64 0, elCells q cl)]⟩] := by
  obtain ⟨σ, ag, he, h1, h0, _⟩ := h
  intro i r Y hr hY
  have hr0 : i = 0 := by
    cases i with
    | zero => rfl
    | succ i => simp at hr
  subst hr0
  rw [← ag.ext] at hY
  have hY : σ.ext 0 = some Y := hY
  rw [he] at hY
  have hY := hE Y hY
  subst hY
  simp only [List.getElem?_cons_zero, Option.some.injEq] at hr
  subst hr
  have t0 : τ.ival 0 = σ.ival 0 := by rw [← (ag.val 0 (by omega)).1]; simp [elSig, show 0 < q by omega]
  have t1 : τ.ival 1 = σ.ival 1 := by rw [← (ag.val 1 (by omega)).1]; simp [elSig, show 1 < q by omega]
  refine ⟨by show AVal.int .i64 (τ.ival 1) = _; rw [t1, h1], fun p hp m hm hlt => ?_⟩
  simp only [List.mem_singleton] at hp
  subst hp
  have hm : τ.ival 0 = (m : Int) := by simpa [den] using hm
  rw [t0] at hm
  have hmN : (σ.ival 0).toNat = m := by omega
  refine ⟨by rw [elCells_length]; exact hX.z.symm, fun j c hc => ?_⟩
  obtain ⟨z, hz, rfl⟩ := elCells_get q cl j c hc
  have hj : j < cl.length := (List.getElem?_eq_some_iff.1 hz).1
  obtain ⟨n, h3, h4⟩ := el_get (hX.els _ hlt) hz
  have hnq : ¬ (q + j < q) := by omega
  cases z with
  | i k =>
    simp only [den]
    rw [← (ag.val (q + j) (by omega)).1]
    simp only [elSig, hnq, if_false, hmN, hlt, if_true, Nat.add_sub_cancel_left]
    rw [h4]; rfl
  | b =>
    simp only [den]
    rw [← (ag.val (q + j) (by omega)).2.1]
    simp only [elSig, hnq, if_false, hmN, hlt, if_true, Nat.add_sub_cancel_left]
    rw [h4]; rfl
end Go.Ev
namespace Go.Ev
open Go.RowKit
set_option linter.unusedVariables false
set_option linter.unusedSimpArgs false
theorem wr_i64 (n : Int) : IntKind.i64.wrap n = (n + 9223372036854775808) % 18446744073709551616 - 9223372036854775808 := by simp [IntKind.wrap, IntKind.bits, IntKind.signed]; omega
theorem wr_u64 (n : Int) : IntKind.u64.wrap n = n % 18446744073709551616 := by simp [IntKind.wrap, IntKind.bits, IntKind.signed]
/-! ### Strings -/
/-! ### What is to be shown of the leaves, with the facts of the way to them -/
/-- What the numbers of a shape are made of stays within their kinds, by the tree of kinds. -/
theorem insOk_kt {X : Ing} {τ : Sig} (hG : Eqs τ X.m X.G) (hi : InsOk τ X.m X.ins) (hkt : okKt X = true) {l : Asg} {q : Nat} {insq : List (Option IntKind)} (h : insAsg (kdX X) l insq 0 = true) : InsOk (asgS τ l) q insq := by
  intro i k _ hik
  have hik : insq[i]? = some (some k) := by
    cases hc : insq[i]? with
    | none => rw [hc] at hik; cases hik
    | some o => rw [hc] at hik; simp only [Option.getD_some] at hik; rw [hik]
  obtain ⟨a, h1, h2⟩ := insAsg_get h i k hik
  rw [Nat.zero_add] at h1
  obtain ⟨n, h3, h4⟩ := inK_spec (fun i k h => kdX_spec hG hi hkt i k h) h2
  have : (asgS τ l).ival i = n := by
    simp only [asgS, h1]
    cases a <;> simp only [inK, Bool.false_eq_true] at h2 <;> simp only [valS, h3, iOf]
  rw [this]; exact h4
end Go.Ev
namespace Go.Ev
set_option linter.unusedVariables false
set_option linter.unusedSimpArgs false
/-- a shape's unknowns, put in -/
def sbT (env : TT) : List (Nat × AVal) → Option (List (Nat × AVal))
  | [] => some []
  | p :: l => match sbV env (fun i => i) p.2 with
    | some a => match sbT env l with
      | some r => some ((p.1, a) :: r)
      | none => none
    | none => none
theorem sbT_mem {env : TT} : ∀ {l m : List (Nat × AVal)}, sbT env l = some m → ∀ p, p ∈ m → ∃ a, (p.1, a) ∈ l ∧ sbV env (fun i => i) a = some p.2
  | [], m, h, p, hp => by simp only [sbT, Option.some.injEq] at h; subst h; cases hp
  | q :: l, m, h, p, hp => by
    simp only [sbT] at h
    split at h
    · rename_i a ha
      split at h
      · rename_i r hr
        cases h
        rcases List.mem_cons.1 hp with rfl | hp
        · exact ⟨q.2, by simp, ha⟩
        · obtain ⟨b, h1, h2⟩ := sbT_mem hr p hp
          exact ⟨b, by simp [h1], h2⟩
      · cases h
    · cases h
theorem At.subst {tab : TabF} {S S2 : Shape} {n : Nat} {σ τ : Sig} {W0 : Fra} {a : Act} {w : World} {env : TT} (hA : At tab S n σ W0 a w) (he : EnvS τ σ env) (hx : τ.ext = σ.ext) (ht : τ.tab = tab) (h1 : sbT env S.t = some S2.t) (h2 : sbBs env (fun i => i) S.heap = some S2.heap) : At tab S2 n τ W0 a w := by
  obtain ⟨⟨g, rfl, hH, hT, hO, hP⟩, hb, hs, hd⟩ := hA
  let g2 : Inj := ⟨g.loc, τ, g.mp⟩
  have hl : ∀ i L, g i = some L → g2 ((fun i => i) i) = some L := fun i L h => h
  have hlen := sbBs_len h2
  refine ⟨⟨g2, rfl, ⟨fun i L hi => by rw [hlen]; exact hH.dom i L hi, fun i j L M hi hj hbb li lj => hH.inj i j L M hi hj hbb ?_ ?_, fun i k hi hk => ?_, hH.glob, cx0_good ht, ⟨fun i X hi hX => ?_, fun i X hi => ?_⟩⟩, fun p hp => ?_, hO, hP⟩, hb, hs, hd⟩
  · obtain ⟨k, hk, _⟩ := li
    obtain ⟨c, c', e, h3, _, _⟩ := sbBs_get h2 i k hk
    exact ⟨_, h3, by simp⟩
  · obtain ⟨k, hk, _⟩ := lj
    obtain ⟨c, c', e, h3, _, _⟩ := sbBs_get h2 j k hk
    exact ⟨_, h3, by simp⟩
  · obtain ⟨c, c', e, h3, rfl, h5⟩ := sbBs_get h2 i k hi
    obtain ⟨L, hL, C, fr, k1, k2, k3, k4, k5⟩ := hH.blk i _ h3 (by simp) rfl
    refine .inr ⟨L, hL, C, fr, k1, k2, k3, by rw [sbVs_len h5]; exact k4, fun j b hj => ?_⟩
    obtain ⟨b0, h6, h7⟩ := sbVs_get h5 j b hj
    obtain ⟨y, y1, y2, y3⟩ := k5 j b0 h6
    exact ⟨y, y1, sbV_rel hl he hx y2 h7, y3⟩
  · have hi : τ.ext i = some X := hi
    rw [hx] at hi
    obtain ⟨f1, f2⟩ := hH.frz.row i X hi hX
    refine ⟨f1, fun j L hj lj => f2 j L hj ?_⟩
    obtain ⟨k, hk, _⟩ := lj
    obtain ⟨c, c', e, h3, _, _⟩ := sbBs_get h2 j k hk
    exact ⟨_, h3, by simp⟩
  · obtain ⟨f0, f1, f2⟩ := hH.frz.mp i X hi
    refine ⟨by rw [hlen]; exact f0, f1, fun j L hj lj => f2 j L hj ?_⟩
    obtain ⟨k, hk, _⟩ := lj
    obtain ⟨c, c', e, h3, _, _⟩ := sbBs_get h2 j k hk
    exact ⟨_, h3, by simp⟩
  · obtain ⟨b, h3, h4⟩ := sbT_mem h1 p hp
    obtain ⟨u, u1, u2⟩ := hT _ h3
    exact ⟨u, u1, sbV_rel hl he hx u2 h4⟩
/-- an entry, as a contract without unknowns -/
def entSym (e : MemF) : SymF := ⟨e.f, 0, [], e.args, e.pre, [], [], e.v, e.post⟩
theorem memF_of_symF {P : Program} {tab : TabF} {e : MemF} (h : SymFOk P tab (fun _ => True) (entSym e)) (hl : (noSymV e.v && (litBs e.pre && (litGs e.post && Nat.ble e.pre.length e.post.length))) = true) : MemFOk P tab e := by
  simp only [Bool.and_eq_true] at hl
  obtain ⟨hl1, hl2, hl3, hl4⟩ := hl
  refine ⟨hl1, hl2, hl3, Nat.le_of_ble_eq_true hl4, fun w l args' hP ha => ?_⟩
  have hH : HRel (cx0 tab) ⟨l, sgz tab, fun _ => none⟩ e.pre w := ⟨hP.dom, hP.inj, fun i k hi hk => .inr (hP.blk i k hi hk), fun i hi => absurd hi (Nat.not_lt_zero i), cx0_good rfl, ⟨fun i Z hi _ => (by cases hi), fun i Y hi => (by cases hi)⟩⟩
  refine (h.call ⟨l, sgz tab, fun _ => none⟩ w args' rfl trivial (fun k d hk => by simp [entSym] at hk) (fun i k hi _ => absurd hi (Nat.not_lt_zero i)) (fun d hd => by cases hd) hH ha).mono ?_
  rintro en w' ⟨u, g1, rfl, hsig, hu, hP1, hsame, hnew, hsz, hfr, hos, htp, hout⟩
  refine ⟨u, g1, rfl, hu, ⟨hP1.dom, fun i j L M hi hj hb li lj => hP1.inj i j L M hi hj hb li lj, fun i k hi hk => ?_⟩, hsame, fun i L h1 h2 => .inl (hnew i L h1 h2), hsz, hfr, hos, htp, hout⟩
  obtain ⟨c, t, rfl, _⟩ := litGs_get hl3 i k hi hk
  exact hP1.blk i _ hi (by simp) rfl
end Go.Ev
