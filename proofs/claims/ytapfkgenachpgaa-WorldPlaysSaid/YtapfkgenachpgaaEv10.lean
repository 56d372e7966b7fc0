/- The evaluator, part 10. -/
import Derived.RangeFuncLeaves
import Derived.RangeFuncFrom
import Derived.Test.YtapfkgenachpgaaEv9
namespace Go.Ev
open Go.RowKit
set_option linter.unusedVariables false
set_option linter.unusedSimpArgs false
structure AtG (tab : TabF) (s : Shape) (n : Nat) (W0 : Fra) (a : Act) (w : World) (g : Inj) : Prop where
  rel : HRel (cx0 tab) g s.heap w
  mp : ∀ i, g.mp i = none
  tmp : ∀ p, p ∈ s.t → ∃ u, a.tmps[p.1]? = some u ∧ VRel g p.2 u
  own : ∀ i L, g i = some L → W0.own L.blk
  pin : ∀ i x, W0.pin i = some x → i < s.heap.length ∧ g i = x
  below : BelowF W0 w
  size : a.tmps.size = n
def StageM (P : Program) (tab : TabF) (n : Nat) (W0 : Fra) (Z : Exit → Act → World → Prop) (c : List Code) (S : Shape) (q : Nat) (ins : List (Option IntKind)) (J : Sig → Prop) : Prop :=
  ∀ a w g D, AtG tab S n W0 a w g → a.defers = [{ target := .collected D, args := #[] }] → W0.w.heap.size ≤ D → w.heap[D]? = some (.deferred (some [])) → (∀ i L, g i = some L → L.blk ≠ D) → InsOk g.sig q ins → J g.sig → g.sig.tab = tab → chainK P c (Z .normal) Z a w
def rngOf : List Code → Option (Nat × Operand × Array Tmp × Code × Code)
  | [] => none
  | .block i (.rangeFunc f ps a b) :: _ => some (i, f, ps, a, b)
  | _ :: l => rngOf l
def rngPs (l : List Code) : Array Tmp := match rngOf l with
  | some (_, _, ps, _, _) => ps
  | none => #[]
def rngAsg (l : List Code) : Code := match rngOf l with
  | some (_, _, _, a, _) => a
  | none => .skip
def rngBody (l : List Code) : Code := match rngOf l with
  | some (_, _, _, _, b) => b
  | none => .skip
def roundTree (t : Tm) (nk : Nat) : Tree (Out × Hp) → Tree (Ex × Tm × Hp)
  | .leaf x => match x.1 with
    | .val (.bool true) => match x.2.heap[nk]? with
      | some .dfr => match x.2.heap[nk + 1]? with
        | some (.loop l2) => match l2.st, l2.pend with
          | .ready, none => .leaf (.normal, t, x.2)
          | _, _ => .dead
        | _ => .dead
      | _ => .dead
    | _ => .dead
  | .node i y n => .node i (roundTree t nk y) (roundTree t nk n)
  | .pick i c y n => .pick i c (roundTree t nk y) (roundTree t nk n)
  | .or y n => .or (roundTree t nk y) (roundTree t nk n)
  | .req o v => .req o (roundTree t nk v)
  | .dead => .dead
theorem roundTree_sat {σ : Sig} {t : Tm} {nk : Nat} {Q : Ex × Tm × Hp → Prop} : ∀ {T : Tree (Out × Hp)}, Sat σ Q (roundTree t nk T) →
    Sat σ (fun x => x.1 = .val (.bool true) ∧ x.2.heap[nk]? = some .dfr ∧ (∃ l2, x.2.heap[nk + 1]? = some (.loop l2) ∧ l2.st = .ready ∧ l2.pend = none) ∧ Q (.normal, t, x.2)) T
  | .leaf x, h => by
    simp only [roundTree] at h
    split at h
    · rename_i h1
      split at h
      · rename_i h2
        split at h
        · rename_i l2 h3
          split at h
          · rename_i h4 h5
            exact ⟨h1, h2, ⟨l2, h3, h4, h5⟩, h⟩
          · exact h.elim
        · exact h.elim
      · exact h.elim
    · exact h.elim
  | .node i _ _, h => ⟨fun e => roundTree_sat (h.1 e), fun e => roundTree_sat (h.2 e)⟩
  | .pick i c _ _, h => ⟨fun e => roundTree_sat (h.1 e), fun e => roundTree_sat (h.2 e)⟩
  | .or _ _, h => ⟨roundTree_sat h.1, roundTree_sat h.2⟩
  | .req _ _, h => ⟨h.1, roundTree_sat h.2⟩
  | .dead, h => h
theorem HRel.add {ng : Cx} {g : Inj} {H : List Blk} {w : World} (h : HRel ng g H w) (hn : ng.n = 0) (hmp : ∀ i, g.mp i = none) {k : Blk} {L : Loc} {o : Obj} (ho : w.heap[L.blk]? = some o) (hoc : o.isCells = false)
    (hfree : ∀ j M, g j = some M → Live H j → M.blk ≠ L.blk) (hB : BRel (upd g H.length L) w k L) : HRel ng (upd g H.length L) (H ++ [k]) w ∧ Sub g (upd g H.length L) := by
  have hid := (new_none h).1
  have hsub := upd_sub L hid
  have hlt : L.blk < w.heap.size := (Array.getElem?_eq_some_iff.1 ho).1
  have hold : ∀ j, j ≠ H.length → (H ++ [k])[j]? = H[j]? := app_other
  have hliv : ∀ j, j ≠ H.length → (Live (H ++ [k]) j ↔ Live H j) := fun j hj => by simp only [Live, hold j hj]
  have hat : (upd g H.length L) H.length = some L := upd_same _ _ _
  have hoth : ∀ j, j ≠ H.length → (upd g H.length L) j = g j := fun j hj => upd_other _ _ hj
  refine ⟨⟨fun i M hi => ?_, fun i j M N hi hj hb li lj => ?_, fun i k' hi hk' => ?_, fun i hi => by omega, ?_, ⟨fun i X hi hX => ?_, fun i X hi => ?_⟩⟩, hsub⟩
  · by_cases e : i = H.length
    · subst e; rw [hat] at hi; cases hi; exact ⟨by simp, hlt⟩
    · rw [hoth i e] at hi
      have := h.dom i M hi
      exact ⟨by simp; omega, this.2⟩
  · by_cases e : i = H.length
    · subst e
      rw [hat] at hi; cases hi
      by_cases e' : j = H.length
      · exact e'.symm
      · rw [hoth j e'] at hj
        exact absurd hb.symm (hfree j N hj ((hliv j e').1 lj))
    · rw [hoth i e] at hi
      by_cases e' : j = H.length
      · subst e'
        rw [hat] at hj; cases hj
        exact absurd hb (hfree i M hi ((hliv i e).1 li))
      · rw [hoth j e'] at hj
        exact h.inj i j M N hi hj hb ((hliv i e).1 li) ((hliv j e').1 lj)
  · by_cases e : i = H.length
    · subst e
      have : (H ++ [k])[H.length]? = some k := by simp
      rw [this] at hi; cases hi
      exact .inr ⟨L, hat, hB⟩
    · rw [hold i e] at hi
      rcases h.blk0 i k' hi hk' with h1 | ⟨M, h1, h2⟩
      · exact .inl (h1.mono hsub.sig)
      · exact .inr ⟨M, by rw [hoth i e]; exact h1, h2.mono hsub⟩
  · rw [hsub.sig]; exact h.sig
  · have hi : g.sig.ext i = some X := by rw [← hsub.sig]; exact hi
    obtain ⟨f1, f2⟩ := h.frz.row i X hi hX
    refine ⟨f1, fun j M hj lj => ?_⟩
    by_cases e : j = H.length
    · subst e
      rw [hat] at hj; cases hj
      intro e2
      obtain ⟨C, e3, fr, h3, _⟩ := f1
      rw [← e2, ho] at h3
      cases h3; cases hoc
    · rw [hoth j e] at hj
      exact f2 j M hj ((hliv j e).1 lj)
  · have hi : g.mp i = some X := by
      have : (upd g H.length L).mp = g.mp := rfl
      rw [this] at hi; exact hi
    rw [hmp] at hi; cases hi
theorem cells_of_live {g : Inj} {H : List Blk} {w : World} {ng : Cx} (h : HRel ng g H w) (hc : cellsBs H = true) (hne : ∀ (i : Nat) (s n : AVal) (cl : List (Option IntKind)) (e : TypeId), H[i]? = some (.lst s n cl e) → den g.sig n ≠ .int .i64 0) {j : Nat} {M : Loc} (hj : g j = some M) (lj : Live H j) :
    ∃ o, w.heap[M.blk]? = some o ∧ o.isCells = true := by
  obtain ⟨k, hk, hkg⟩ := lj
  rcases h.blk0 j k hk hkg with ⟨s, n, cl, e, rfl, _, d2⟩ | ⟨L, hL, hB⟩
  · exact absurd d2 (hne j s n cl e hk)
  · rw [hj] at hL; cases hL
    rcases cellsBs_get hc j k hk with ⟨c, e, rfl⟩ | ⟨s, n, cl, e, rfl⟩
    · obtain ⟨C, fr, h1, _⟩ := hB; exact ⟨_, h1, rfl⟩
    · obtain ⟨S, N, C, fr, _, _, _, h1, _⟩ := hB; exact ⟨_, h1, rfl⟩
theorem cellsBs_Gs : ∀ {l : List Blk}, cellsBs l = true → cellsGs l = true
  | [], _ => rfl
  | b :: l, h => by cases b <;> simp [cellsBs] at h <;> simp [cellsGs, cellsBs_Gs h]
def ext3 (σ : Sig) (q : Nat) (x : E3) : Sig := { σ with ival := fun i => if i = q then x.t else if i = q + 1 then x.k else if i = q + 2 then x.v else σ.ival i }
theorem ext3_agree (σ : Sig) (q : Nat) (x : E3) : Agree q σ (ext3 σ q x) := by
  refine ⟨fun i hi => ⟨?_, rfl, rfl⟩, rfl, rfl⟩
  simp only [ext3]
  rw [if_neg (by omega), if_neg (by omega), if_neg (by omega)]
theorem BelowF.grown {f : Fra} {w w' : World} {row : Option Nat} (h : BelowF f w) (hg : w.grownBy w' row) (hr : ∀ r, row = some r → f.w.heap.size ≤ r) : BelowF f w' :=
  ⟨hg.os.trans h.os, hg.tape.trans h.tape, hg.output.trans h.output, Nat.le_trans h.size hg.size, fun b hb ho => by
    rw [hg.block b (by have := h.size; omega) (fun e => by have := hr b e.symm; omega)]; exact h.frame b hb ho⟩
structure RdJ (tab : TabF) (n : Nat) (W0 : Fra) (a : Act) (tt : List (Nat × AVal)) (tm : Tm) (ps : Array Tmp) (asg body : Code) (D l : Nat) (pn : Nat → Option (Option Loc)) (H : List Blk) (J : Sig → Prop) (W : World) (g : Inj) : Prop where
  rel : HRel (cx0 tab) g H W
  mp : ∀ i, g.mp i = none
  tmp : ∀ p, p ∈ tt → ∃ u, a.tmps[p.1]? = some u ∧ VRel g p.2 u
  own : ∀ i L, g i = some L → W0.own L.blk
  pin : ∀ i x, pn i = some x → i < H.length ∧ g i = x
  below : BelowF W0 W
  dfr : W.heap[D]? = some (.deferred (some []))
  loop : ∃ r : Loop, W.heap[l]? = some (.loop r) ∧ r.state = .ready ∧ r.pending = none ∧ TmRel g tm r.tmps ∧ r.params = ps ∧ r.assign = asg ∧ r.body = body ∧ r.defers = D
  holds : J g.sig
theorem RdJ.grown {tab : TabF} {n : Nat} {W0 : Fra} {a : Act} {tt : List (Nat × AVal)} {tm : Tm} {ps : Array Tmp} {asg body : Code} {D l : Nat} {pn : Nat → Option (Option Loc)} {H : List Blk} {J : Sig → Prop} {W W' : World} {g : Inj} {row : Option Nat}
    (h : RdJ tab n W0 a tt tm ps asg body D l pn H J W g) (hc : cellsBs H = true) (hg : W.grownBy W' row) (hr : ∀ r, row = some r → W0.w.heap.size ≤ r ∧ r ≠ D ∧ r ≠ l ∧ ∃ o : Obj, W.heap[r]? = some o ∧ o.isCells = false) : RdJ tab n W0 a tt tm ps asg body D l pn H J W' g := by
  have same : ∀ b o, W.heap[b]? = some o → (∀ r, row = some r → r ≠ b) → W'.heap[b]? = some o := fun b o h1 h2 => by
    rw [hg.block b (Array.getElem?_eq_some_iff.1 h1).1 (fun e => h2 b e.symm rfl)]; exact h1
  refine ⟨h.rel.grown rfl h.mp (cellsBs_Gs hc) hg (fun r e => (hr r e).2.2.2), h.mp, h.tmp, h.own, h.pin, h.below.grown hg (fun r e => (hr r e).1), same _ _ h.dfr (fun r e => (hr r e).2.1), ?_, h.holds⟩
  obtain ⟨r, h1, h2⟩ := h.loop
  exact ⟨r, same _ _ h1 (fun r e => (hr r e).2.2.1), h2⟩
end Go.Ev
namespace Go.Ev
open Go.RowKit
set_option linter.unusedVariables false
set_option linter.unusedSimpArgs false
theorem rowE_cell {C : ByteArray} {j : Nat} {g : Inj} {v : Value} : (VRel g (rowAtD cl3 C j 0) v → v = .int .i64 (rowE C j).t) ∧ (VRel g (rowAtD cl3 C j 1) v → v = .int .i64 (rowE C j).k) ∧ (VRel g (rowAtD cl3 C j 2) v → v = .int .u8 (rowE C j).v) := by
  have key : ∀ (i : Nat) (k : IntKind), cl3[i]? = some (some k) → ∃ n, rowAtD cl3 C j i = .int k n := by
    intro i k hk
    rcases cellD_like cl3 i (C.data.toList.drop (j * rsz cl3)) with ⟨k', n, h1, h2⟩ | ⟨h1, _⟩
    · rw [hk] at h1; cases h1; exact ⟨n, h2⟩
    · exact absurd hk (h1 k)
  refine ⟨fun h => ?_, fun h => ?_, fun h => ?_⟩
  · obtain ⟨n, e⟩ := key 0 .i64 rfl
    simp only [rowE, e, iOf] at h ⊢; cases h; rfl
  · obtain ⟨n, e⟩ := key 1 .i64 rfl
    simp only [rowE, e, iOf] at h ⊢; cases h; rfl
  · obtain ⟨n, e⟩ := key 2 .u8 rfl
    simp only [rowE, e, iOf] at h ⊢; cases h; rfl
theorem rowE_wrap (C : ByteArray) (j : Nat) : IntKind.i64.wrap (rowE C j).t = (rowE C j).t ∧ IntKind.i64.wrap (rowE C j).k = (rowE C j).k ∧ IntKind.u8.wrap (rowE C j).v = (rowE C j).v := by
  have key : ∀ (i : Nat) (k : IntKind), cl3[i]? = some (some k) → k.wrap (iOf (rowAtD cl3 C j i)) = iOf (rowAtD cl3 C j i) := by
    intro i k hk
    rcases cellD_like cl3 i (C.data.toList.drop (j * rsz cl3)) with ⟨k', n, h1, h2⟩ | ⟨h1, _⟩
    · rw [hk] at h1; cases h1
      have h3 := cellD_wrap _ _ _ h2
      have : rowAtD cl3 C j i = .int k n := h2
      rw [this]; exact h3
    · exact absurd hk (h1 k)
  exact ⟨key 0 .i64 rfl, key 1 .i64 rfl, key 2 .u8 rfl⟩
theorem RdJ.cells {tab : TabF} {n : Nat} {W0 : Fra} {a : Act} {tt : List (Nat × AVal)} {tm : Tm} {ps : Array Tmp} {asg body : Code} {D l : Nat} {pn : Nat → Option (Option Loc)} {H : List Blk} {J : Sig → Prop} {W : World} {g : Inj}
    (h : RdJ tab n W0 a tt tm ps asg body D l pn H J W g) {i2 : Nat} {cA : AVal} {T2 : TypeId} {c : Int} {L2 : Loc} (hb2 : H[i2]? = some (.cells [cA] T2)) (hc : den g.sig cA = .int .i64 c) (hp2 : pn i2 = some (some L2)) : W.cell? ⟨L2.blk, L2.dl + 0, none⟩ = some (.int .i64 c) := by
  have hL := (h.pin i2 _ hp2).2
  rcases h.rel.blk0 i2 _ hb2 (by simp) with hz | ⟨L, hL', C, fr, h1, h2, h3, h4, h5⟩
  · obtain ⟨s, n, cl, e, hh, _⟩ := hz; cases hh
  · rw [hL] at hL'; cases hL'
    obtain ⟨v, v1, v2, v3⟩ := h5 0 cA rfl
    rw [cell_of h1, v1]
    have := den_rel.2 v2
    rw [hc] at this
    cases this; rfl
theorem RdJ.lst {tab : TabF} {n : Nat} {W0 : Fra} {a : Act} {tt : List (Nat × AVal)} {tm : Tm} {ps : Array Tmp} {asg body : Code} {D l : Nat} {pn : Nat → Option (Option Loc)} {H : List Blk} {J : Sig → Prop} {W : World} {g : Inj}
    (h : RdJ tab n W0 a tt tm ps asg body D l pn H J W g) {il : Nat} {sA NA : AVal} {e : TypeId} {C : ByteArray} {N o len : Nat} {L : Loc} (hb : H[il]? = some (.lst sA NA cl3 e)) (hs : den g.sig sA = .str C) (hN : den g.sig NA = .int .i64 (N : Int)) (hp : pn il = some (some L)) (hoN : o + len ≤ N) (hN0 : 0 < len) :
    ∀ j, j < len → W.cell? ⟨L.blk, L.dl + o * 3 + j * 3, none⟩ = some (.int .i64 (rowE C (o + j)).t) ∧ W.cell? ⟨L.blk, L.dl + o * 3 + j * 3 + 1, none⟩ = some (.int .i64 (rowE C (o + j)).k) ∧ W.cell? ⟨L.blk, L.dl + o * 3 + j * 3 + 2, none⟩ = some (.int .u8 (rowE C (o + j)).v) := by
  intro j hj
  have hL := (h.pin il _ hp).2
  rcases h.rel.blk0 il _ hb (by simp) with hz | ⟨L', hL', S, N', A, fr, h1, h2, h3, h4, h5, h6, h7, h8⟩
  · obtain ⟨s, n, cl, e, hh, _, d2⟩ := hz
    cases hh
    rw [hN] at d2
    simp only [AVal.int.injEq, true_and] at d2
    omega
  · rw [hL] at hL'; cases hL'
    rw [hs] at h1; cases h1
    rw [hN] at h2
    simp only [AVal.int.injEq, true_and] at h2
    have h2 : N = N' := by omega
    subst h2
    have at_ : ∀ i, i < 3 → ∃ v, W.cell? ⟨L.blk, L.dl + o * 3 + j * 3 + i, none⟩ = some v ∧ VRel g (rowAtD cl3 C (o + j) i) v := by
      intro i hi
      obtain ⟨v, v1, v2, v3⟩ := h8 (o + j) i (by omega) hi
      refine ⟨v, ?_, v2⟩
      rw [cell_of h4]
      have e1 : L.dl + o * 3 + j * 3 + i = L.dl + (o + j) * cl3.length + i := by simp [cl3]; omega
      rw [e1]; exact v1
    obtain ⟨v0, a0, b0⟩ := at_ 0 (by omega)
    obtain ⟨v1, a1, b1⟩ := at_ 1 (by omega)
    obtain ⟨v2, a2, b2⟩ := at_ 2 (by omega)
    rw [rowE_cell.1 b0] at a0
    rw [rowE_cell.2.1 b1] at a1
    rw [rowE_cell.2.2 b2] at a2
    exact ⟨a0, a1, a2⟩
structure RdOk (P : Program) (tab : TabF) (X : Ing) (q : Nat) (kds : List (Option IntKind)) (mb : Bool) (fuel d : Nat) (nb : Nat) (tm : Tm) (ps : Array Tmp) (asg body : Code) (tt : List (Nat × AVal)) (S : Shape) (Wt : Sw) : Prop where
  mixed : P.follows .mixedOrders = true
  lt : okLT X.m X.G X.T = true
  ok : okG X.G X.m = true
  hook : ∀ F, Hooks P (cxOf X F)
  n0 : X.n = 0
  tab : X.tab = tab
  m : X.m = q + 3
  ins : X.ins = kds ++ [some .i64, some .i64, some .u8]
  inl : List.length (α := Option IntKind) kds = q
  rows : X.rows = []
  cuts : X.cuts = []
  inv : ∀ σ, X.inv σ
  kt : okKt X = true
  t : S.t = tt
  cells : cellsBs S.heap = true
  id : idOk S q = true
  tf : ∀ i v, tm.get i = some v → (i, v) ∈ tt
  df : tm.df = []
  uniq : ∀ i u v, (i, u) ∈ tt → (i, v) ∈ tt → u = v
  reck : okSw (fun F => roundTree tm S.heap.length ((evD P (cxOf X) mb fuel d).2 F (S.heap.length + 1) [.agg [.symi .i64 q, .symi .i64 (q + 1), .symi .u8 (q + 2)]] ⟨S.heap ++ [.dfr, .loop ⟨.ready, none, tm, ps, asg, body, S.heap.length⟩], []⟩)) Wt [] = true
  pins : ∀ i, i < nb → pinW i Wt = true
theorem ins3 {ins : List (Option IntKind)} {q : Nat} (hl : ins.length = q) {σ : Sig} (hi : InsOk σ q ins) {C : ByteArray} {j : Nat} : InsOk (ext3 σ q (rowE C j)) (q + 3) (ins ++ [some .i64, some .i64, some .u8]) := by
  obtain ⟨w1, w2, w3⟩ := rowE_wrap C j
  intro i k hlt hk
  by_cases h0 : i < q
  · have : ((ins ++ [some .i64, some .i64, some .u8])[i]?).getD none = (ins[i]?).getD none := by rw [List.getElem?_append_left (by omega)]
    rw [this] at hk
    have := hi i k h0 hk
    simp only [ext3]
    rw [if_neg (by omega), if_neg (by omega), if_neg (by omega)]; exact this
  · have h3 : i = q ∨ i = q + 1 ∨ i = q + 2 := by omega
    rw [List.getElem?_append_right (by omega), hl] at hk
    rcases h3 with rfl | rfl | rfl
    · simp at hk; subst hk; simp [ext3, w1]
    · simp at hk; subst hk; simp [ext3, w2]
    · simp at hk; subst hk; simp [ext3, w3]
theorem RdJ.round {P : Program} {tab : TabF} {X : Ing} {q : Nat} {ins : List (Option IntKind)} {mb : Bool} {fuel d nb n : Nat} {W0 : Fra} {a : Act} {tt : List (Nat × AVal)} {tm : Tm} {ps : Array Tmp} {asg body : Code} {D l : Nat} {pn : Nat → Option (Option Loc)} {S : Shape} {Wt : Sw} {J : Sig → Prop} {W : World} {g : Inj}
    (h : RdJ tab n W0 a tt tm ps asg body D l pn S.heap J W g) (s : RdOk P tab X q ins mb fuel d nb tm ps asg body tt S Wt) (hDl : D ≠ l) (hpn : ∀ i x, pn i = some x → i < nb)
    (hne : ∀ τ, Agree q g.sig τ → ∀ (i : Nat) (s n : AVal) (cl : List (Option IntKind)) (e : TypeId), S.heap[i]? = some (.lst s n cl e) → den τ n ≠ .int .i64 0) (hi : InsOk g.sig q ins) (ht : g.sig.tab = tab) {C : ByteArray} {j : Nat}
    {ι : Type} {Sh : ι → Shape} {J2 : ι → Sig → Prop}
    (ob : segsW (solve X.G X.m (ext3 g.sig q (rowE C j))) (fun x s2 σ2 => x = .normal ∧ ∃ k, s2 = Sh k ∧ InsOk σ2 q ins ∧ J2 k σ2 ∧ σ2.tab = tab) Wt [])
    (hSt : ∀ k, (Sh k).t = tt) (hD0 : W0.w.heap.size ≤ D) (hl0 : W0.w.heap.size ≤ l) :
    YieldAt (FR none) 0 P l #[(rowE C j).enc] W fun e W' => e = .returned (.bool true) ∧ W.heap.size ≤ W'.heap.size ∧ ∃ k g', RdJ tab n W0 a tt tm ps asg body D l pn (Sh k).heap (J2 k) W' g' ∧ InsOk g'.sig q ins ∧ g'.sig.tab = tab := by
  have hXt : X.tab = tab := s.tab
  have hXm : X.m = q + 3 := s.m
  let σ0 := ext3 g.sig q (rowE C j)
  have ag0 : Agree q g.sig σ0 := ext3_agree _ _ _
  have ag1 := agree_solve X.G X.m σ0
  have ag : Agree q g.sig (solve X.G X.m σ0) := ⟨fun i hi => by
      obtain ⟨a1, a2, a3⟩ := ag0.val i hi
      obtain ⟨b1, b2, b3⟩ := ag1.val i (by omega)
      exact ⟨a1.trans b1, a2.trans b2, a3.trans b3⟩, ag0.tab.trans ag1.tab, ag0.ext.trans ag1.ext⟩
  have htab : (solve X.G X.m σ0).tab = X.tab := by rw [← ag.tab, hXt]; exact ht
  have hins : InsOk (solve X.G X.m σ0) X.m X.ins := by
    intro i k hlt hik
    rw [← (ag1.val i hlt).1]
    rw [s.ins] at hik; rw [hXm] at hlt
    exact ins3 s.inl hi i k hlt hik
  have hb : BaseOk X (solve X.G X.m σ0) := ⟨eqs_solve s.ok, htab, hins, by rw [s.rows]; exact rows_nil, by rw [s.cuts]; exact cuts_nil, s.inv _, s.kt⟩
  obtain ⟨F, hF, hsat⟩ := okSw_sat s.reck ⟨leavesW_pin (pin := fun i => i < nb) s.pins, ob⟩ trivial
  have hgood : (cxOf X F).Good (solve X.G X.m σ0) := cx_good s.lt hb hF
  have hid' := s.id
  unfold idOk at hid'
  split at hid'
  · rename_i lx ly hlx hly
    simp only [Bool.and_eq_true] at hid'
    obtain ⟨⟨i1, i2⟩, i3⟩ := hid'
    have hn0 : (cxOf X F).n = 0 := s.n0
    have hH1 : HRel (cxOf X F) (moved (idF S.heap.length 0) g (solve X.G X.m σ0)) S.heap W := rematch h.rel s.n0 hgood (idF_length _ _) i3 hly (idAsg_fits ag i2) ag.ext.symm
    generalize hg1 : moved (idF S.heap.length 0) g (solve X.G X.m σ0) = g1 at hH1
    have g1sig : g1.sig = solve X.G X.m σ0 := by rw [← hg1]; rfl
    have g1mp : ∀ i, g1.mp i = none := by intro i; rw [← hg1]; rfl
    have g1loc : ∀ i, i < S.heap.length → g1 i = g i := by
      intro i hi
      have h0 : (idF S.heap.length 0)[i]? = some (i, 0) := by simpa using idF_at (i := 0) hi
      rw [← hg1]
      cases hgi : g i with
      | none => simp only [moved, h0, hgi, Option.map_none]
      | some L => simp only [moved, h0, hgi, Option.map_some, shift, Nat.add_zero, Nat.sub_zero]
    have g1from : ∀ i L, g1 i = some L → g i = some L := by
      intro i L hi
      have := (hH1.dom i L hi).1
      rw [g1loc i this] at hi; exact hi
    have hv1 : ∀ p, p ∈ tt → ∀ u, VRel g p.2 u → VRel g1 p.2 u := by
      intro p hp u hu
      rw [← s.t] at hp
      obtain ⟨mm, q1, q2⟩ := matchL_mem _ _ lx hlx rfl p.2 (List.mem_map.2 ⟨_, hp, rfl⟩)
      rw [← hg1]
      exact matchV_sound (moved_moves _ g _ ag.ext.symm) p.2 p.2 mm u q1 (fun p hp => idAsg_fits ag i1 p (q2 p hp)) hu
    have hne1 : ∀ (i : Nat) (s' n' : AVal) (cl : List (Option IntKind)) (e : TypeId), S.heap[i]? = some (.lst s' n' cl e) → den g1.sig n' ≠ .int .i64 0 := by
      rw [g1sig]; exact hne _ ag
    have hcl : ∀ j M, g1 j = some M → Live S.heap j → ∃ o, W.heap[M.blk]? = some o ∧ o.isCells = true := fun j M hj lj => cells_of_live hH1 s.cells hne1 hj lj
    obtain ⟨r, r1, r2, r3, r4, r5, r6, r7, r8⟩ := h.loop
    obtain ⟨hH2, sub2⟩ := hH1.add hn0 g1mp (k := .dfr) (L := ⟨D, 0, 0⟩) h.dfr rfl (fun j M hj lj he => by
      obtain ⟨o, h1, h2⟩ := hcl j M hj lj
      have he : M.blk = D := he
      rw [he, h.dfr] at h1; cases h1; cases h2) h.dfr
    generalize hg2 : upd g1 S.heap.length ⟨D, 0, 0⟩ = g2 at hH2 sub2
    have g2D : g2 S.heap.length = some ⟨D, 0, 0⟩ := by rw [← hg2]; exact upd_same _ _ _
    have hlen2 : (S.heap ++ [Blk.dfr]).length = S.heap.length + 1 := by simp
    obtain ⟨hH3, sub3⟩ := hH2.add hn0 (fun i => by rw [← hg2]; exact g1mp i) (k := .loop ⟨.ready, none, tm, ps, asg, body, S.heap.length⟩) (L := ⟨l, 0, 0⟩) r1 rfl (fun j M hj lj he => by
      have he : M.blk = l := he
      by_cases e : j = S.heap.length
      · subst e
        rw [g2D] at hj; cases hj
        exact hDl he
      · have hj1 : g1 j = some M := by rw [← hg2] at hj; rwa [show (upd g1 S.heap.length ⟨D, 0, 0⟩) j = g1 j from upd_other _ _ e] at hj
        have lj1 : Live S.heap j := by
          obtain ⟨k, hk, hkg⟩ := lj
          exact ⟨k, by rw [← app_other (k := .dfr) j e]; exact hk, hkg⟩
        obtain ⟨o, h1, h2⟩ := hcl j M hj1 lj1
        rw [he, r1] at h1; cases h1; cases h2) (by
      have hs3 : Sub g2 (upd g2 (S.heap ++ [Blk.dfr]).length ⟨l, 0, 0⟩) := upd_sub _ (new_none hH2).1
      refine ⟨r, r1, r2, r3, ?_, r5, r6, r7, ⟨D, 0, 0⟩, hs3 _ _ g2D, r8⟩
      refine TmRel.mono hs3 (TmRel.mono sub2 ⟨r4.1, fun i v hv => ?_⟩)
      obtain ⟨u, u1, u2⟩ := r4.2 i v hv
      exact ⟨u, u1, hv1 (i, v) (s.tf i v hv) u u2⟩)
    rw [hlen2] at hH3 sub3
    generalize hg3 : upd g2 (S.heap.length + 1) ⟨l, 0, 0⟩ = g3 at hH3 sub3
    have g3L : g3 (S.heap.length + 1) = some ⟨l, 0, 0⟩ := by rw [← hg3]; exact upd_same _ _ _
    have g3D : g3 S.heap.length = some ⟨D, 0, 0⟩ := sub3 _ _ g2D
    have g3sig : g3.sig = solve X.G X.m σ0 := by rw [sub3.sig, sub2.sig, g1sig]
    have happ : S.heap ++ [Blk.dfr] ++ [Blk.loop ⟨.ready, none, tm, ps, asg, body, S.heap.length⟩] = S.heap ++ [.dfr, .loop ⟨.ready, none, tm, ps, asg, body, S.heap.length⟩] := by simp
    rw [happ] at hH3
    have g3from : ∀ i L, g3 i = some L → g i = some L ∨ L = ⟨D, 0, 0⟩ ∨ L = ⟨l, 0, 0⟩ := by
      intro i L hi
      by_cases e1 : i = S.heap.length + 1
      · subst e1; rw [g3L] at hi; cases hi; exact .inr (.inr rfl)
      · have hi2 : g2 i = some L := by rw [← hg3] at hi; rwa [show (upd g2 (S.heap.length + 1) ⟨l, 0, 0⟩) i = g2 i from upd_other _ _ e1] at hi
        by_cases e2 : i = S.heap.length
        · subst e2; rw [g2D] at hi2; cases hi2; exact .inr (.inl rfl)
        · have hi1 : g1 i = some L := by rw [← hg2] at hi2; rwa [show (upd g1 S.heap.length ⟨D, 0, 0⟩) i = g1 i from upd_other _ _ e2] at hi2
          exact .inl (g1from i L hi1)
    have hsat2 := roundTree_sat hsat
    have vq : ∀ i, i < q + 3 → (solve X.G X.m σ0).ival i = σ0.ival i := fun i hi => ((ag1.val i (by omega)).1).symm
    have harg : LRel g3 [.agg [.symi .i64 q, .symi .i64 (q + 1), .symi .u8 (q + 2)]] #[(rowE C j).enc].toList := by
      refine .cons _ _ _ _ (.agg _ _ (.cons _ _ _ _ (rel_symi ?_) (.cons _ _ _ _ (rel_symi ?_) (.cons _ _ _ _ (rel_symi ?_) .nil)))) .nil
      · rw [g3sig, vq q (by omega)]; simp [σ0, ext3]
      · rw [g3sig, vq (q + 1) (by omega)]; simp [σ0, ext3]
      · rw [g3sig, vq (q + 2) (by omega)]; simp [σ0, ext3]
    have E := evD_env (mb := mb) (fuel := fuel) s.mixed (cx_ok s.lt) s.hook d
    obtain ⟨fn, tmps, asg', body', hy, hR⟩ := E.round F (S.heap.length + 1) [.agg [.symi .i64 q, .symi .i64 (q + 1), .symi .u8 (q + 2)]] ⟨S.heap ++ [.dfr, .loop ⟨.ready, none, tm, ps, asg, body, S.heap.length⟩], []⟩ _ g3 W #[(rowE C j).enc] ⟨l, 0, 0⟩ none hH3 g3L harg (by rw [g3sig]; exact hsat2)
    refine ⟨fn, tmps, asg', body', hy, hR.mono ?_⟩
    rintro e W' ⟨⟨o, hp'⟩, ⟨he1, he2, ⟨l2, he3, he4, he5⟩, he6⟩, hT, g', ho, hH', hE⟩
    simp only at he1 he2 he3 he6 ho hH' hE
    subst he1
    obtain ⟨u, rfl, hu⟩ := ho
    cases hu
    refine ⟨rfl, hE.size, ?_⟩
    obtain ⟨x, s2, f, lf, ex, hx, hdf, hmt, hft, ⟨rfl, k, rfl, gi, gj, gt⟩, hRp⟩ := he6
    obtain ⟨y1, y2, m1, m2, rfl, m4, m5⟩ := matchS_spec hmt
    have hsig : g'.sig = solve X.G X.m σ0 := hE.sub.sig.trans g3sig
    have hfit : Fits g'.sig (asgS (solve X.G X.m σ0) (y1 ++ y2 ++ ex)) (y1 ++ y2) := by rw [hsig]; exact hft
    have hl2 : l2 = ⟨.ready, none, tm, ps, asg, body, S.heap.length⟩ := by
      obtain ⟨l0, hl0, t1, t2, t3, t4, t5⟩ := hT.loops (S.heap.length + 1) l2 (by simp) he3
      have : (S.heap ++ [Blk.dfr, .loop ⟨.ready, none, tm, ps, asg, body, S.heap.length⟩])[S.heap.length + 1]? = some (.loop ⟨.ready, none, tm, ps, asg, body, S.heap.length⟩) := by
        rw [List.getElem?_append_right (by omega)]; simp
      rw [this] at hl0
      cases hl0
      obtain ⟨z1, z2, z3, z4, z5, z6, z7⟩ := l2
      simp only at he4 he5 t1 t2 t3 t4 t5
      subst he4; subst he5; subst t1; subst t2; subst t3; subst t4; subst t5
      rfl
    subst hl2
    have g'L : g' (S.heap.length + 1) = some ⟨l, 0, 0⟩ := hE.sub _ _ g3L
    have g'D : g' S.heap.length = some ⟨D, 0, 0⟩ := hE.sub _ _ g3D
    obtain ⟨rr, q1, q2, q3, q4, q5, q6, q7, D', q8, q9⟩ := loop_at_block hH' he3 g'L
    have hD' : W'.heap[D]? = some (.deferred (some [])) := by
      obtain ⟨L, hL, hB⟩ := hH'.blk _ _ he2 (by simp)
      rw [g'D] at hL; cases hL
      exact hB
    have hB' : ∀ i L, g' i = some L → W0.own L.blk := by
      intro i L hi
      have hsz : W0.w.heap.size ≤ W.heap.size := h.below.size
      have old : ∀ i L, g3 i = some L → W0.own L.blk := by
        intro i L hi
        rcases g3from i L hi with h1 | rfl | rfl
        · exact h.own i L h1
        · exact W0.new _ hD0
        · exact W0.new _ hl0
      cases hg : g3 i with
      | some M =>
        have := hE.sub i M hg
        rw [this] at hi; cases hi
        exact old i _ hg
      | none =>
        obtain ⟨_, hb⟩ := hE.new i L hi hg
        rcases hb with hb | ⟨j', M, hj, hM, _⟩
        · exact W0.new _ (by omega)
        · rw [← hM]; exact old j' M hj
    have hmv := moved_moves f g' (asgS (solve X.G X.m σ0) (y1 ++ y2 ++ ex)) (by rw [hsig]; rfl)
    have hvt : ∀ p, p ∈ tt → ∀ u, VRel g p.2 u → VRel (moved f g' (asgS (solve X.G X.m σ0) (y1 ++ y2 ++ ex))) p.2 u := by
      intro p hp u hu
      have hp' := hp
      rw [← hSt k] at hp'
      obtain ⟨b, mm, w1, w2, w3⟩ := matchT_get _ _ m1 p hp'
      have hbp : b = p.2 := by
        have := s.tf p.1 b w1
        exact s.uniq p.1 b p.2 this hp
      subst hbp
      exact matchV_sound hmv p.2 p.2 mm u w2 (fun z hz => hfit z (by simp [w3 z hz])) (((hv1 p hp u hu).mono sub2).mono sub3 |>.mono hE.sub)
    refine ⟨k, moved f g' (asgS (solve X.G X.m σ0) (y1 ++ y2 ++ ex)), ⟨?_, fun _ => rfl, ?_, ?_, ?_, ?_, hD', ?_, gj⟩, gi, gt⟩
    · exact rematch hH' rfl (cx0_good gt) m4 m5 m2 hfit.right (by rw [hsig]; rfl)
    · intro p hp
      obtain ⟨u, u1, u2⟩ := h.tmp p hp
      exact ⟨u, u1, hvt p hp u u2⟩
    · intro i L hi
      obtain ⟨y, sh, L', _, h2, rfl⟩ := moved_from hi
      exact hB' y L' h2
    · intro i x hi
      have hf := hRp i (hpn i x hi)
      obtain ⟨hlt, h0⟩ := h.pin i x hi
      refine ⟨by rw [← m4]; exact (List.getElem?_eq_some_iff.1 hf).1, ?_⟩
      have e1 : g3 i = x := by
        have ei : i ≠ S.heap.length := by omega
        have ei' : i ≠ S.heap.length + 1 := by omega
        rw [← hg3, show (upd g2 (S.heap.length + 1) ⟨l, 0, 0⟩) i = g2 i from upd_other _ _ ei', ← hg2, show (upd g1 S.heap.length ⟨D, 0, 0⟩) i = g1 i from upd_other _ _ ei, g1loc i hlt, h0]
      have e2 : g' i = x := by
        cases hx : g' i with
        | some L =>
          cases hg : g3 i with
          | some M => rw [hE.sub i M hg] at hx; rw [← e1, hg, hx]
          | none => exact absurd (hE.new i L hx hg).1 (by simp only [List.length_append, List.length_cons, List.length_nil]; omega)
        | none =>
          cases x with
          | none => rfl
          | some L => rw [hE.sub i L e1] at hx; cases hx
      simp only [moved, hf, e2]
      cases x <;> simp [shift]
    · have hb := h.below
      refine ⟨hE.os.trans hb.os, hE.tape.trans hb.tape, hE.output.trans hb.output, Nat.le_trans hb.size hE.size, fun k hk hno => (hE.frame k (by have := hb.size; omega) ?_).trans (hb.frame k hk hno)⟩
      intro i L hi _ he
      rcases g3from i L hi with h1 | rfl | rfl
      · exact hno (he ▸ h.own i L h1)
      · have he : D = k := he
        omega
      · have he : l = k := he
        omega
    · refine ⟨rr, q1, q2, q3, ⟨q4.1, fun i v hv => ?_⟩, q5, q6, q7, ?_⟩
      · obtain ⟨u, u1, u2⟩ := q4.2 i v hv
        have hmem := s.tf i v hv
        have hp' := hmem
        rw [← hSt k] at hp'
        obtain ⟨b, mm, w1, w2, w3⟩ := matchT_get _ _ m1 (i, v) hp'
        have hbp : b = v := s.uniq i b v (s.tf i b w1) hmem
        subst hbp
        exact ⟨u, u1, matchV_sound hmv b b mm u w2 (fun z hz => hfit z (by simp [w3 z hz])) u2⟩
      · rw [g'D] at q8; cases q8; exact q9
  · cases hid'
end Go.Ev
namespace Go.Ev
open Go.RowKit
set_option linter.unusedVariables false
set_option linter.unusedSimpArgs false
theorem Stage.rangeUp {P : Program} {tab : TabF} {n : Nat} {W0 : Fra} {Z : Exit → Act → World → Prop} {f : Operand} {ps : Array Tmp} {asg body : Code} {c2 : List Code} {q : Nat} {ins : List (Option IntKind)} {J : Sig → Prop} {gf : FuncId}
    {ι : Type} {Sh : ι → Shape} {X : Ing} {mb : Bool} {fuel d : Nat} {Wt : ι → Sw} {Jr : ι → List E3 → Sig → Prop} {i1 i2 il : Nat} {T1 T2 e : TypeId} {ap : Bool} {offA nA cA sA NA : AVal} {tm : Tm} (k0 : ι) {c : Int} {C : ByteArray} {o len N : Nat}
    (hit : UpOk P gf) (hgf : ∀ args w, (callFunc gf args).run P w = .ok (.enter gf args) w)
    (htm : tm = tmOf (Sh k0) n) (hfv : ev (cx0 tab) tm f = some (.func (.func gf) [] [.ptr i1 0, .ptr i2 0]))
    (hb1 : (Sh k0).heap[i1]? = some (.cells [.lsl il 3 ap offA nA] T1)) (hb2 : ∀ k, (Sh k).heap[i2]? = some (.cells [cA] T2)) (hb3 : ∀ k, (Sh k).heap[il]? = some (.lst sA NA cl3 e))
    (s : ∀ k, RdOk P tab X q ins mb fuel d (Sh k0).heap.length tm ps asg body (Sh k0).t (Sh k) (Wt k)) (hoN : o + len ≤ N) (hlen : len ≤ 9223372036854775807)
    (hJ : ∀ σ, J σ → InsOk σ q ins → den σ offA = .int .i64 (o : Int) ∧ den σ nA = .int .i64 (len : Int) ∧ Jr k0 [] σ)
    (hJr : ∀ k pre σ, Jr k pre σ → den σ cA = .int .i64 c ∧ den σ sA = .str C ∧ den σ NA = .int .i64 (N : Int))
    (hne : ∀ k pre σ, Jr k pre σ → 0 < len → ∀ τ, Agree q σ τ → ∀ (i : Nat) (s n : AVal) (cl : List (Option IntKind)) (e : TypeId), (Sh k).heap[i]? = some (.lst s n cl e) → den τ n ≠ .int .i64 0)
    (hex : ∀ k pre σ, Jr k pre σ → ∀ (i : Nat) (s n : AVal) (cl : List (Option IntKind)) (e : TypeId), (Sh k0).heap.length ≤ i → (Sh k).heap[i]? = some (.lst s n cl e) → den σ n ≠ .int .i64 0) (hgo : ∀ k (i : Nat), (Sh k).heap[i]? ≠ some Blk.gone)
    (ob : ∀ k j σ, j < len → (rowE C (o + j)).t ≤ c → Jr k (uptoE (fun j => rowE C (o + j)) c j) σ → InsOk σ q ins → σ.tab = tab → segsW (solve X.G X.m (ext3 σ q (rowE C (o + j)))) (fun x s2 σ2 => x = .normal ∧ ∃ k', s2 = Sh k' ∧ InsOk σ2 q ins ∧ Jr k' (uptoE (fun j => rowE C (o + j)) c j ++ [rowE C (o + j)]) σ2 ∧ σ2.tab = tab) (Wt k) [])
    (next : ∀ k, StageM P tab n W0 Z c2 (Sh k) q ins (Jr k (uptoE (fun j => rowE C (o + j)) c len))) :
    Stage P tab n W0 Z (.rangeFunc f ps asg body :: c2) (Sh k0) q ins J := by
  intro a w σ hA hi hj ht
  obtain ⟨h1o, h1n, hjr0⟩ := hJ σ hj hi
  have hA := hA.agree (s k0).id (⟨fun _ _ => ⟨rfl, rfl, rfl⟩, rfl, rfl⟩ : Agree q σ σ)
  have hid := (s k0).id
  obtain ⟨⟨g0, rfl, hH0, hT0, hB0, hP0⟩, hbelow, hsize, hdef⟩ := hA
  have hX : ∃ g : Inj, g.sig = g0.sig ∧ HRel (cx0 tab) g (Sh k0).heap w ∧ (∀ i, g.mp i = none) ∧ (∀ p, p ∈ (Sh k0).t → ∃ u, a.tmps[p.1]? = some u ∧ VRel g p.2 u) ∧ (∀ i L, g i = some L → W0.own L.blk) ∧ ∀ i, i < (Sh k0).heap.length → g i = g0 i := by
    have hid' := hid
    unfold idOk at hid'
    split at hid'
    · rename_i lx ly hlx hly
      simp only [Bool.and_eq_true] at hid'
      obtain ⟨⟨i1, i2⟩, i3⟩ := hid'
      have ag : Agree q g0.sig g0.sig := ⟨fun _ _ => ⟨rfl, rfl, rfl⟩, rfl, rfl⟩
      refine ⟨moved (idF (Sh k0).heap.length 0) g0 g0.sig, rfl, rematch hH0 rfl (cx0_good ht) (idF_length _ _) i3 hly (idAsg_fits ag i2) rfl, fun _ => rfl, fun p hp => ?_, fun i L hi => ?_, fun i hi => ?_⟩
      · obtain ⟨u, h1, h2⟩ := hT0 p hp
        obtain ⟨mm, q1, q2⟩ := matchL_mem _ _ lx hlx rfl p.2 (List.mem_map.2 ⟨_, hp, rfl⟩)
        exact ⟨u, h1, matchV_sound (moved_moves _ g0 _ rfl) p.2 p.2 mm u q1 (fun z hz => idAsg_fits ag i1 z (q2 z hz)) h2⟩
      · obtain ⟨y, sh, L', _, h2, rfl⟩ := moved_from hi
        exact hB0 y L' h2
      · have h0 : (idF (Sh k0).heap.length 0)[i]? = some (i, 0) := by simpa using idF_at (i := 0) hi
        cases hgi : g0 i with
        | none => simp only [moved, h0, hgi, Option.map_none]
        | some L => simp only [moved, h0, hgi, Option.map_some, shift, Nat.add_zero, Nat.sub_zero]
    · cases hid'
  obtain ⟨g, hgs, hH, hmp, hT, hB, hgl⟩ := hX
  have hTR : TRel g tm a := by
    rw [htm]
    refine ⟨by simp only [tmOf]; exact Nat.le_of_eq hsize.symm, fun i v hv => hT _ (tmOf_get hv)⟩
  have hρ : VRel g (.func (.func gf) [] [.ptr i1 0, .ptr i2 0]) (a.eval f) := hTR.eval hH.sig hH.glob hfv
  obtain ⟨L1, L2, hL1, hL2, hfe⟩ : ∃ L1 L2 : Loc, g i1 = some L1 ∧ g i2 = some L2 ∧ a.eval f = .func (.func gf) #[] #[.pointer (some ⟨L1.blk, L1.dl + 0, none⟩), .pointer (some ⟨L2.blk, L2.dl + 0, none⟩)] := by
    generalize a.eval f = u at hρ
    cases hρ with
    | func _ _ _ fs cs k1 k2 =>
      obtain ⟨fs⟩ := fs
      obtain ⟨cs⟩ := cs
      cases k1
      cases k2 with
      | cons _ u1 _ m1 p1 p2 =>
        cases p2 with
        | cons _ u2 _ m2 p3 p4 =>
          cases p4
          cases p1 with
          | ptr _ _ L1 hL1 =>
            cases p3 with
            | ptr _ _ L2 hL2 => exact ⟨L1, L2, hL1, hL2, rfl⟩
  obtain ⟨ao, cap, hsl, hBs, hao⟩ : ∃ (ao : Option Addr) (cap : Nat), len ≤ cap ∧ w.cell? ⟨L1.blk, L1.dl + 0, none⟩ = some (.slice ao len cap) ∧ (0 < len → ∃ L, g il = some L ∧ ao = some ⟨L.blk, L.dl + o * 3, none⟩) := by
    rcases hH.blk0 i1 _ hb1 (by simp) with hz | ⟨L, hL, A, fr, k1, k2, k3, k4, k5⟩
    · obtain ⟨_, _, _, _, hh, _⟩ := hz; cases hh
    · rw [hL1] at hL; cases hL
      obtain ⟨v, v1, v2, v3⟩ := k5 0 _ rfl
      cases v2 with
      | lsl _ _ _ _ _ o' m' cap' ao' d1 d2 d3 d4 d5 =>
        rw [hgs, h1o] at d1
        rw [hgs, h1n] at d2
        simp only [AVal.int.injEq, true_and] at d1 d2
        have e1 : o' = o := by omega
        have e2 : m' = len := by omega
        subst e1; subst e2
        refine ⟨ao', cap', d3, by rw [cell_of k1, v1], fun h0 => ?_⟩
        obtain ⟨L, l1, l2, _⟩ := d5 h0
        exact ⟨L, l1, l2⟩
  refine wpIn_rangeFunc fun fn _ => ?_
  obtain ⟨w2, hw2⟩ : ∃ w2 : World, w2 = (w.alloc (.deferred (some []))).alloc (.loop { state := .ready, pending := none, fn := fn, tmps := a.tmps, params := ps, assign := asg, body := body, defers := w.heap.size }) := ⟨_, rfl⟩
  have henter : (Instr.enterLoop fn a.tmps ps asg body (FR none).round).run P w = .ok (w.heap.size + 1, [{ target := .collected w.heap.size, args := #[] }]) w2 := by
    rw [hw2]; exact run_enterLoop_outer _ _ _ _ _
  have hgrow : w.grownBy w2 none := by
    rw [hw2]
    exact ⟨rfl, rfl, rfl, by simp; omega, fun b hb _ => by
      rw [Below.heap_alloc _ _ b (by simp; omega), Below.heap_alloc w _ b hb]⟩
  have hd2 : w2.heap[w.heap.size]? = some (.deferred (some [])) := by
    rw [hw2, Below.heap_alloc _ _ _ (by simp)]; exact World.alloc_heap_new w _
  have r1 : w2.heap[w.heap.size + 1]? = some (.loop { state := .ready, pending := none, fn := fn, tmps := a.tmps, params := ps, assign := asg, body := body, defers := w.heap.size }) := by
    have := World.alloc_heap_new (w.alloc (.deferred (some []))) (.loop { state := .ready, pending := none, fn := fn, tmps := a.tmps, params := ps, assign := asg, body := body, defers := w.heap.size })
    rw [World.size_alloc] at this
    rw [hw2]; exact this
  clear hw2
  have hw2s : w.heap.size + 2 ≤ w2.heap.size := by
    have := (Array.getElem?_eq_some_iff.1 r1).1; omega
  obtain ⟨D, hDe⟩ : ∃ D, D = w.heap.size := ⟨_, rfl⟩
  obtain ⟨l, hle⟩ : ∃ l, l = w.heap.size + 1 := ⟨_, rfl⟩
  rw [← hDe] at hd2 henter r1
  rw [hDe, ← hle, ← hDe] at r1
  rw [show (D + 1 : Nat) = l by omega] at henter
  refine ⟨l, [{ target := .collected D, args := #[] }], w2, ⟨.fn (.func gf) #[.pointer (some ⟨L1.blk, L1.dl + 0, none⟩), .pointer (some ⟨L2.blk, L2.dl + 0, none⟩)], #[] ++ #[.func (.yield l) #[] #[]]⟩, w2, gf, #[.func (.yield l) #[] #[], .pointer (some ⟨L1.blk, L1.dl + 0, none⟩), .pointer (some ⟨L2.blk, L2.dl + 0, none⟩)], w2, henter, ?_, fun _ _ => trivial, ?_, fun h => (by cases h), ?_⟩
  · simp [resolve, hfe, Deferred.ofValue]; rfl
  · simp [invoke, go_sem, hgf]
  ·
    have hw0 : W0.w.heap.size ≤ w.heap.size := hbelow.size
    have hDl : D ≠ l := by omega
    let pn : Nat → Option (Option Loc) := fun i => if i < (Sh k0).heap.length then some (g.loc i) else none
    have hpn : ∀ i x, pn i = some x → i < (Sh k0).heap.length := by
      intro i x hx
      have hx : (if i < (Sh k0).heap.length then some (g.loc i) else none) = some x := hx
      split at hx
      · assumption
      · cases hx
    have hpin : ∀ i, i < (Sh k0).heap.length → pn i = some (g i) := by
      intro i hi
      show (if i < (Sh k0).heap.length then some (g.loc i) else none) = _
      rw [if_pos hi]
    have lt1 : i1 < (Sh k0).heap.length := (List.getElem?_eq_some_iff.1 hb1).1
    have lt2 : i2 < (Sh k0).heap.length := (List.getElem?_eq_some_iff.1 (hb2 k0)).1
    have ltl : il < (Sh k0).heap.length := (List.getElem?_eq_some_iff.1 (hb3 k0)).1
    let I : List E3 → World → Prop := fun pre W => ∃ k g', RdJ tab n W0 a (Sh k0).t tm ps asg body D l pn (Sh k).heap (Jr k pre) W g' ∧ InsOk g'.sig q ins ∧ g'.sig.tab = tab ∧ w2.heap.size ≤ W.heap.size
    have h0 : I [] w2 := by
      have hg2H : HRel (cx0 tab) g (Sh k0).heap w2 := hH.grown rfl hmp (cellsBs_Gs (s k0).cells) hgrow (fun r e => by cases e)
      refine ⟨k0, g, ⟨hg2H, hmp, hT, hB, fun i x hx => ⟨hpn i x hx, ?_⟩, hbelow.grown hgrow (fun r e => by cases e), hd2, ⟨_, r1, rfl, rfl, hTR, rfl, rfl, rfl, rfl⟩, by rw [hgs]; exact hjr0⟩, by rw [hgs]; exact hi, by rw [hgs]; exact ht, Nat.le_refl _⟩
      have := hpin i (hpn i x hx)
      rw [hx] at this; cases this; rfl
    have hcalls := hit l L1.blk (L1.dl + 0) L2.blk (L2.dl + 0) (match g il with | some L => L.blk | none => 0) (match g il with | some L => L.dl + o * 3 | none => 0) len cap ao c (fun j => rowE C (o + j)) I w2 hlen ?_ ?_ ?_ ?_ ?_ h0
    · refine callsIn_FR (Calls.mono hcalls ?_)
      rintro en W3 ⟨⟨v, rfl⟩, k, g', hR, hi', ht', hsz⟩
      obtain ⟨r', p1, p2, p3, p4, p5, p6, p7, p8⟩ := hR.loop
      refine ⟨none, setW W3 l (.loop { r' with state := .exhausted }), ?_, ?_⟩
      · have hg := run_getLoop (P := P) p1
        have hb' : (r'.state == LoopState.busy) = false := by rw [p2]; rfl
        have hs2 := run_setLoop (P := P) (.loop { r' with state := .exhausted }) p1
        rw [← p3]
        simp only [Instr.endLoop, Instr.getLoop, Sem.run_bind, hg, Result.andThen_ok, Sem.run_pure, hb']
        simp [hs2]
      · have hgr : W3.grownBy (setW W3 l (.loop { r' with state := .exhausted })) (some l) := ⟨rfl, rfl, rfl, by simp [setW], fun b hb hne' => by
          have := (setW_wr W3 l (.loop { r' with state := .exhausted })).other b (fun e => hne' (by rw [e]))
          exact this⟩
        have hrow : ∀ r0, some l = some r0 → ∃ o' : Obj, W3.heap[r0]? = some o' ∧ o'.isCells = false := fun r0 e => by cases e; exact ⟨_, p1, rfl⟩
        have hdD : (setW W3 l (.loop { r' with state := .exhausted })).heap[D]? = some (.deferred (some [])) := by
          rw [(setW_wr W3 l (.loop { r' with state := .exhausted })).other D hDl]; exact hR.dfr
        refine next k { a with defers := [{ target := .collected D, args := #[] }] ++ a.defers } (setW W3 l (.loop { r' with state := .exhausted })) g' D ⟨hR.rel.grown rfl hR.mp (cellsBs_Gs (s k).cells) hgr hrow, hR.mp, ?_, hR.own, fun i x hx => ?_, hR.below.grown hgr (fun r0 e => by cases e; omega), hsize⟩ (by rw [hdef]; rfl) (by omega) hdD ?_ hi' hR.holds ht'
        · intro p hp
          have hp : p ∈ (Sh k0).t := by rw [← (s k).t]; exact hp
          exact hR.tmp p hp
        · obtain ⟨z1, z2⟩ := hP0 i x hx
          have := hR.pin i (g i) (hpin i z1)
          exact ⟨this.1, by rw [this.2, hgl i z1]; exact z2⟩
        · intro i L hL
          by_cases hi : i < (Sh k0).heap.length
          · have := (hR.pin i (g i) (hpin i hi)).2
            rw [this] at hL
            have := (hH.dom i L hL).2
            omega
          · intro e
            have hlt := (hR.rel.dom i L hL).1
            have hkk : (Sh k).heap[i]? = some (Sh k).heap[i] := List.getElem?_eq_getElem hlt
            have hobj : ∃ o', W3.heap[L.blk]? = some o' ∧ o'.isCells = true := by
              rcases hR.rel.blk0 i _ hkk (fun hg => hgo k i (by rw [hkk, hg])) with ⟨s', n', cl, e', hk', _, d2⟩ | ⟨L', hL', hB'⟩
              · rw [hk'] at hkk
                exact absurd d2 (hex k _ _ hR.holds i s' n' cl e' (by omega) hkk)
              · rw [hL] at hL'; cases hL'
                rcases cellsBs_get (s k).cells i _ hkk with ⟨c', e', hk'⟩ | ⟨s', n', cl, e', hk'⟩
                · rw [hk'] at hB'
                  obtain ⟨A, fr, k1, _⟩ := hB'; exact ⟨_, k1, rfl⟩
                · rw [hk'] at hB'
                  obtain ⟨S', N', A, fr, _, _, _, k1, _⟩ := hB'; exact ⟨_, k1, rfl⟩
            obtain ⟨o', h1, h2⟩ := hobj
            rw [e, hR.dfr] at h1
            cases h1; cases h2
    · intro h9
      obtain ⟨L, l1, l2⟩ := hao h9
      rw [l1, l2]
    ·
      rintro pre A B row ⟨k, g', hR, hi', ht', hsz⟩ hg hr
      refine ⟨k, g', hR.grown (s k).cells hg (fun r0 e => ?_), hi', ht', Nat.le_trans hsz hg.size⟩
      obtain ⟨h1, o', h2, h3⟩ := hr r0 e
      exact ⟨by omega, by omega, by omega, o', h2, Obj.not_cells_of_walk h3⟩
    ·
      rintro pre W' ⟨k, g', hR, hi', ht', hsz⟩
      obtain ⟨j1, j2, j3⟩ := hJr k pre _ hR.holds
      refine ⟨hsz, hR.cells (hb2 k) j1 (by rw [hpin i2 lt2, hL2]), fun j hj => ?_⟩
      obtain ⟨L, l1, l2⟩ := hao (by omega)
      have := hR.lst (hb3 k) j2 j3 (by rw [hpin il ltl, l1]) hoN (by omega) j hj
      rw [l1]
      exact this
    · rintro j W1 hj hc ⟨k, g', hR, hi', ht', hsz⟩
      obtain ⟨fn', tmps', asg', body', hy, hRi⟩ := hR.round (Sh := Sh) (J2 := fun k' => Jr k' (uptoE (fun j => rowE C (o + j)) c j ++ [rowE C (o + j)])) (s k) hDl hpn (hne k _ _ hR.holds (by omega)) hi' ht' (ob k j _ hj hc hR.holds hi' ht') (fun k' => (s k').t) (by omega) (by omega)
      refine ⟨fn', tmps', asg', body', hy, hRi.mono ?_⟩
      rintro en W' ⟨rfl, hsz2, k', g'', hR', hi'', ht''⟩
      exact ⟨rfl, k', g'', hR', hi'', ht'', Nat.le_trans hsz hsz2⟩
    · rw [show w2.cell? ⟨L1.blk, L1.dl + 0, none⟩ = w.cell? ⟨L1.blk, L1.dl + 0, none⟩ from World.cell?_of_block (hgrow.block L1.blk (hH.dom i1 L1 hL1).2 (fun e => by cases e))]
      exact hBs
def unmarkT (nk : Nat) : Tree (Ex × Tm × Hp) → Tree (Ex × Tm × Hp)
  | .leaf x => match x.2.1.df with
    | [.mark b] => match Nat.beq b nk with
      | true => match x.2.2.heap[nk]? with
        | some .dfr => .leaf (x.1, ⟨x.2.1.len, x.2.1.tr, []⟩, x.2.2)
        | _ => .dead
      | false => .dead
    | _ => .dead
  | .node i y n => .node i (unmarkT nk y) (unmarkT nk n)
  | .pick i c y n => .pick i c (unmarkT nk y) (unmarkT nk n)
  | .or y n => .or (unmarkT nk y) (unmarkT nk n)
  | .req o v => .req o (unmarkT nk v)
  | .dead => .dead
theorem unmarkT_sat {σ : Sig} {nk : Nat} {Q : Ex × Tm × Hp → Prop} : ∀ {T : Tree (Ex × Tm × Hp)}, Sat σ Q (unmarkT nk T) →
    Sat σ (fun x => x.2.1.df = [.mark nk] ∧ x.2.2.heap[nk]? = some .dfr ∧ Q (x.1, ⟨x.2.1.len, x.2.1.tr, []⟩, x.2.2)) T
  | .leaf x, h => by
    simp only [unmarkT] at h
    split at h
    · rename_i b h1
      split at h
      · rename_i hb
        have hb := Nat.eq_of_beq_eq_true hb
        subst hb
        split at h
        · rename_i h2
          exact ⟨h1, h2, h⟩
        · exact h.elim
      · exact h.elim
    · exact h.elim
  | .node i _ _, h => ⟨fun e => unmarkT_sat (h.1 e), fun e => unmarkT_sat (h.2 e)⟩
  | .pick i c _ _, h => ⟨fun e => unmarkT_sat (h.1 e), fun e => unmarkT_sat (h.2 e)⟩
  | .or _ _, h => ⟨unmarkT_sat h.1, unmarkT_sat h.2⟩
  | .req _ _, h => ⟨h.1, unmarkT_sat h.2⟩
  | .dead, h => h
def EndZM (tab : TabF) (n : Nat) (W0 : Fra) (Z : Exit → Act → World → Prop) (x : SEx) (s : Shape) (σ : Sig) : Prop :=
  ∀ e a w g D, SExRel x e → g.sig = σ → AtG tab s n W0 a w g → a.defers = [{ target := .collected D, args := #[] }] → W0.w.heap.size ≤ D → w.heap[D]? = some (.deferred (some [])) → Z e a w
theorem StageM.last {P : Program} {tab : TabF} {n : Nat} {W0 : Fra} {Z : Exit → Act → World → Prop} {c1 : List Code} {S : Shape} {q : Nat} {ins : List (Option IntKind)} {J : Sig → Prop} {X : Ing} {Wt : Sw} {mb : Bool} {fuel d : Nat}
    (hm : P.follows .mixedOrders = true) (hlt : okLT X.m X.G X.T = true) (hok : okG X.G X.m = true) (hhook : ∀ F, Hooks P (cxOf X F)) (hn0 : X.n = 0) (hid : idOk S X.m = true) (hXt : X.tab = tab) (hrows : X.rows = []) (hcuts : X.cuts = []) (hinv : ∀ σ, X.inv σ) (hkt : okKt X = true)
    (hreck : okSw (fun F => unmarkT S.heap.length (runL P (cxOf X) mb fuel (evD P (cxOf X) mb fuel d).1 (evD P (cxOf X) mb fuel d).2 c1 F ⟨n, (tmOf S n).tr, [.mark S.heap.length]⟩ ⟨S.heap ++ [.dfr], []⟩)) Wt [] = true)
    (aX : X.m = q ∧ X.ins = ins) (hJ : ∀ σ τ, Agree q σ τ → J σ → J τ)
    (o : ∀ τ, Eqs τ q X.G → τ.tab = tab → InsOk τ q ins → J τ → segsW τ (EndZM tab n W0 Z) Wt []) (hpin : ∀ i, W0.pin i ≠ none → pinW i Wt = true := by exact fun _ h => absurd rfl h) :
    StageM P tab n W0 Z c1 S q ins J := by
  intro a w g D hA hdf hD0 hD hfree hi hj ht
  obtain ⟨rfl, rfl⟩ := aX
  subst hXt
  have ag := agree_solve X.G X.m g.sig
  have htab : (solve X.G X.m g.sig).tab = X.tab := by rw [← ag.tab]; exact ht
  have hi2 : InsOk (solve X.G X.m g.sig) X.m X.ins := fun i k hlt hik => by rw [← (ag.val i hlt).1]; exact hi i k hlt hik
  have hb : BaseOk X (solve X.G X.m g.sig) := ⟨eqs_solve hok, htab, hi2, by rw [hrows]; exact rows_nil, by rw [hcuts]; exact cuts_nil, hinv _, hkt⟩
  obtain ⟨F, hF, hsat⟩ := okSw_sat hreck ⟨leavesW_pin hpin, o _ (eqs_solve hok) htab hi2 (hJ _ _ ag hj)⟩ trivial
  have hgood : (cxOf X F).Good (solve X.G X.m g.sig) := cx_good hlt hb hF
  have hid' := hid
  unfold idOk at hid'
  split at hid'
  · rename_i lx ly hlx hly
    simp only [Bool.and_eq_true] at hid'
    obtain ⟨⟨i1, i2⟩, i3⟩ := hid'
    have hH1 : HRel (cxOf X F) (moved (idF S.heap.length 0) g (solve X.G X.m g.sig)) S.heap w := rematch hA.rel hn0 hgood (idF_length _ _) i3 hly (idAsg_fits ag i2) ag.ext.symm
    generalize hg1 : moved (idF S.heap.length 0) g (solve X.G X.m g.sig) = g1 at hH1
    have g1sig : g1.sig = solve X.G X.m g.sig := by rw [← hg1]; rfl
    have g1loc : ∀ i, i < S.heap.length → g1 i = g i := by
      intro i hi
      have h0 : (idF S.heap.length 0)[i]? = some (i, 0) := by simpa using idF_at (i := 0) hi
      rw [← hg1]
      cases hgi : g i with
      | none => simp only [moved, h0, hgi, Option.map_none]
      | some L => simp only [moved, h0, hgi, Option.map_some, shift, Nat.add_zero, Nat.sub_zero]
    have g1from : ∀ i L, g1 i = some L → g i = some L := by
      intro i L hi
      have := (hH1.dom i L hi).1
      rw [g1loc i this] at hi; exact hi
    obtain ⟨hH2, sub2⟩ := hH1.add (show (cxOf X F).n = 0 from hn0) (fun i => by rw [← hg1]; rfl) (k := .dfr) (L := ⟨D, 0, 0⟩) hD rfl (fun j M hj lj he => hfree j M (g1from j M hj) he) hD
    generalize hg2 : upd g1 S.heap.length ⟨D, 0, 0⟩ = g2 at hH2 sub2
    have g2D : g2 S.heap.length = some ⟨D, 0, 0⟩ := by rw [← hg2]; exact upd_same _ _ _
    have g2from : ∀ i L, g2 i = some L → g i = some L ∨ L = ⟨D, 0, 0⟩ := by
      intro i L hi
      by_cases e2 : i = S.heap.length
      · subst e2; rw [g2D] at hi; cases hi; exact .inr rfl
      · have hi1 : g1 i = some L := by rw [← hg2] at hi; rwa [show (upd g1 S.heap.length ⟨D, 0, 0⟩) i = g1 i from upd_other _ _ e2] at hi
        exact .inl (g1from i L hi1)
    have hFR : FRel g2 ⟨n, (tmOf S n).tr, [.mark S.heap.length]⟩ a := by
      refine ⟨⟨Nat.le_of_eq hA.size.symm, fun i v hv => ?_⟩, ?_⟩
      · have hmem : (i, v) ∈ S.t := tmOf_get (s := S) (n := n) hv
        obtain ⟨u, h1, h2⟩ := hA.tmp _ hmem
        obtain ⟨mm, q1, q2⟩ := matchL_mem _ _ lx hlx rfl v (List.mem_map.2 ⟨_, hmem, rfl⟩)
        refine ⟨u, h1, VRel.mono sub2 ?_⟩
        rw [← hg1]
        exact matchV_sound (moved_moves _ g _ ag.ext.symm) v v mm u q1 (fun p hp => idAsg_fits ag i1 p (q2 p hp)) h2
      · rw [hdf]
        exact .mark _ ⟨D, 0, 0⟩ _ _ g2D .nil
    have hsat2 := unmarkT_sat hsat
    refine runL_sound (evD_env (mb := mb) (fuel := fuel) hm (cx_ok hlt) hhook d) c1 F _ ⟨S.heap ++ [.dfr], []⟩ _ g2 w a hH2 hFR (by rw [sub2.sig, g1sig]; exact hsat2) (Z .normal) Z ?_
    rintro en a' w' ⟨e0, t, st⟩ ⟨z1, z2, x, s2, f, l, ex, hx, hdf2, hmt, hft, hQ, hR⟩ ⟨_, g', r1, r2, r3, r4, r5⟩
    simp only at z1 z2 hx hmt r2
    obtain ⟨y1, y2, m1, m2, rfl, m4, m5⟩ := matchS_spec hmt
    have hsig : g'.sig = solve X.G X.m g.sig := by rw [r3.sub.sig, sub2.sig, g1sig]
    have hfit : Fits g'.sig (asgS (solve X.G X.m g.sig) (y1 ++ y2 ++ ex)) (y1 ++ y2) := by rw [hsig]; exact hft
    have g'D : g' S.heap.length = some ⟨D, 0, 0⟩ := r3.sub _ _ g2D
    have hD' : w'.heap[D]? = some (.deferred (some [])) := by
      obtain ⟨L, hL, hB⟩ := r2.blk _ _ z2 (by simp)
      rw [g'D] at hL; cases hL
      exact hB
    have hB' : ∀ i L, g' i = some L → W0.own L.blk := by
      intro i L hi
      have hsz : W0.w.heap.size ≤ w.heap.size := hA.below.size
      have old : ∀ i L, g2 i = some L → W0.own L.blk := by
        intro i L hi
        rcases g2from i L hi with h1 | rfl
        · exact hA.own i L h1
        · exact W0.new _ hD0
      cases hg : g2 i with
      | some M =>
        have := r3.sub i M hg
        rw [this] at hi; cases hi
        exact old i _ hg
      | none =>
        obtain ⟨_, hb⟩ := r3.new i L hi hg
        rcases hb with hb | ⟨j', M, hj, hM, _⟩
        · exact W0.new _ (by omega)
        · rw [← hM]; exact old j' M hj
    have hend : Z en a' w' := by
      refine hQ en a' w' (moved f g' (asgS (solve X.G X.m g.sig) (y1 ++ y2 ++ ex))) D (sameX_rel hx r1) rfl ⟨rematch r2 rfl (cx0_good htab) m4 m5 m2 hfit.right (by rw [hsig]; rfl), fun _ => rfl, ?_, ?_, ?_, ?_, r5.trans hA.size⟩ ?_ hD0 hD'
      · intro p hp
        obtain ⟨b, mm, q1, q2, q3⟩ := matchT_get _ _ m1 p hp
        obtain ⟨u, h1, h2⟩ := r4.1.2 p.1 b q1
        exact ⟨u, h1, matchV_sound (moved_moves f g' _ (by rw [hsig]; rfl)) p.2 b mm u q2 (fun z hz => hfit z (by simp [q3 z hz])) h2⟩
      · intro i L hi
        obtain ⟨y, sh, L', _, h2, rfl⟩ := moved_from hi
        exact hB' y L' h2
      · intro i x hi
        have hf := hR i (by rw [hi]; simp)
        obtain ⟨hlt', h0⟩ := hA.pin i x hi
        refine ⟨by rw [← m4]; exact (List.getElem?_eq_some_iff.1 hf).1, ?_⟩
        have e1 : g2 i = x := by
          rw [← hg2, show (upd g1 S.heap.length ⟨D, 0, 0⟩) i = g1 i from upd_other _ _ (by omega), g1loc i hlt', h0]
        have e2 : g' i = x := by
          cases hx : g' i with
          | some L =>
            cases hg : g2 i with
            | some M => rw [r3.sub i M hg] at hx; rw [← e1, hg, hx]
            | none => exact absurd (r3.new i L hx hg).1 (by simp only [List.length_append, List.length_cons, List.length_nil]; omega)
          | none =>
            cases x with
            | none => rfl
            | some L => rw [r3.sub i L e1] at hx; cases hx
        simp only [moved, hf, e2]
        cases x <;> simp [shift]
      · have hb := hA.below
        refine ⟨r3.os.trans hb.os, r3.tape.trans hb.tape, r3.output.trans hb.output, Nat.le_trans hb.size r3.size, fun k hk hno => (r3.frame k (by have := hb.size; omega) ?_).trans (hb.frame k hk hno)⟩
        intro i L hi _ he
        rcases g2from i L hi with h1 | rfl
        · exact hno (he ▸ hA.own i L h1)
        · have he : D = k := he
          omega
      · have := r4.2
        rw [show t.df = [.mark S.heap.length] from z1] at this
        generalize a'.defers = ds at this
        cases this with
        | mark _ L _ m h1 h2 =>
          rw [g'D] at h1; cases h1
          cases h2
          rfl
    cases en with
    | normal => exact hend
    | _ => exact hend
  · cases hid'
end Go.Ev
namespace Go.Ev
open Go.RowKit
set_option linter.unusedVariables false
set_option linter.unusedSimpArgs false
theorem bodyPostM_of {P : Program} {fn : Func} {R : Ending → World → Prop} {e : Exit} {a : Act} {w : World} (he : e = .normal ∨ e = .ret) (h : bodyPost P fn R e a w) : bodyPostM (FR none) 0 P fn R e a w := by
  rcases he with rfl | rfl
  · obtain ⟨h1, v, h2, h3⟩ := h
    show LeavesInM (FR none) 0 P fn a.tmps R a.defers .returning w
    rw [h1]; exact ⟨v, h2, h3⟩
  · obtain ⟨h1, v, h2, h3⟩ := h
    show LeavesInM (FR none) 0 P fn a.tmps R a.defers .returning w
    rw [h1]; exact ⟨v, h2, h3⟩
theorem endZ_mem0 {P : Program} {tab : TabF} {n M : Nat} {fn : Func} {e : SymF} {g : Inj} {w : World} {SE : Shape} {vs : List AVal} {σ : Sig} {x : SEx} {l : Asg} (hSE : resA P (tmOf SE n) SE.heap fn.results.toList = some vs) (hv : packA vs = e.v) (hp : SE.heap = e.post)
    (hH : HRel (cx0 tab) g e.pre w) (ht : g.sig.tab = tab) (hcp : cellsBs e.pre = true) (hc : cellsGs e.post = true) (hid : idE e = some l) (hidl : idAsg M l = true) (hnt : noTwice (idF e.post.length 0) = true) (hd : DenEq σ g.sig l) (hlen2 : e.pre.length ≤ e.post.length) (hext : σ.ext = g.sig.ext) (hx : x = .ret ∨ x = .normal) :
    EndZ tab n (fraOf g w e.pre.length) (bodyPostM (FR none) 0 P fn (MemR tab e g w)) x SE σ := by
  intro en a w' hxe hA
  have := endZ_mem hSE hv hp hH ht hcp hc hid hidl hnt hd hlen2 hext hx en a w' hxe hA
  refine bodyPostM_of ?_ this
  rcases hx with rfl | rfl <;> cases en <;> simp only [SExRel] at hxe <;> simp
theorem endZ_memM {P : Program} {tab : TabF} {n M : Nat} {fn : Func} {e : SymF} {g : Inj} {w : World} {SE : Shape} {vs : List AVal} {σ : Sig} {x : SEx} {l : Asg} (hSE : resA P (tmOf SE n) SE.heap fn.results.toList = some vs) (hv : packA vs = e.v) (hp : SE.heap = e.post)
    (hH : HRel (cx0 tab) g e.pre w) (ht : g.sig.tab = tab) (hcp : cellsBs e.pre = true) (hc : cellsGs e.post = true) (hid : idE e = some l) (hidl : idAsg M l = true) (hnt : noTwice (idF e.post.length 0) = true) (hd : DenEq σ g.sig l) (hlen2 : e.pre.length ≤ e.post.length) (hext : σ.ext = g.sig.ext) (hx : x = .ret ∨ x = .normal) :
    EndZM tab n (fraOf g w e.pre.length) (bodyPostM (FR none) 0 P fn (MemR tab e g w)) x SE σ := by
  intro en a w' g' D hxe hgs hA hdf hD0 hD
  subst hgs
  have hgr : w'.grownBy (w'.putObj D (.deferred none)) (some D) := grownBy_putObj' _ _ _
  have hcG : cellsGs SE.heap = true := by rw [hp]; exact hc
  have hrow : ∀ r, some D = some r → ∃ o : Obj, w'.heap[r]? = some o ∧ o.isCells = false := fun r e => by cases e; exact ⟨_, hD, rfl⟩
  have hB : AtG tab SE n (fraOf g w e.pre.length) a (w'.putObj D (.deferred none)) g' := ⟨hA.rel.grown rfl hA.mp hcG hgr hrow, hA.mp, hA.tmp, hA.own, hA.pin, hA.below.grown hgr (fun r e => by cases e; exact hD0), hA.size⟩
  have h0 : At tab SE n g'.sig (fraOf g w e.pre.length) { a with defers := [] } (w'.putObj D (.deferred none)) := ⟨⟨g', rfl, hB.rel, hB.tmp, hB.own, hB.pin⟩, hB.below, hB.size, rfl⟩
  have := endZ_mem (x := .ret) hSE hv hp hH ht hcp hc hid hidl hnt hd hlen2 hext (.inl rfl) .ret _ _ trivial h0
  obtain ⟨_, v, h2, h3⟩ := this
  have hL : LeavesInM (FR none) 0 P fn a.tmps (MemR tab e g w) a.defers .returning w' := by
    rw [hdf]
    exact ⟨by simp, .inl ⟨D, _, rfl, run_takeDeferred hD, v, h2, h3⟩⟩
  rcases hx with rfl | rfl <;> cases en <;> simp only [SExRel] at hxe
  · exact hL
  · exact hL
theorem symF_of_stageM {P : Program} {tab : TabF} {inv : Sig → Prop} {e : SymF} {fn : Func} {n : Nat} (hf : P.funcs[e.f]? = some fn) (hb : fn.body = some (bodyOf fn)) (hn : fn.ntmps = n) (hna : e.args.length ≤ n)
    (hlen : e.pre.length ≤ e.post.length) (hcp : cellsBs e.pre = true) (hc : cellsGs e.post = true) (hG : okG e.G e.m = true)
    (h : ∀ (g : Inj) (w : World), g.sig.tab = tab → inv g.sig → Eqs g.sig e.m e.G → InsOk g.sig e.m e.ins → (∀ d, d ∈ e.pcs → evalS g.sig d = some (.bool true)) → HRel (cx0 tab) g e.pre w →
      Stage P tab n (fraOf g w e.pre.length) (bodyPostM (FR none) 0 P fn (MemR tab e g w)) (flatC (bodyOf fn)) ⟨argT 0 e.args, e.pre⟩ e.m e.ins (fun σ => Agree e.m g.sig σ)) : SymFOk P tab inv e := by
  refine ⟨hlen, hcp, hc, hG, fun g w args' ht hi he hins hpc hH ha => ?_⟩
  have hal : args'.size ≤ n := by
    have := ha.length
    simp only [Array.length_toList] at this
    omega
  have hA0 : At tab ⟨argT 0 e.args, e.pre⟩ n g.sig (fraOf g w e.pre.length) { tmps := args' ++ Array.replicate (n - args'.size) undef, defers := [] } w := by
    refine ⟨⟨g, rfl, hH, ?_, fun i L hi => .inr ⟨i, L, hi, rfl⟩, fun i x hi => ?_⟩, BelowF.refl (fraOf g w e.pre.length), by simp; omega, rfl⟩
    · intro p hp
      obtain ⟨j, h1, h2⟩ := argT_get _ _ _ hp
      obtain ⟨u, k1, k2⟩ := ha.get j p.2 h2
      refine ⟨u, ?_, k2⟩
      have hlt : j < args'.size := by
        have := (List.getElem?_eq_some_iff.1 k1).1
        simpa using this
      rw [h1, Nat.zero_add, Array.getElem?_append_left hlt]
      simpa using k1
    · by_cases hlt : i < e.pre.length
      · have hi : (if i < e.pre.length then some (g.loc i) else none) = some x := hi
        rw [if_pos hlt] at hi
        cases hi
        exact ⟨hlt, rfl⟩
      · have hi : (if i < e.pre.length then some (g.loc i) else none) = some x := hi
        rw [if_neg hlt] at hi
        cases hi
  have := flat_wp _ (h g w ht hi he hins hpc hH _ _ g.sig hA0 hins ⟨fun _ _ => ⟨rfl, rfl, rfl⟩, rfl, rfl⟩ ht)
  rw [then_self] at this
  rw [← hn] at this
  exact calls_FR (r := none) (n := 0) (callsIn_of_wp_marks hf hb trivial this)
end Go.Ev
