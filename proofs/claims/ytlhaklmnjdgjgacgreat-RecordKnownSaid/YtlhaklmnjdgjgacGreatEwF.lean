/- Memory: reading, new blocks, writing. -/
import Derived.Test.YtlhaklmnjdgjgacGreatEwE
namespace Go.Ev

/-! ### Worlds that differ in one block -/

/-- w' is w but for the cells of block b, and new blocks and draws -/
structure Wr (b : Nat) (w w' : World) : Prop where
  size : w'.heap.size = w.heap.size
  other : ∀ k, k ≠ b → w'.heap[k]? = w.heap[k]?
  os : w'.os = w.os
  tape : w'.tape = w.tape
  output : w'.output = w.output

theorem Wr.refl (b : Nat) (w : World) : Wr b w w := ⟨rfl, fun _ _ => rfl, rfl, rfl, rfl⟩
theorem Wr.trans {b : Nat} {w w' w'' : World} (h : Wr b w w') (h' : Wr b w' w'') : Wr b w w'' :=
  ⟨h'.size.trans h.size, fun k hk => (h'.other k hk).trans (h.other k hk), h'.os.trans h.os, h'.tape.trans h.tape, h'.output.trans h.output⟩

theorem setCell_heap (w : World) (b o : Nat) (v : Value) {C : Array Value} {e : TypeId} {fr : Nat × Nat} (h : w.heap[b]? = some (.cells C e fr)) :
    (w.setCell ⟨b, o, none⟩ v).heap[b]? = some (.cells (C.setIfInBounds o v) e fr) := by
  simp [World.setCell, Array.getElem?_modify, h]

theorem setCell_other (w : World) (b o : Nat) (v : Value) : Wr b w (w.setCell ⟨b, o, none⟩ v) :=
  ⟨by simp, fun k hk => by simp [World.setCell, Array.getElem?_modify, Ne.symm hk], rfl, rfl, rfl⟩

theorem storeCells_ok {P : Program} (b o : Nat) (e : TypeId) (fr : Nat × Nat) : ∀ (vs : List Value) (i : Nat) (C : Array Value) (w : World), w.heap[b]? = some (.cells C e fr) →
    (∀ k, k < C.size → ¬ (fr.1 ≤ k ∧ k < fr.2)) → o + i + vs.length ≤ C.size → (∀ v ∈ vs, v.oneCell' = true) →
    ∃ w', (storeCells ⟨b, o, none⟩ vs i).run P w = .ok () w' ∧ Wr b w w' ∧ w'.heap[b]? = some (.cells ((vs.zipIdx i).foldl (fun cs (x : Value × Nat) => cs.setIfInBounds (o + x.2) x.1) C) e fr)
  | [], i, C, w, hb, _, _, _ => ⟨w, by simp [storeCells], Wr.refl b w, by simpa using hb⟩
  | v :: vs, i, C, w, hb, hfr, hle, h1 => by
    have hi : o + i < C.size := by simp at hle; omega
    have hcell : w.cell? ⟨b, o + i, none⟩ = some C[o + i] := by simp [World.cell?, hb, hi]
    have hf : w.frozen? ⟨b, o + i, none⟩ = false := by
      have := hfr (o + i) hi
      simp only [World.frozen?, hb]
      by_cases h1 : fr.1 ≤ o + i
      · have : ¬ o + i < fr.2 := fun h2 => this ⟨h1, h2⟩
        simp [this]
      · simp [h1]
    have hst : (store ((⟨b, o, none⟩ : Addr).add i) v).run P w = .ok () (w.setCell ⟨b, o + i, none⟩ v) := by
      rw [addr_add, run_store P w _ v _ (h1 v (by simp)), hcell]
      simp [hf]
    obtain ⟨w', h2, h3, h4⟩ := storeCells_ok (P := P) b o e fr vs (i + 1) (C.setIfInBounds (o + i) v) (w.setCell ⟨b, o + i, none⟩ v) (setCell_heap w b (o + i) v hb)
      (by simpa using hfr) (by simp at hle ⊢; omega) (fun u hu => h1 u (by simp [hu]))
    refine ⟨w', ?_, (setCell_other w b (o + i) v).trans h3, ?_⟩
    · simp only [storeCells, Sem.run_bind, hst, Result.andThen_ok, h2]
    · simpa [List.zipIdx_cons] using h4

theorem foldl_size : ∀ (l : List (Value × Nat)) (o : Nat) (C : Array Value), (l.foldl (fun cs (x : Value × Nat) => cs.setIfInBounds (o + x.2) x.1) C).size = C.size
  | [], _, _ => rfl
  | x :: l, o, C => by simp only [List.foldl_cons]; rw [foldl_size l o]; simp

theorem foldl_low : ∀ (l : List (Value × Nat)) (o : Nat) (C : Array Value) {j : Nat}, (∀ x ∈ l, j < o + x.2) → (l.foldl (fun cs (x : Value × Nat) => cs.setIfInBounds (o + x.2) x.1) C)[j]? = C[j]?
  | [], _, _, _, _ => rfl
  | x :: l, o, C, j, h => by
    simp only [List.foldl_cons]
    rw [foldl_low l o _ (fun y hy => h y (by simp [hy])), Array.getElem?_setIfInBounds_ne (by have := h x (by simp); omega)]

theorem foldl_high : ∀ (vs : List Value) (i o : Nat) (C : Array Value), o + i + vs.length ≤ C.size → ∀ (j : Nat) (v : Value), vs[j]? = some v →
    ((vs.zipIdx i).foldl (fun cs (x : Value × Nat) => cs.setIfInBounds (o + x.2) x.1) C)[o + i + j]? = some v
  | [], _, _, _, _, _, _, h => by simp at h
  | u :: vs, i, o, C, hle, 0, v, h => by
    simp at h; subst h
    simp only [List.zipIdx_cons, List.foldl_cons]
    rw [foldl_low]
    · simp at hle
      have : o + i < C.size := by omega
      simp [this]
    · intro x hx
      have := (List.mem_zipIdx hx).1
      omega
  | u :: vs, i, o, C, hle, j + 1, v, h => by
    simp only [List.zipIdx_cons, List.foldl_cons]
    have := foldl_high vs (i + 1) o (C.setIfInBounds (o + i) u) (by simp at hle ⊢; omega) j v (by simpa using h)
    rw [show o + i + (j + 1) = o + (i + 1) + j by omega]
    exact this

/-! ### The abstract heap's relation, kept -/

def upd (g : Inj) (i : Nat) (L : Loc) : Inj := ⟨fun j => if j = i then some L else g j, g.sig, g.mp⟩

theorem upd_same (g : Inj) (i : Nat) (L : Loc) : upd g i L i = some L := by simp [upd]
theorem upd_other (g : Inj) {i j : Nat} (L : Loc) (h : j ≠ i) : upd g i L j = g j := by simp [upd, h]
theorem upd_sub {g : Inj} {i : Nat} (L : Loc) (h : g i = none) : Sub g (upd g i L) := ⟨fun j M hj => by
  by_cases hji : j = i
  · subst hji; rw [h] at hj; cases hj
  · rw [upd_other g L hji]; exact hj, rfl, fun _ _ h => h⟩

theorem CRel.of_list {g : Inj} {c : List AVal} {C : Array Value} (h : LRel g c C.toList) (h1 : ∀ v ∈ C.toList, v.oneCell' = true) : CRel g c C 0 := by
  intro i a hi
  obtain ⟨v, hv, hr⟩ := h.get i a hi
  exact ⟨v, by simpa using hv, hr, h1 v (List.mem_of_getElem? hv)⟩

theorem CRel.seg {g : Inj} {c r : List AVal} {C : Array Value} {d off n : Nat} (h : CRel g c C d) (hs : Ev.seg c off n = some r) :
    ∃ vs : List Value, vs.length = n ∧ r.length = n ∧ LRel g r vs ∧ (∀ v ∈ vs, v.oneCell' = true) ∧ ∀ (j : Nat) (v : Value), vs[j]? = some v → C[d + (off + j)]? = some v := by
  unfold Ev.seg at hs
  split at hs
  · rename_i hle
    cases hs
    have key : ∀ j, j < n → ∃ v, C[d + (off + j)]? = some v ∧ VRel g (c[off + j]?.getD default) v ∧ v.oneCell' = true := by
      intro j hj
      have hlt : off + j < c.length := by omega
      obtain ⟨v, h1, h2, h3⟩ := h (off + j) c[off + j] (by simp [hlt])
      exact ⟨v, h1, by simpa [hlt] using h2, h3⟩
    refine ⟨(List.range n).map fun j => C[d + (off + j)]?.getD undef, by simp, by simp; omega, ?_, ?_, ?_⟩
    · refine LRel.of_get (by simp; omega) ?_
      intro j a hj
      have hjn : j < n := by
        have := (List.getElem?_eq_some_iff.1 hj).1
        simp at this; omega
      obtain ⟨v, h1, h2, h3⟩ := key j hjn
      refine ⟨v, by simp [hjn, h1], ?_⟩
      rw [List.getElem?_take, if_pos hjn, List.getElem?_drop] at hj
      rw [hj] at h2
      exact h2
    · intro v hv
      simp only [List.mem_map, List.mem_range] at hv
      obtain ⟨j, hj, rfl⟩ := hv
      obtain ⟨v, h1, _, h3⟩ := key j hj
      simpa [h1] using h3
    · intro j v hj
      have hjn : j < n := by
        have := (List.getElem?_eq_some_iff.1 hj).1
        simpa using this
      obtain ⟨u, h1, _, _⟩ := key j hjn
      simp [hjn, h1] at hj
      rw [h1, hj]
  · cases hs

/-- A new block. 'id' is the slot: the next one, or one that was kept free. -/
theorem HRel.allocK {ng : Cx} {g : Inj} {H H' : List Blk} {w w0 : World} (h : HRel ng g H w) {id : Nat} (hid : g id = none) (hng : ng.n ≤ id) {k : Blk} {O : Obj} {n : Nat}
    (h0 : w0.heap = w.heap) (hos : w0.os = w.os) (htape : w0.tape = w.tape) (hout : w0.output = w.output)
    (hH : H'[id]? = some k) (hHo : ∀ j, j ≠ id → H'[j]? = H[j]?) (hlen : H.length ≤ H'.length) (hfree : H.length ≤ id ∨ ¬ Live H id)
    (hB : (w0.alloc O).heap[w.heap.size]? = some O → BRel (upd g id ⟨w.heap.size, 0, n⟩) (w0.alloc O) k ⟨w.heap.size, 0, n⟩) :
    HRel ng (upd g id ⟨w.heap.size, 0, n⟩) H' (w0.alloc O) ∧ (H.length ≤ id → Ext g H w (upd g id ⟨w.heap.size, 0, n⟩) H' (w0.alloc O)) := by
  have hsub := upd_sub (⟨w.heap.size, 0, n⟩ : Loc) hid
  have hidl : id < H'.length := (List.getElem?_eq_some_iff.1 hH).1
  have hnew : (w0.alloc O).heap[w.heap.size]? = some O := by simp [World.alloc, h0]
  have hold : ∀ b, b < w.heap.size → (w0.alloc O).heap[b]? = w.heap[b]? := by
    intro b hb
    simp only [World.alloc, h0, Array.getElem?_push]
    rw [if_neg (by omega)]
  have hsz : (w0.alloc O).heap.size = w.heap.size + 1 := by simp [World.alloc, h0]
  have hlive : ∀ j, j ≠ id → (Live H' j ↔ Live H j) := fun j hj => by unfold Live; rw [hHo j hj]
  constructor
  · constructor
    · intro i L hi
      by_cases hii : i = id
      · subst hii; rw [upd_same] at hi; cases hi; exact ⟨hidl, by rw [hsz]; exact Nat.lt_succ_self _⟩
      · rw [upd_other g _ hii] at hi
        have := h.dom i L hi
        exact ⟨Nat.lt_of_lt_of_le this.1 hlen, by rw [hsz]; omega⟩
    · intro i j L M hi hj hb li lj
      by_cases hii : i = id
      · by_cases hjj : j = id
        · rw [hii, hjj]
        · subst hii
          rw [upd_same] at hi; cases hi
          rw [upd_other g _ hjj] at hj
          have := (h.dom j M hj).2
          simp at hb; omega
      · by_cases hjj : j = id
        · subst hjj
          rw [upd_same] at hj; cases hj
          rw [upd_other g _ hii] at hi
          have := (h.dom i L hi).2
          simp at hb; omega
        · rw [upd_other g _ hii] at hi
          rw [upd_other g _ hjj] at hj
          exact h.inj i j L M hi hj hb ((hlive i hii).1 li) ((hlive j hjj).1 lj)
    · intro i k hi hk
      by_cases hii : i = id
      · subst hii
        rw [hH] at hi; cases hi
        exact ⟨_, upd_same _ _ _, hB hnew⟩
      · rw [hHo i hii] at hi
        obtain ⟨L, hL, hB⟩ := h.blk i k hi hk
        exact ⟨L, by rw [upd_other g _ hii]; exact hL, (hB.of_same (hold _ (h.dom i L hL).2)).mono hsub⟩
    · intro i hi
      obtain ⟨L, hL, h1, h2⟩ := h.glob i hi
      exact ⟨L, hsub _ _ hL, h1, h2⟩
    · exact h.sig
    · refine h.frz.to rfl rfl hlen fun b hb q2 => ⟨hold _ hb, fun j M hj lj he => ?_⟩
      by_cases hjj : j = id
      · subst hjj
        rw [upd_same] at hj; cases hj
        simp at he; omega
      · rw [upd_other g _ hjj] at hj
        exact q2 j M hj ((hlive j hjj).1 lj) he
  · intro hle
    constructor
    · exact hsub
    · intro i L hi hn
      by_cases hii : i = id
      · subst hii; rw [upd_same] at hi; cases hi; exact ⟨hle, .inl (Nat.le_refl _)⟩
      · rw [upd_other g _ hii, hn] at hi; cases hi
    · intro i X hi hn; rw [show (upd g id _).mp = g.mp from rfl, hn] at hi; cases hi
    · exact hlen
    · intro i hi hl
      by_cases hii : i = id
      · omega
      · exact (hlive i hii).1 hl
    · rw [hsz]; omega
    · intro b hb _; exact hold b hb
    · exact hos
    · exact htape
    · exact hout

theorem HRel.alloc {ng : Cx} {g : Inj} {H H' : List Blk} {w w0 : World} (h : HRel ng g H w) {id : Nat} (hid : g id = none) (hng : ng.n ≤ id) {c : List AVal} {e : TypeId} {C : Array Value} {fr : Nat × Nat}
    (h0 : w0.heap = w.heap) (hos : w0.os = w.os) (htape : w0.tape = w.tape) (hout : w0.output = w.output)
    (hH : H'[id]? = some (.cells c e)) (hHo : ∀ j, j ≠ id → H'[j]? = H[j]?) (hlen : H.length ≤ H'.length) (hfree : H.length ≤ id ∨ ¬ Live H id)
    (hfr : FrOk fr C) (hcl : c.length ≤ C.size) (hc : CRel g c C 0) :
    HRel ng (upd g id ⟨w.heap.size, 0, C.size⟩) H' (w0.alloc (.cells C e fr)) ∧ (H.length ≤ id → Ext g H w (upd g id ⟨w.heap.size, 0, C.size⟩) H' (w0.alloc (.cells C e fr))) :=
  HRel.allocK h hid hng h0 hos htape hout hH hHo hlen hfree fun hnew => ⟨C, fr, hnew, by simp, hfr, hcl, fun j a hj => let ⟨v, a1, a2, a3⟩ := hc j a hj; ⟨v, a1, a2.mono (upd_sub _ hid), a3⟩⟩

/-- Cells of a block are written. -/
theorem HRel.writeK {ng : Cx} {g : Inj} {H : List Blk} {w w' : World} (h : HRel ng g H w) {b : Nat} {L : Loc} {k' : Blk} (hlb : Live H b) (hL : g b = some L)
    (hw : Wr L.blk w w') (hB : BRel g w' k' L) : HRel ng g (H.set b k') w' ∧ Ext g H w g (H.set b k') w' := by
  have hbl : b < H.length := let ⟨_, h1, _⟩ := hlb; (List.getElem?_eq_some_iff.1 h1).1
  have hlive : ∀ j, Live (H.set b k') j → Live H j := by
    intro j ⟨k, hk, hne⟩
    rw [List.getElem?_set] at hk
    split at hk
    · rename_i hbj; subst hbj; exact hlb
    · exact ⟨k, hk, hne⟩
  constructor
  · constructor
    · intro i M hi; have := h.dom i M hi; exact ⟨by simpa using this.1, by rw [hw.size]; exact this.2⟩
    · intro i j M N hi hj hbk li lj; exact h.inj i j M N hi hj hbk (hlive i li) (hlive j lj)
    · intro i k hi hk
      rw [List.getElem?_set] at hi
      split at hi
      · rename_i hbi
        subst hbi
        simp at hi
        subst hi
        exact ⟨L, hL, hB⟩
      · rename_i hbi
        obtain ⟨M, hM, hBM⟩ := h.blk i k hi hk
        refine ⟨M, hM, hBM.of_same (hw.other _ fun he => hbi ?_)⟩
        exact (h.inj i b M L hM hL he ⟨k, hi, hk⟩ hlb).symm
    · exact h.glob
    · exact h.sig
    · exact h.frz.to rfl rfl (by simp) fun b' hb' q2 => ⟨hw.other _ fun he => q2 b L hL hlb he.symm, fun j M hj lj => q2 j M hj (hlive j lj)⟩
  · constructor
    · exact Sub.refl g
    · intro i M hi hn; rw [hn] at hi; cases hi
    · intro i M hi hn; rw [hn] at hi; cases hi
    · simp
    · intro i _ hl; exact hlive i hl
    · rw [hw.size]; exact Nat.le_refl _
    · intro k hk hno; exact hw.other k fun he => hno b L hL hlb he.symm
    · exact hw.os
    · exact hw.tape
    · exact hw.output

theorem HRel.write {ng : Cx} {g : Inj} {H : List Blk} {w w' : World} (h : HRel ng g H w) {b : Nat} {L : Loc} {c c' : List AVal} {e : TypeId} (hb : H[b]? = some (.cells c e)) (hL : g b = some L)
    (hw : Wr L.blk w w') (hB : BRel g w' (.cells c' e) L) : HRel ng g (H.set b (.cells c' e)) w' ∧ Ext g H w g (H.set b (.cells c' e)) w' :=
  HRel.writeK h ⟨_, hb, by simp⟩ hL hw hB

/-- The cells of a written block. -/
theorem CRel.sets {g : Inj} {d : Nat} : ∀ {vs : List AVal} {us : List Value} {c : List AVal} {C : Array Value} (off j : Nat), LRel g vs us → (∀ u ∈ us, u.oneCell' = true) → CRel g c C d →
    d + off + j + vs.length ≤ C.size →
    CRel g (setsA c (off + j) vs) ((us.zipIdx j).foldl (fun cs (x : Value × Nat) => cs.setIfInBounds (d + off + x.2) x.1) C) d
  | _, _, c, C, off, j, .nil, _, h, _ => by simpa [setsA] using h
  | _, _, c, C, off, j, .cons a v l m hv hr, h1, h, hle => by
    simp only [setsA, List.zipIdx_cons, List.foldl_cons]
    have hset : CRel g (c.set (off + j) a) (C.setIfInBounds (d + off + j) v) d := by
      intro i b hi
      rw [List.getElem?_set] at hi
      split at hi
      · rename_i hij
        split at hi
        · cases hi
          subst hij
          refine ⟨v, ?_, hv, h1 v (by simp)⟩
          have : d + (off + j) = d + off + j := by omega
          rw [this, Array.getElem?_setIfInBounds]
          simp at hle
          have : d + off + j < C.size := by omega
          simp [this]
        · cases hi
      · rename_i hij
        obtain ⟨u, a1, a2, a3⟩ := h i b hi
        refine ⟨u, ?_, a2, a3⟩
        rw [Array.getElem?_setIfInBounds_ne (by omega)]
        exact a1
    have := CRel.sets off (j + 1) hr (fun u hu => h1 u (by simp [hu])) hset (by simp at hle ⊢; omega)
    simpa [Nat.add_assoc] using this

theorem setsA_length : ∀ (vs l : List AVal) (off : Nat), (setsA l off vs).length = l.length
  | [], _, _ => rfl
  | v :: vs, l, off => by simp only [setsA]; rw [setsA_length vs]; simp

end Go.Ev
