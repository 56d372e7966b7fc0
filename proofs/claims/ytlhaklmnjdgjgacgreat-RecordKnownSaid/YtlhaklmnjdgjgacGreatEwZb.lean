/- Slices of flat elements that come in: as rows; and that they read the same behind a call. -/
import Derived.Test.YtlhaklmnjdgjgacGreatEwW
import Derived.Test.YtlhaklmnjdgjgacGreatEwZ
import Derived.ChangeArms
import Derived.ChangeReads
import Derived.DataReads
import Derived.Deep.Slices
import Derived.ChangeSlices
import Derived.WideShapes
namespace Go.Ev

/-- A cell's value, as the evaluator has it. -/
def cellA : Value → AVal
  | .int k n => .int k n
  | .bool b => .bool b
  | _ => .nilptr

/-- What an element has, cell by cell: numbers and truths of kinds. -/
def ElOk (cl : List Cl) (f : Nat → AVal) : Prop := ∃ l, InR cl l ∧ ∀ j, j < cl.length → f j = cellA ((encCs cl l).getD j .nilFunc)

/-- A row that came in by a slice: it lies there. -/
structure RowV (W : World) (cl : List Cl) (v : Value) (X : Fz) : Prop where
  z : X.z = cl.length
  ok : 0 < X.len → FzOk X W
  rel : ∀ (g : Inj) (i : Nat), g.sig.ext i = some X → VRel g (.row i) v
  els : ∀ m, m < X.len → ElOk cl (X.val m)
  len : (X.len : Int) ≤ 9223372036854775807

/-- .. and reads the same wherever memory below is as it was. -/
structure RowIn {H : Type} (enc : TypeId × Value → H) (P : Program) (W : World) (t : TypeId) (cl : List Cl) (v : Value) (d : DataW H) (ps : List MemPlace) (X : Fz) : Prop where
  z : X.z = cl.length
  ok : 0 < X.len → FzOk X W
  rel : ∀ (g : Inj) (i : Nat), g.sig.ext i = some X → VRel g (.row i) v
  els : ∀ m, m < X.len → ElOk cl (X.val m)
  len : (X.len : Int) ≤ 9223372036854775807
  again : ∀ W' : World, RowKit.Below W.heap.size W W' → ∀ sp : Nat → Bool, (∀ p ∈ ps, sp p.block = true) → DataW.Trod enc P W' 0 sp true t v d ps

theorem RowIn.row {H : Type} {enc : TypeId × Value → H} {P : Program} {W : World} {t : TypeId} {cl : List Cl} {v : Value} {d : DataW H} {ps : List MemPlace} {X : Fz} (h : RowIn enc P W t cl v d ps X) : RowV W cl v X := ⟨h.z, h.ok, h.rel, h.els, h.len⟩

theorem encCs_cell : ∀ {cl : List Cl} {l : List Int}, InR cl l → ∀ (j : Nat) (v : Value), (encCs cl l)[j]? = some v → (∀ g, VRel g (cellA v) v) ∧ v.oneCell' = true
  | [], _, _, j, v, h => by simp [encCs] at h
  | c :: cl, [], h, _, _, _ => by cases h
  | c :: cl, n :: l, hr, 0, v, h => by
    simp only [encCs, List.getElem?_cons_zero, Option.some.injEq] at h
    subst h
    cases c with
    | i k => exact ⟨fun g => .int k _, rfl⟩
    | b => exact ⟨fun g => .bool _, rfl⟩
  | c :: cl, n :: l, hr, j + 1, v, h => encCs_cell hr.2 j v (by simpa [encCs] using h)

section
variable {H : Type} {enc : TypeId × Value → H} {P : Program} {W : World}

theorem cells_same {W' : World} {a : Addr} {n : Nat} (hb : W'.heap[a.block]? = W.heap[a.block]?) : W'.cells? 0 a n = W.cells? 0 a n := by
  unfold World.cells?
  rw [if_pos (Nat.zero_le _), if_pos (Nat.zero_le _)]
  refine mapM_congr' fun i _ => ?_
  have hblk : (a.add i).block = a.block := by unfold Addr.add; split <;> rfl
  unfold World.cell?
  rw [hblk, hb]

theorem add_add' (a : Addr) (i j : Nat) : (a.add i).add j = a.add (i + j) := by
  unfold Addr.add
  by_cases hi : i = 0 <;> by_cases hj : j = 0 <;> simp [hi, hj, Nat.add_assoc]

theorem add_block (a : Addr) (i : Nat) : (a.add i).block = a.block := by unfold Addr.add; split <;> rfl

theorem open_rows {n : Nat} {t e : TypeId} {cl : List Cl} {v : Value} {d : DataW H} {ps : List MemPlace} {r : Reach} {b0 : Nat} (ht : P.underlying t = some (.slice e)) (hf : flat P n e = some cl) (hz : Nat.beq (P.cellsOf e) cl.length = true) (hpos : Nat.blt 0 cl.length = true)
    (hv : Value.okWide P W r b0 t v) (hd : DataW.Trod enc P W 0 (fun _ => true) true t v d ps) : ∃ X, RowIn enc P W t cl v d ps X := by
  have hz := Nat.eq_of_beq_eq_true hz
  have hpos : 0 < cl.length := by simpa using hpos
  obtain ⟨a0, len, cap, rfl⟩ := Go.WideShapes.okWide_slice ht hv
  obtain ⟨fuel, hd⟩ := hd
  have hcs : (Value.slice a0 len cap).cells.toList = [.slice a0 len cap] := rfl
  rw [hcs] at hd
  rcases DataW.trod_slice ht hd with ⟨h1, h2⟩ | ⟨a, len', cap', elems, rest, m, rfl, h1, h2, _, hlc, hcm, hel, hall, hsp, _⟩
  · simp only [List.cons.injEq, Value.slice.injEq, and_true] at h1
    obtain ⟨rfl, rfl, rfl⟩ := h1
    simp only [Prod.mk.injEq] at h2
    obtain ⟨rfl, rfl⟩ := h2
    refine ⟨⟨0, 0, cl.length, 0, fun _ _ => .nilptr, none⟩, rfl, fun h => absurd h (Nat.lt_irrefl 0), fun g i h => .row i _ none 0 h (Nat.le_refl _) (fun h => absurd h (Nat.lt_irrefl 0)), fun m h => absurd h (Nat.not_lt_zero m), by simp, ?_⟩
    intro W' _ sp _
    refine ⟨1, ?_⟩
    rw [hcs]
    unfold DataW.trod
    rw [ht]
    rfl
  · simp only [List.cons.injEq, Value.slice.injEq, and_true] at h1
    obtain ⟨rfl, rfl, rfl⟩ := h1
    simp only [Prod.mk.injEq] at h2
    obtain ⟨rfl, rfl⟩ := h2
    obtain ⟨hrl, hrest⟩ := hsp rfl
    -- each element's cells
    have hcell : ∀ i, i < len → ∃ cs l, W.cells? 0 (a.add (i * P.cellsOf e)) (P.cellsOf e) = some cs ∧ InR cl l ∧ cs = encCs cl l := by
      intro i hi
      have h3 := hall i hi
      rw [List.getElem?_eq_getElem (by omega)] at h3
      obtain ⟨cs, h4, h5⟩ := Option.bind_eq_some_iff.1 h3
      obtain ⟨⟨l, h6, h7⟩, _⟩ := open_flat n hf h5
      exact ⟨cs, l, h4, h6, h7⟩
    have hblk : 0 < cap → a.block < W.heap.size := by
      intro hc
      have : ∃ y, (W.cells? 0 (a.add 0) (P.cellsOf e)).bind (DataW.trod enc P W 0 (fun _ => true) true m e) = some y := by
        by_cases hl : 0 < len
        · have h3 := hall 0 hl
          rw [Nat.zero_mul, List.getElem?_eq_getElem (by omega)] at h3
          exact ⟨_, h3⟩
        · have h3 := hrest 0 (by omega)
          rw [List.getElem?_eq_getElem (by omega), show len + 0 = 0 by omega, Nat.zero_mul] at h3
          exact ⟨_, h3⟩
      obtain ⟨y, hy⟩ := this
      obtain ⟨cs, h4, _⟩ := Option.bind_eq_some_iff.1 hy
      obtain ⟨_, _, h5⟩ := World.cells?_some h4
      have h6 := h5 0 (by omega)
      have hlen := (World.cells?_some h4).2.1
      rw [List.getElem?_eq_getElem (by omega)] at h6
      unfold World.cell? at h6
      split at h6
      · rename_i C e' fr hheap
        have := (Array.getElem?_eq_some_iff.1 hheap).1
        simpa [add_block] using this
      · cases h6
    have hat : 0 < len → a.spot = none ∧ ∃ C e' fr, W.heap[a.block]? = some (.cells C e' fr) ∧ ∀ i cs, i < len → W.cells? 0 (a.add (i * P.cellsOf e)) (P.cellsOf e) = some cs → ∀ j, j < P.cellsOf e → C[a.off + i * P.cellsOf e + j]? = cs[j]? := by
      intro hl
      obtain ⟨cs, l, h4, _, _⟩ := hcell 0 hl
      obtain ⟨_, hlen, h5⟩ := World.cells?_some h4
      have h6 := h5 0 (by omega)
      have hadd : (a.add (0 * P.cellsOf e)).add 0 = a := by simp [Addr.add]
      rw [hadd, List.getElem?_eq_getElem (by omega)] at h6
      unfold World.cell? at h6
      split at h6
      · rename_i C e' fr hheap
        have hsp0 : a.spot = none := by
          cases hs : a.spot with
          | none => rfl
          | some x => rw [hs] at h6; simp at h6
        refine ⟨hsp0, C, e', fr, hheap, ?_⟩
        intro i cs hi h4 j hj
        obtain ⟨_, _, h5⟩ := World.cells?_some h4
        have h7 := h5 j hj
        rw [← h7]
        rw [add_add']
        unfold World.cell?
        rw [add_block, hheap]
        have hspot : (a.add (i * P.cellsOf e + j)).spot = none := by unfold Addr.add; split; exact hsp0; rfl
        have hoff : (a.add (i * P.cellsOf e + j)).off = a.off + (i * P.cellsOf e + j) := by unfold Addr.add; split <;> simp_all
        rw [hspot, hoff]
        simp [Nat.add_assoc]
      · cases h6
    let V : Nat → Nat → AVal := fun m j => match W.cells? 0 (a.add (m * P.cellsOf e)) (P.cellsOf e) with
      | some cs => cellA (cs.getD j .nilFunc)
      | none => .nilptr
    refine ⟨⟨a.block, a.off, cl.length, len, V, none⟩, rfl, ?_, ?_, ?_, ?_, ?_⟩
    · intro hl
      have hl : 0 < len := hl
      obtain ⟨_, C, e', fr, hheap, hC⟩ := hat hl
      refine ⟨C, e', fr, hheap, ?_, fun o h => by cases h⟩
      intro m' j hm' hj
      have hm' : m' < len := hm'
      have hj : j < cl.length := hj
      obtain ⟨cs, l, h4, h6, rfl⟩ := hcell m' hm'
      have h7 := hC m' _ hm' h4 j (by omega)
      have hlt : j < (encCs cl l).length := by rw [encCs_length]; exact hj
      rw [List.getElem?_eq_getElem hlt] at h7
      have hgd : (encCs cl l).getD j .nilFunc = (encCs cl l)[j] := by simp [List.getD, hlt]
      obtain ⟨q1, q2⟩ := encCs_cell h6 j _ (List.getElem?_eq_getElem hlt)
      refine ⟨(encCs cl l)[j], ?_, fun g => ?_, q2⟩
      · show C[a.off + m' * cl.length + j]? = _
        rw [← hz]; exact h7
      · show VRel g (V m' j) _
        simp only [V, h4, hgd]
        exact q1 g
    · intro g i h
      refine .row i _ (some a) cap h hlc (fun hl => ?_)
      have hl : 0 < len := hl
      obtain ⟨hsp0, _⟩ := hat hl
      obtain ⟨b, o, s⟩ := a
      simp only at hsp0
      subst hsp0
      rfl
    · intro m' hm'
      have hm' : m' < len := hm'
      obtain ⟨cs, l, h4, h6, rfl⟩ := hcell m' hm'
      refine ⟨l, h6, fun j hj => ?_⟩
      show V m' j = _
      simp only [V, h4]
    · have : maxLen = 2 ^ 63 - 1 := rfl
      show (len : Int) ≤ _
      omega
    · intro W' hB sp hps
      refine ⟨m + 1, ?_⟩
      rw [hcs]
      by_cases hc : 0 < cap
      · have hb := hB.block a.block (hblk hc)
        have hspb : sp a.block = true := by
          have hmem : MemPlace.cell a.block a.off ∈ MemPlace.row a ((elems.length + rest.length) * P.cellsOf e) ++ (elems ++ rest).flatMap (·.2) :=
            List.mem_append_left _ (MemPlace.mem_row.2 ⟨0, by rw [hel, hrl]; exact Nat.mul_pos (by omega) (by omega), by simp⟩)
          exact hps _ hmem
        have one : ∀ i, (W'.cells? 0 (a.add (i * P.cellsOf e)) (P.cellsOf e)).bind (DataW.trod enc P W' 0 sp true m e) = (W.cells? 0 (a.add (i * P.cellsOf e)) (P.cellsOf e)).bind (DataW.trod enc P W 0 (fun _ => true) true m e) := by
          intro i
          rw [cells_same (W := W) (a := a.add (i * P.cellsOf e)) (by rw [add_block]; exact hb)]
          have : DataW.trod enc P W' 0 sp true m e = DataW.trod enc P W 0 (fun _ => true) true m e := funext fun cs => flat_any n hf m cs
          rw [this]
        unfold DataW.trod at hd ⊢
        rw [ht] at hd ⊢
        simp only [one, hspb, if_true] at hd ⊢
        exact hd
      · have hc0 : cap = 0 := by omega
        have hl0 : len = 0 := by omega
        subst hc0; subst hl0
        have e1 : elems = [] := List.eq_nil_of_length_eq_zero hel
        have e2 : rest = [] := List.eq_nil_of_length_eq_zero hrl
        subst e1; subst e2
        unfold DataW.trod
        rw [ht]
        simp [MemPlace.row, hcm]

/-- A number, a truth that comes in. -/
theorem open_one {n : Nat} {t : TypeId} {c : Cl} {v : Value} {d : DataW H} {ps : List MemPlace} {sp : Nat → Bool} {held : Bool} {base : Nat} {r : Reach} {b0 : Nat} (hf : flat P n t = some [c]) (ha : isAgg P t = false) (hv : Value.okWide P W r b0 t v)
    (hd : DataW.Trod enc P W base sp held t v d ps) : ∃ x, InR [c] [x] ∧ v = encC c x ∧ ps = [] := by
  obtain ⟨fuel, h⟩ := hd
  obtain ⟨⟨l, hl, hc⟩, hp⟩ := open_flat n hf h
  have hv1 : v.cells.toList = [v] := by
    cases n with
    | zero => simp [flat] at hf
    | succ n =>
      simp only [flat] at hf
      unfold isAgg at ha
      split at hf
      · rename_i k ht
        obtain ⟨m, rfl⟩ := Go.WideShapes.okWide_int ht hv
        rfl
      · rename_i ht
        obtain ⟨m, rfl⟩ := Go.WideShapes.okWide_bool ht hv
        rfl
      · rename_i ht
        rw [ht] at ha; cases ha
      · rename_i ht
        rw [ht] at ha; cases ha
      · cases hf
  match l, hl with
  | [x], hl =>
    refine ⟨x, hl, ?_, hp⟩
    rw [hv1] at hc
    simpa [encCs] using hc
end
end Go.Ev
