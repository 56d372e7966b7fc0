/- The evaluator, part 9. -/
import Derived.OpenShut
import Derived.ChangeArms
import Derived.ChangeReads
import Derived.DataReads
import Derived.Deep.Slices
import Derived.ChangeSlices
import Derived.WideShapes
import Derived.RangeFuncFrom
import Derived.RangeFuncSeq
import Derived.RangeFuncGives
import Derived.Test.YtapfkgenachpgaaEv8
namespace Go.Ev
def flatFs (g : TypeId → Option (List Cl)) (sz : TypeId → Nat) : List Field → Nat → Option (List Cl)
  | [], _ => some []
  | f :: fs, off => match Nat.beq f.offset off with
    | true => match g f.type with
      | some cl => match Nat.beq (sz f.type) cl.length with
        | true => match flatFs g sz fs (off + cl.length) with
          | some r => some (cl ++ r)
          | none => none
        | false => none
      | none => none
    | false => none
def repl (cl : List Cl) : Nat → List Cl
  | 0 => []
  | n + 1 => cl ++ repl cl n
def flat (P : Program) : Nat → TypeId → Option (List Cl)
  | 0, _ => none
  | n + 1, t => match P.underlying t with
    | some (.int k) => some [.i k]
    | some .bool => some [.b]
    | some (.array m e) => match flat P n e with
      | some cl => match Nat.beq (P.cellsOf e) cl.length && Nat.beq (P.cellsOf t) (repl cl m).length with
        | true => some (repl cl m)
        | false => none
      | none => none
    | some (.struct fs) => match flatFs (flat P n) P.cellsOf fs.toList 0 with
      | some cl => match Nat.beq (P.cellsOf t) cl.length with
        | true => some cl
        | false => none
      | none => none
    | _ => none
def isAgg (P : Program) (t : TypeId) : Bool :=
  match P.underlying t with
  | some (.array _ _) => true
  | some (.struct _) => true
  | _ => false
theorem encCs_append : ∀ {a b : List Cl} {l m : List Int}, InR a l → encCs (a ++ b) (l ++ m) = encCs a l ++ encCs b m
  | [], b, l, m, h => by cases (show l = [] from h); simp [encCs]
  | c :: a, b, [], m, h => by cases h
  | c :: a, b, n :: l, m, h => by simp [encCs, encCs_append (b := b) (m := m) h.2]
theorem inR_append : ∀ {a b : List Cl} {l m : List Int}, InR a l → InR b m → InR (a ++ b) (l ++ m)
  | [], b, l, m, h, h' => by cases (show l = [] from h); simpa using h'
  | c :: a, b, [], m, h, _ => by cases h
  | c :: a, b, n :: l, m, h, h' => ⟨h.1, inR_append h.2 h'⟩
theorem encCs_length : ∀ {a : List Cl} {l : List Int}, (encCs a l).length = a.length
  | [], _ => rfl
  | c :: a, l => by simp [encCs, encCs_length]
theorem repl_length (cl : List Cl) : ∀ n, (repl cl n).length = n * cl.length
  | 0 => by simp [repl]
  | n + 1 => by simp [repl, repl_length cl n, Nat.succ_mul, Nat.add_comm]
theorem wrap_of_wf {k : IntKind} {n : Int} (h : (Lit.int k n).wf = true) : k.wrap n = n := by
  cases k <;> simp [Lit.wf, IntKind.wrap, IntKind.min, IntKind.max, IntKind.signed, IntKind.bits] at h ⊢ <;> (try split) <;> omega
theorem bool_cells (b : Bool) : ∃ l, InR [Cl.b] l ∧ [Value.bool b] = encCs [Cl.b] l := by
  cases b
  · exact ⟨[0], ⟨.inl rfl, rfl⟩, rfl⟩
  · exact ⟨[1], ⟨.inr rfl, rfl⟩, rfl⟩
section
variable {H : Type} {enc : TypeId × Value → H} {P : Program} {w : World} {base : Nat} {sp : Nat → Bool} {held : Bool}
theorem flatFs_open {g : TypeId → Option (List Cl)} {cs : List Value} {T : TypeId → List Value → Prop} (hg : ∀ t cl us, g t = some cl → T t us → ∃ l, InR cl l ∧ us = encCs cl l) :
    ∀ {fs : List Field} {off : Nat} {cl : List Cl}, flatFs g P.cellsOf fs off = some cl → (∀ f, f ∈ fs → T f.type ((cs.drop f.offset).take (P.cellsOf f.type))) → cs.length = off + cl.length →
      ∃ l, InR cl l ∧ cs.drop off = encCs cl l
  | [], off, cl, h, _, hl => by
    simp only [flatFs, Option.some.injEq] at h
    subst h
    refine ⟨[], rfl, ?_⟩
    simp only [encCs, List.drop_eq_nil_iff]
    simp at hl; omega
  | f :: fs, off, cl, h, ht, hl => by
    simp only [flatFs] at h
    split at h
    · rename_i ho
      have ho := Nat.eq_of_beq_eq_true ho
      split at h
      · rename_i c1 h1
        split at h
        · rename_i hs
          have hs := Nat.eq_of_beq_eq_true hs
          split at h
          · rename_i c2 h2
            cases h
            simp only [List.length_append] at hl
            obtain ⟨l1, i1, e1⟩ := hg _ _ _ h1 (ht f (by simp))
            obtain ⟨l2, i2, e2⟩ := flatFs_open hg h2 (fun f' hf => ht f' (by simp [hf])) (by omega)
            refine ⟨l1 ++ l2, inR_append i1 i2, ?_⟩
            rw [encCs_append i1, ← e1, ← e2, ho, hs]
            rw [← List.drop_drop, List.take_append_drop]
          · cases h
        · cases h
      · cases h
    · cases h
theorem arr_open {cs : List Value} {cl : List Cl} {s m : Nat} (hs : s = cl.length) (hl : cs.length = m * s) (hg : ∀ i, i < m → ∃ l, InR cl l ∧ (cs.drop (i * s)).take s = encCs cl l) :
    ∀ {j i : Nat}, i + j = m → ∃ l, InR (repl cl j) l ∧ cs.drop (i * s) = encCs (repl cl j) l
  | 0, i, h => by
    refine ⟨[], rfl, ?_⟩
    have : i = m := by omega
    subst this
    simp [repl, encCs, List.drop_eq_nil_iff, hl]
  | j + 1, i, h => by
    obtain ⟨l1, i1, e1⟩ := hg i (by omega)
    obtain ⟨l2, i2, e2⟩ := arr_open hs hl hg (j := j) (i := i + 1) (by omega)
    refine ⟨l1 ++ l2, inR_append i1 i2, ?_⟩
    simp only [repl]
    rw [encCs_append i1, ← e1, ← e2, Nat.succ_mul, ← List.drop_drop, List.take_append_drop]
theorem open_flat : ∀ (n : Nat) {t : TypeId} {cl : List Cl} {fuel : Nat} {cs : List Value} {x : DataW H × List MemPlace}, flat P n t = some cl → DataW.trod enc P w base sp held fuel t cs = some x →
    (∃ l, InR cl l ∧ cs = encCs cl l) ∧ x.2 = []
  | 0, _, _, _, _, _, h, _ => by simp [flat] at h
  | n + 1, t, cl, fuel, cs, x, h, hx => by
    simp only [flat] at h
    split at h
    · rename_i k ht
      cases h
      cases fuel with
      | zero => simp [DataW.trod] at hx
      | succ fuel =>
        unfold DataW.trod at hx
        rw [ht] at hx
        split at hx <;> simp_all
        obtain ⟨⟨rfl, hw⟩, rfl⟩ := hx
        refine ⟨⟨[_], ⟨wrap_of_wf hw, rfl⟩, ?_⟩, rfl⟩
        simp [encCs, encC, wrap_of_wf hw]
    · rename_i ht
      cases h
      cases fuel with
      | zero => simp [DataW.trod] at hx
      | succ fuel =>
        unfold DataW.trod at hx
        rw [ht] at hx
        split at hx <;> simp_all
        subst hx
        exact ⟨bool_cells _, rfl⟩
    · rename_i m e ht
      split at h
      · rename_i c1 h1
        split at h
        · rename_i hb
          cases h
          simp only [Bool.and_eq_true] at hb
          have hs := Nat.eq_of_beq_eq_true hb.1
          have hz := Nat.eq_of_beq_eq_true hb.2
          obtain ⟨xs, m', rfl, rfl, hl, hxl, hf⟩ := DataW.trod_array ht hx
          rw [hz, repl_length, ← hs] at hl
          refine ⟨?_, ?_⟩
          · have := arr_open (cs := cs) (cl := c1) (m := m) hs hl (fun i hi => by
              have h2 := hf i hi
              rw [List.getElem?_eq_getElem (by omega)] at h2
              exact (open_flat n h1 h2).1) (j := m) (i := 0) (by omega)
            simpa using this
          · simp only [List.flatMap_eq_nil_iff]
            intro y hy
            obtain ⟨i, hi, rfl⟩ := List.getElem_of_mem hy
            have h2 := hf i (by omega)
            rw [List.getElem?_eq_getElem hi] at h2
            exact (open_flat n h1 h2).2
        · cases h
      · cases h
    · rename_i fs ht
      split at h
      · rename_i c1 h1
        split at h
        · rename_i hb
          cases h
          have hz := Nat.eq_of_beq_eq_true hb
          obtain ⟨xs, m', rfl, rfl, hl, hxl, hf⟩ := DataW.trod_struct ht hx
          rw [hz] at hl
          refine ⟨?_, ?_⟩
          · have := flatFs_open (P := P) (g := flat P n) (cs := cs) (T := fun t us => ∃ y, DataW.trod enc P w base sp held m' t us = some y)
              (fun t cl us h2 ⟨y, hy⟩ => (open_flat n h2 hy).1) h1 (fun f hfm => by
                obtain ⟨i, hi, rfl⟩ := List.getElem_of_mem hfm
                have h2 := hf i _ (by rw [← Array.getElem?_toList]; exact List.getElem?_eq_getElem hi)
                refine ⟨_, h2.trans (List.getElem?_eq_getElem (by rw [hxl]; simpa using hi))⟩) (by omega)
            simpa using this
          · simp only [List.flatMap_eq_nil_iff]
            intro y hy
            obtain ⟨i, hi, rfl⟩ := List.getElem_of_mem hy
            have hi' : i < fs.size := by omega
            have h2 := hf i fs[i] (by simp [hi'])
            rw [List.getElem?_eq_getElem hi] at h2
            have hm : ∃ c, flat P n fs[i].type = some c := by
              have : ∀ {l : List Field} {off : Nat} {c : List Cl}, flatFs (flat P n) P.cellsOf l off = some c → ∀ f, f ∈ l → ∃ c, flat P n f.type = some c := by
                intro l
                induction l with
                | nil => intro _ _ _ f hf; cases hf
                | cons a r ih =>
                  intro off c h f hf
                  simp only [flatFs] at h
                  split at h
                  · split at h
                    · rename_i c' h'
                      split at h
                      · split at h
                        · rename_i c2 h2
                          rcases List.mem_cons.1 hf with rfl | hf
                          · exact ⟨_, h'⟩
                          · exact ih h2 f hf
                        · cases h
                      · cases h
                    · cases h
                  · cases h
              exact this h1 _ (by simp)
            obtain ⟨c, hc⟩ := hm
            exact (open_flat n hc h2).2
        · cases h
      · cases h
    · cases h
theorem mapM_congr' {α β : Type} {f g : α → Option β} : ∀ {l : List α}, (∀ a, a ∈ l → f a = g a) → l.mapM f = l.mapM g
  | [], _ => rfl
  | a :: l, h => by
    simp only [List.mapM_cons]
    rw [h a (by simp), mapM_congr' (l := l) (fun b hb => h b (by simp [hb]))]
theorem flatFs_mem {g : TypeId → Option (List Cl)} {sz : TypeId → Nat} : ∀ {l : List Field} {off : Nat} {c : List Cl}, flatFs g sz l off = some c → ∀ f, f ∈ l → ∃ c, g f.type = some c := by
  intro l
  induction l with
  | nil => intro _ _ _ f hf; cases hf
  | cons a r ih =>
    intro off c h f hf
    simp only [flatFs] at h
    split at h
    · split at h
      · rename_i c' h'
        split at h
        · split at h
          · rename_i c2 h2
            rcases List.mem_cons.1 hf with rfl | hf
            · exact ⟨_, h'⟩
            · exact ih h2 f hf
          · cases h
        · cases h
      · cases h
    · cases h
theorem flat_any {w' : World} {base' : Nat} {sp' : Nat → Bool} {held' : Bool} : ∀ (n : Nat) {t : TypeId} {cl : List Cl}, flat P n t = some cl → ∀ (fuel : Nat) (cs : List Value),
    DataW.trod enc P w base sp held fuel t cs = DataW.trod enc P w' base' sp' held' fuel t cs
  | 0, _, _, h => by simp [flat] at h
  | n + 1, t, cl, h => by
    intro fuel cs
    cases fuel with
    | zero => rfl
    | succ fuel =>
    simp only [flat] at h
    split at h
    · rename_i k ht
      unfold DataW.trod
      rw [ht]
      split <;> simp_all
    · rename_i ht
      unfold DataW.trod
      rw [ht]
      split <;> simp_all
    · rename_i m e ht
      split at h
      · rename_i c1 h1
        unfold DataW.trod
        rw [ht]
        simp only [flat_any (w' := w') (base' := base') (sp' := sp') (held' := held') n h1 fuel]
      · cases h
    · rename_i fs ht
      split at h
      · rename_i c1 h1
        unfold DataW.trod
        rw [ht]
        have := mapM_congr' (l := fs.toList) (f := fun f => DataW.trod enc P w base sp held fuel f.type ((cs.drop f.offset).take (P.cellsOf f.type))) (g := fun f => DataW.trod enc P w' base' sp' held' fuel f.type ((cs.drop f.offset).take (P.cellsOf f.type)))
          (fun f hf => by obtain ⟨c, hc⟩ := flatFs_mem h1 f hf; exact flat_any n hc fuel _)
        simp only [this]
      · cases h
    · cases h
theorem shut_flat {w' : World} {base' : Nat} {sp' : Nat → Bool} {held' : Bool} {n : Nat} {t : TypeId} {cl : List Cl} {v : Value} {d : DataW H} {ps : List MemPlace} (hf : flat P n t = some cl) (hd : DataW.Trod enc P w base sp held t v d ps) :
    DataW.Trod enc P w' base' sp' held' t v d ps := by
  obtain ⟨fuel, h⟩ := hd
  exact ⟨fuel, by rw [← flat_any n hf]; exact h⟩
end
end Go.Ev
namespace Go.Ev
def cellA : Value → AVal
  | .int k n => .int k n
  | .bool b => .bool b
  | _ => .nilptr
def ElOk (cl : List Cl) (f : Nat → AVal) : Prop := ∃ l, InR cl l ∧ ∀ j, j < cl.length → f j = cellA ((encCs cl l).getD j .nilFunc)
structure RowV (W : World) (cl : List Cl) (v : Value) (X : Fz) : Prop where
  z : X.z = cl.length
  ok : 0 < X.len → FzOk X W
  rel : ∀ (g : Inj) (i : Nat), g.sig.ext i = some X → VRel g (.row i) v
  els : ∀ m, m < X.len → ElOk cl (X.val m)
  len : (X.len : Int) ≤ 9223372036854775807
structure RowIn {H : Type} (enc : TypeId × Value → H) (P : Program) (W : World) (t : TypeId) (cl : List Cl) (v : Value) (d : DataW H) (ps : List MemPlace) (X : Fz) : Prop where
  z : X.z = cl.length
  ok : 0 < X.len → FzOk X W
  rel : ∀ (g : Inj) (i : Nat), g.sig.ext i = some X → VRel g (.row i) v
  els : ∀ m, m < X.len → ElOk cl (X.val m)
  len : (X.len : Int) ≤ 9223372036854775807
  again : ∀ W' : World, RowKit.Below W.heap.size W W' → ∀ sp : Nat → Bool, (∀ p ∈ ps, sp p.block = true) → DataW.Trod enc P W' 0 sp true t v d ps
theorem RowIn.row {H : Type} {enc : TypeId × Value → H} {P : Program} {W : World} {t : TypeId} {cl : List Cl} {v : Value} {d : DataW H} {ps : List MemPlace} {X : Fz} (h : RowIn enc P W t cl v d ps X) : RowV W cl v X := ⟨h.z, h.ok, h.rel, h.els, h.len⟩
theorem encCs_cell : ∀ {cl : List Cl} {l : List Int}, InR cl l → ∀ (j : Nat) (v : Value), (encCs cl l)[j]? = some v → (∀ g, VRel g (cellA v) v) ∧ v.oneCell' = true
  | [], _, _, j, v, h => by simp [encCs] at h
  | c :: cl, [], h, _, _, _ => by cases h
  | c :: cl, n :: l, hr, 0, v, h => by
    simp only [encCs, List.getElem?_cons_zero, Option.some.injEq] at h
    subst h
    cases c with
    | i k => exact ⟨fun g => .int k _, rfl⟩
    | b => exact ⟨fun g => .bool _, rfl⟩
  | c :: cl, n :: l, hr, j + 1, v, h => encCs_cell hr.2 j v (by simpa [encCs] using h)
section
variable {H : Type} {enc : TypeId × Value → H} {P : Program} {W : World}
theorem cells_same {W' : World} {a : Addr} {n : Nat} (hb : W'.heap[a.block]? = W.heap[a.block]?) : W'.cells? 0 a n = W.cells? 0 a n := by
  unfold World.cells?
  rw [if_pos (Nat.zero_le _), if_pos (Nat.zero_le _)]
  refine mapM_congr' fun i _ => ?_
  have hblk : (a.add i).block = a.block := by unfold Addr.add; split <;> rfl
  unfold World.cell?
  rw [hblk, hb]
theorem add_add' (a : Addr) (i j : Nat) : (a.add i).add j = a.add (i + j) := by
  unfold Addr.add
  by_cases hi : i = 0 <;> by_cases hj : j = 0 <;> simp [hi, hj, Nat.add_assoc]
theorem add_block (a : Addr) (i : Nat) : (a.add i).block = a.block := by unfold Addr.add; split <;> rfl
theorem open_rows {n : Nat} {t e : TypeId} {cl : List Cl} {v : Value} {d : DataW H} {ps : List MemPlace} {r : Reach} {b0 : Nat} (ht : P.underlying t = some (.slice e)) (hf : flat P n e = some cl) (hz : Nat.beq (P.cellsOf e) cl.length = true) (hpos : Nat.blt 0 cl.length = true)
    (hv : Value.okWide P W r b0 t v) (hd : DataW.Trod enc P W 0 (fun _ => true) true t v d ps) : ∃ X, RowIn enc P W t cl v d ps X := by
  have hz := Nat.eq_of_beq_eq_true hz
  have hpos : 0 < cl.length := by simpa using hpos
  obtain ⟨a0, len, cap, rfl⟩ := Go.WideShapes.okWide_slice ht hv
  obtain ⟨fuel, hd⟩ := hd
  have hcs : (Value.slice a0 len cap).cells.toList = [.slice a0 len cap] := rfl
  rw [hcs] at hd
  rcases DataW.trod_slice ht hd with ⟨h1, h2⟩ | ⟨a, len', cap', elems, rest, m, rfl, h1, h2, _, hlc, hcm, hel, hall, hsp, _⟩
  · simp only [List.cons.injEq, Value.slice.injEq, and_true] at h1
    obtain ⟨rfl, rfl, rfl⟩ := h1
    simp only [Prod.mk.injEq] at h2
    obtain ⟨rfl, rfl⟩ := h2
    refine ⟨⟨0, 0, cl.length, 0, fun _ _ => .nilptr, none⟩, rfl, fun h => absurd h (Nat.lt_irrefl 0), fun g i h => .row i _ none 0 h (Nat.le_refl _) (fun h => absurd h (Nat.lt_irrefl 0)), fun m h => absurd h (Nat.not_lt_zero m), by simp, ?_⟩
    intro W' _ sp _
    refine ⟨1, ?_⟩
    rw [hcs]
    unfold DataW.trod
    rw [ht]
    rfl
  · simp only [List.cons.injEq, Value.slice.injEq, and_true] at h1
    obtain ⟨rfl, rfl, rfl⟩ := h1
    simp only [Prod.mk.injEq] at h2
    obtain ⟨rfl, rfl⟩ := h2
    obtain ⟨hrl, hrest⟩ := hsp rfl
    have hcell : ∀ i, i < len → ∃ cs l, W.cells? 0 (a.add (i * P.cellsOf e)) (P.cellsOf e) = some cs ∧ InR cl l ∧ cs = encCs cl l := by
      intro i hi
      have h3 := hall i hi
      rw [List.getElem?_eq_getElem (by omega)] at h3
      obtain ⟨cs, h4, h5⟩ := Option.bind_eq_some_iff.1 h3
      obtain ⟨⟨l, h6, h7⟩, _⟩ := open_flat n hf h5
      exact ⟨cs, l, h4, h6, h7⟩
    have hblk : 0 < cap → a.block < W.heap.size := by
      intro hc
      have : ∃ y, (W.cells? 0 (a.add 0) (P.cellsOf e)).bind (DataW.trod enc P W 0 (fun _ => true) true m e) = some y := by
        by_cases hl : 0 < len
        · have h3 := hall 0 hl
          rw [Nat.zero_mul, List.getElem?_eq_getElem (by omega)] at h3
          exact ⟨_, h3⟩
        · have h3 := hrest 0 (by omega)
          rw [List.getElem?_eq_getElem (by omega), show len + 0 = 0 by omega, Nat.zero_mul] at h3
          exact ⟨_, h3⟩
      obtain ⟨y, hy⟩ := this
      obtain ⟨cs, h4, _⟩ := Option.bind_eq_some_iff.1 hy
      obtain ⟨_, _, h5⟩ := World.cells?_some h4
      have h6 := h5 0 (by omega)
      have hlen := (World.cells?_some h4).2.1
      rw [List.getElem?_eq_getElem (by omega)] at h6
      unfold World.cell? at h6
      split at h6
      · rename_i C e' fr hheap
        have := (Array.getElem?_eq_some_iff.1 hheap).1
        simpa [add_block] using this
      · cases h6
    have hat : 0 < len → a.spot = none ∧ ∃ C e' fr, W.heap[a.block]? = some (.cells C e' fr) ∧ ∀ i cs, i < len → W.cells? 0 (a.add (i * P.cellsOf e)) (P.cellsOf e) = some cs → ∀ j, j < P.cellsOf e → C[a.off + i * P.cellsOf e + j]? = cs[j]? := by
      intro hl
      obtain ⟨cs, l, h4, _, _⟩ := hcell 0 hl
      obtain ⟨_, hlen, h5⟩ := World.cells?_some h4
      have h6 := h5 0 (by omega)
      have hadd : (a.add (0 * P.cellsOf e)).add 0 = a := by simp [Addr.add]
      rw [hadd, List.getElem?_eq_getElem (by omega)] at h6
      unfold World.cell? at h6
      split at h6
      · rename_i C e' fr hheap
        have hsp0 : a.spot = none := by
          cases hs : a.spot with
          | none => rfl
          | some x => rw [hs] at h6; simp at h6
        refine ⟨hsp0, C, e', fr, hheap, ?_⟩
        intro i cs hi h4 j hj
        obtain ⟨_, _, h5⟩ := World.cells?_some h4
        have h7 := h5 j hj
        rw [← h7]
        rw [add_add']
        unfold World.cell?
        rw [add_block, hheap]
        have hspot : (a.add (i * P.cellsOf e + j)).spot = none := by unfold Addr.add; split; exact hsp0; rfl
        have hoff : (a.add (i * P.cellsOf e + j)).off = a.off + (i * P.cellsOf e + j) := by unfold Addr.add; split <;> simp_all
        rw [hspot, hoff]
        simp [Nat.add_assoc]
      · cases h6
    let V : Nat → Nat → AVal := fun m j => match W.cells? 0 (a.add (m * P.cellsOf e)) (P.cellsOf e) with
      | some cs => cellA (cs.getD j .nilFunc)
      | none => .nilptr
    refine ⟨⟨a.block, a.off, cl.length, len, V, none⟩, rfl, ?_, ?_, ?_, ?_, ?_⟩
    · intro hl
      have hl : 0 < len := hl
      obtain ⟨_, C, e', fr, hheap, hC⟩ := hat hl
      refine ⟨C, e', fr, hheap, ?_, fun o h => by cases h⟩
      intro m' j hm' hj
      have hm' : m' < len := hm'
      have hj : j < cl.length := hj
      obtain ⟨cs, l, h4, h6, rfl⟩ := hcell m' hm'
      have h7 := hC m' _ hm' h4 j (by omega)
      have hlt : j < (encCs cl l).length := by rw [encCs_length]; exact hj
      rw [List.getElem?_eq_getElem hlt] at h7
      have hgd : (encCs cl l).getD j .nilFunc = (encCs cl l)[j] := by simp [List.getD, hlt]
      obtain ⟨q1, q2⟩ := encCs_cell h6 j _ (List.getElem?_eq_getElem hlt)
      refine ⟨(encCs cl l)[j], ?_, fun g => ?_, q2⟩
      · show C[a.off + m' * cl.length + j]? = _
        rw [← hz]; exact h7
      · show VRel g (V m' j) _
        simp only [V, h4, hgd]
        exact q1 g
    · intro g i h
      refine .row i _ (some a) cap h hlc (fun hl => ?_)
      have hl : 0 < len := hl
      obtain ⟨hsp0, _⟩ := hat hl
      obtain ⟨b, o, s⟩ := a
      simp only at hsp0
      subst hsp0
      rfl
    · intro m' hm'
      have hm' : m' < len := hm'
      obtain ⟨cs, l, h4, h6, rfl⟩ := hcell m' hm'
      refine ⟨l, h6, fun j hj => ?_⟩
      show V m' j = _
      simp only [V, h4]
    · have : maxLen = 2 ^ 63 - 1 := rfl
      show (len : Int) ≤ _
      omega
    · intro W' hB sp hps
      refine ⟨m + 1, ?_⟩
      rw [hcs]
      by_cases hc : 0 < cap
      · have hb := hB.block a.block (hblk hc)
        have hspb : sp a.block = true := by
          have hmem : MemPlace.cell a.block a.off ∈ MemPlace.row a ((elems.length + rest.length) * P.cellsOf e) ++ (elems ++ rest).flatMap (·.2) :=
            List.mem_append_left _ (MemPlace.mem_row.2 ⟨0, by rw [hel, hrl]; exact Nat.mul_pos (by omega) (by omega), by simp⟩)
          exact hps _ hmem
        have one : ∀ i, (W'.cells? 0 (a.add (i * P.cellsOf e)) (P.cellsOf e)).bind (DataW.trod enc P W' 0 sp true m e) = (W.cells? 0 (a.add (i * P.cellsOf e)) (P.cellsOf e)).bind (DataW.trod enc P W 0 (fun _ => true) true m e) := by
          intro i
          rw [cells_same (W := W) (a := a.add (i * P.cellsOf e)) (by rw [add_block]; exact hb)]
          have : DataW.trod enc P W' 0 sp true m e = DataW.trod enc P W 0 (fun _ => true) true m e := funext fun cs => flat_any n hf m cs
          rw [this]
        unfold DataW.trod at hd ⊢
        rw [ht] at hd ⊢
        simp only [one, hspb, if_true] at hd ⊢
        exact hd
      · have hc0 : cap = 0 := by omega
        have hl0 : len = 0 := by omega
        subst hc0; subst hl0
        have e1 : elems = [] := List.eq_nil_of_length_eq_zero hel
        have e2 : rest = [] := List.eq_nil_of_length_eq_zero hrl
        subst e1; subst e2
        unfold DataW.trod
        rw [ht]
        simp [MemPlace.row, hcm]
theorem open_one {n : Nat} {t : TypeId} {c : Cl} {v : Value} {d : DataW H} {ps : List MemPlace} {sp : Nat → Bool} {held : Bool} {base : Nat} {r : Reach} {b0 : Nat} (hf : flat P n t = some [c]) (ha : isAgg P t = false) (hv : Value.okWide P W r b0 t v)
    (hd : DataW.Trod enc P W base sp held t v d ps) : ∃ x, InR [c] [x] ∧ v = encC c x ∧ ps = [] := by
  obtain ⟨fuel, h⟩ := hd
  obtain ⟨⟨l, hl, hc⟩, hp⟩ := open_flat n hf h
  have hv1 : v.cells.toList = [v] := by
    cases n with
    | zero => simp [flat] at hf
    | succ n =>
      simp only [flat] at hf
      unfold isAgg at ha
      split at hf
      · rename_i k ht
        obtain ⟨m, rfl⟩ := Go.WideShapes.okWide_int ht hv
        rfl
      · rename_i ht
        obtain ⟨m, rfl⟩ := Go.WideShapes.okWide_bool ht hv
        rfl
      · rename_i ht
        rw [ht] at ha; cases ha
      · rename_i ht
        rw [ht] at ha; cases ha
      · cases hf
  match l, hl with
  | [x], hl =>
    refine ⟨x, hl, ?_, hp⟩
    rw [hv1] at hc
    simpa [encCs] using hc
end
end Go.Ev
/-
  Contracts that are true of all arguments, as hooks that answer true.
-/
namespace Go.Ev
open Go.RowKit
def trueHook (tbl : List Ent) : HookF := fun _ kd f args =>
  match findEnt f tbl with
  | some e => match flatS e.ins args with
    | some cs => match okCells kd (cellsOf e.ins) cs with
      | true => some (.bool true)
      | false => none
    | none => none
  | none => none
theorem true_at {P : Program} {X : Ing} {tbl : List Ent}
    (h : ∀ e, e ∈ tbl → FnOk P e.f e.ins [.one .b] (fun _ => [1])) (F : List Fact) (f : FuncId) (args : List AVal) (v : AVal) (hv : trueHook tbl (symS (baseOf X F)) (kdX X) f args = some v) (hp : Hp) : CallP P (cxOf X F) f args hp (.val v) hp := by
  unfold trueHook at hv
  split at hv
  · rename_i e he
    obtain ⟨hmem, hf⟩ := findEnt_mem he
    subst hf
    have hok := h e hmem
    split at hv
    · rename_i cs hcs
      split at hv
      · rename_i hcell
        cases hv
        refine callP_below (fun g w args' hg ha => ?_) hp
        have hk : ∀ i k, kdX X i = some k → k.wrap (g.sig.ival i) = g.sig.ival i := fun i k h => hg.kd i k h
        have ea := flat_num hk e.ins args cs args'.toList hcs hcell ha
        have hin := okCells_inR hk (cellsOf e.ins) cs hcell (okCells_rel _ _ hcell)
        have hargs : args' = (encS e.ins (cs.map fun a => numS (den g.sig a))).toArray := by rw [← ea]
        rw [hargs]
        refine (hok _ hin w).mono ?_
        rintro en w' ⟨rfl, hB⟩
        exact ⟨_, rfl, .bool _, hB⟩
      · cases hv
    · cases hv
  · cases hv
end Go.Ev
namespace Go.Ev
open Go.RowKit
set_option linter.unusedVariables false
structure SegOk (P : Program) (tab : TabF) (n : Nat) (c : List Code) (s : Shape) (X : Ing) (W : Sw) : Prop where
  lt : okLT X.m X.G X.T = true
  ok : okG X.G X.m = true
  hook : ∀ F, Hooks P (cxOf X F)
  n0 : X.n = 0
  id : idOk s X.m = true
  reck : okSw (fun F => runL P (cxOf X) true X.fu (evD P (cxOf X) true X.fu 40).1 (evD P (cxOf X) true X.fu 40).2 c F (tmOf s n) ⟨s.heap, []⟩) W [] = true
  tab : X.tab = tab
  cuts : X.cuts = []
  inv : ∀ σ, X.inv σ := by exact fun _ => True.intro
  kt : okKt X = true := by exact rfl
theorem SegOk.run {P : Program} {tab : TabF} {n : Nat} {c : List Code} {s : Shape} {X : Ing} {W : Sw} (h : SegOk P tab n c s X W) (hm : P.follows .mixedOrders = true) {Q0 : SEx → Shape → Sig → Prop}
    {σ : Sig} {w0 : Fra} {a : Act} {w : World} (hA : At tab s n σ w0 a w) (hi : InsOk σ X.m X.ins) (hr : RowsOk (solve X.G X.m σ) X.rows) (hob : segsW (solve X.G X.m σ) Q0 W []) {K : Act → World → Prop} {Z : Exit → Act → World → Prop}
    (hk : ∀ e a' w' x s2 σ2, SExRel x e → Q0 x s2 σ2 → At tab s2 n σ2 w0 a' w' → Exit.then K Z e a' w') (hpin : ∀ i, w0.pin i ≠ none → pinW i W = true := by exact fun _ h => absurd rfl h) : chainK P c K Z a w := by
  have ht := h.tab
  subst ht
  exact segL hm h.lt h.ok h.hook h.n0 h.id h.reck hA hi hob hk hr (by rw [h.cuts]; exact cuts_nil) (h.inv _) h.kt hpin
theorem At.agree {tab : TabF} {s : Shape} {n q : Nat} {σ τ : Sig} {w0 : Fra} {a : Act} {w : World} (hid : idOk s q = true) (ag : Agree q σ τ) (h : At tab s n σ w0 a w) : At tab s n τ w0 a w := by
  obtain ⟨⟨g, rfl, hH, hT, hB, hP⟩, h2, h3, h4⟩ := h
  have hid' := hid
  unfold idOk at hid'
  split at hid'
  · rename_i lx ly hlx hly
    simp only [Bool.and_eq_true] at hid'
    obtain ⟨⟨i1, i2⟩, i3⟩ := hid'
    have htab : τ.tab = tab := by rw [← ag.tab]; exact hH.sig.tab
    refine ⟨⟨moved (idF s.heap.length 0) g τ, rfl, rematch hH rfl (cx0_good htab) (idF_length _ _) i3 hly (idAsg_fits ag i2) ag.ext.symm, ?_, ?_, ?_⟩, h2, h3, h4⟩
    · intro p hp
      obtain ⟨u, h1, h2⟩ := hT _ hp
      obtain ⟨mm, q1, q2⟩ := matchL_mem _ _ lx hlx rfl p.2 (List.mem_map.2 ⟨_, hp, rfl⟩)
      exact ⟨u, h1, matchV_sound (moved_moves _ g _ ag.ext.symm) p.2 p.2 mm u q1 (fun z hz => idAsg_fits ag i1 z (q2 z hz)) h2⟩
    · intro i L hi
      obtain ⟨y, sh, L', _, h2, rfl⟩ := moved_from hi
      exact hB y L' h2
    · intro i x hi
      obtain ⟨hlt, h0⟩ := hP i x hi
      have hid0 : (idF s.heap.length 0)[i]? = some (i, 0) := by simpa using idF_at (i := 0) hlt
      refine ⟨hlt, ?_⟩
      simp only [moved, hid0, h0]
      cases x <;> simp [shift]
  · cases hid'
def insAsg (kd : Nat → Option IntKind) (l : Asg) : List (Option IntKind) → Nat → Bool
  | [], _ => true
  | none :: r, i => insAsg kd l r (i + 1)
  | some k :: r, i => (match findAs l i with
    | some a => inK kd k a
    | none => false) && insAsg kd l r (i + 1)
theorem insAsg_get {kd : Nat → Option IntKind} {l : Asg} : ∀ {ins : List (Option IntKind)} {i : Nat}, insAsg kd l ins i = true → ∀ (j : Nat) (k : IntKind), ins[j]? = some (some k) → ∃ a, findAs l (i + j) = some a ∧ inK kd k a = true
  | [], _, _, j, k, hj => by simp at hj
  | none :: r, i, h, 0, k, hj => by simp at hj
  | none :: r, i, h, j + 1, k, hj => by
    have := insAsg_get (ins := r) (i := i + 1) h j k (by simpa using hj)
    rw [show i + (j + 1) = i + 1 + j by omega]; exact this
  | some k' :: r, i, h, 0, k, hj => by
    simp only [insAsg, Bool.and_eq_true] at h
    simp only [List.getElem?_cons_zero, Option.some.injEq] at hj
    subst hj
    have h1 := h.1
    split at h1
    · rename_i a ha; exact ⟨a, ha, h1⟩
    · cases h1
  | some k' :: r, i, h, j + 1, k, hj => by
    simp only [insAsg, Bool.and_eq_true] at h
    have := insAsg_get (ins := r) (i := i + 1) h.2 j k (by simpa using hj)
    rw [show i + (j + 1) = i + 1 + j by omega]; exact this
def elSig (σ : Sig) (q : Nat) (X : Fz) : Sig where
  ival := fun t => if t < q then σ.ival t else if (σ.ival 0).toNat < X.len then iOf (X.val (σ.ival 0).toNat (t - q)) else 0
  bval := fun t => if t < q then σ.bval t else if (σ.ival 0).toNat < X.len then bOf (X.val (σ.ival 0).toNat (t - q)) else false
  sval := σ.sval
  tab := σ.tab
  ext := σ.ext
theorem elSig_agree (σ : Sig) (q : Nat) (X : Fz) : Agree q σ (elSig σ q X) :=
  ⟨fun i hi => ⟨by simp [elSig, hi], by simp [elSig, hi], rfl⟩, rfl, rfl⟩
def elCells : Nat → List Cl → List AVal
  | _, [] => []
  | i, .i k :: r => .symi k i :: elCells (i + 1) r
  | i, .b :: r => .symb i :: elCells (i + 1) r
theorem elCells_length : ∀ (i : Nat) (cl : List Cl), (elCells i cl).length = cl.length
  | _, [] => rfl
  | i, .i k :: r => by simp [elCells, elCells_length (i + 1) r]
  | i, .b :: r => by simp [elCells, elCells_length (i + 1) r]
theorem elCells_get : ∀ (i : Nat) (cl : List Cl) (j : Nat) (c : AVal), (elCells i cl)[j]? = some c → ∃ z, cl[j]? = some z ∧ c = (match z with | .i k => .symi k (i + j) | .b => .symb (i + j))
  | _, [], j, c, h => by simp [elCells] at h
  | i, .i k :: r, 0, c, h => by simp [elCells] at h; exact ⟨.i k, rfl, h.symm⟩
  | i, .b :: r, 0, c, h => by simp [elCells] at h; exact ⟨.b, rfl, h.symm⟩
  | i, .i k :: r, j + 1, c, h => by
    obtain ⟨z, h1, h2⟩ := elCells_get (i + 1) r j c (by simpa [elCells] using h)
    exact ⟨z, by simpa using h1, by rw [h2, show i + 1 + j = i + (j + 1) by omega]⟩
  | i, .b :: r, j + 1, c, h => by
    obtain ⟨z, h1, h2⟩ := elCells_get (i + 1) r j c (by simpa [elCells] using h)
    exact ⟨z, by simpa using h1, by rw [h2, show i + 1 + j = i + (j + 1) by omega]⟩
theorem encCs_get : ∀ {cl : List Cl} {l : List Int}, InR cl l → ∀ (j : Nat) (z : Cl), cl[j]? = some z → ∃ n, inC z n ∧ (encCs cl l).getD j .nilFunc = encC z n
  | c :: cl, [], h, _, _, _ => by cases h
  | c :: cl, n :: l, h, 0, z, hz => by
    simp only [List.getElem?_cons_zero, Option.some.injEq] at hz
    subst hz
    exact ⟨n, h.1, rfl⟩
  | c :: cl, n :: l, h, j + 1, z, hz => by
    obtain ⟨m, h1, h2⟩ := encCs_get h.2 j z (by simpa using hz)
    exact ⟨m, h1, by simpa [encCs] using h2⟩
  | [], _, _, _, _, hz => by simp at hz
theorem el_get {cl : List Cl} {f : Nat → AVal} (h : ElOk cl f) {j : Nat} {z : Cl} (hz : cl[j]? = some z) : ∃ n, inC z n ∧ f j = (match z with | .i k => .int k n | .b => .bool (!(n == 0))) := by
  obtain ⟨l, h1, h2⟩ := h
  have hj : j < cl.length := (List.getElem?_eq_some_iff.1 hz).1
  obtain ⟨n, h3, h4⟩ := encCs_get h1 j z hz
  refine ⟨n, h3, ?_⟩
  rw [h2 j hj, h4]
  cases z with
  | i k => simp only [encC, cellA]; rw [show k.wrap n = n from h3]
  | b => rfl
theorem elSig_ins {W : World} {cl : List Cl} {v : Value} {X : Fz} (hX : RowV W cl v X) {σ : Sig} {q : Nat} {insq : List (Option IntKind)} (hq : insq.length = q) (h : InsOk σ q insq) : InsOk (elSig σ q X) (q + cl.length) (insq ++ cl.map kindC) := by
  intro i k hi hk
  by_cases hlt : i < q
  · rw [List.getElem?_append_left (by omega)] at hk
    have := h i k hlt hk
    simpa [elSig, hlt] using this
  · rw [List.getElem?_append_right (by omega), hq, List.getElem?_map] at hk
    simp only [elSig, hlt, if_false]
    split
    · rename_i hlen
      cases hz : cl[i - q]? with
      | none => rw [hz] at hk; cases hk
      | some z =>
        rw [hz] at hk
        cases z with
        | b => simp [kindC] at hk
        | i k' =>
          simp only [kindC, Option.map_some, Option.getD_some, Option.some.injEq] at hk
          subst hk
          obtain ⟨n, h1, h2⟩ := el_get (hX.els _ hlen) hz
          rw [h2]; exact h1
    · cases k <;> rfl
theorem elSig_rows {W : World} {cl : List Cl} {v : Value} {X : Fz} (hX : RowV W cl v X) {σ τ : Sig} {q : Nat} (h2q : 2 ≤ q) (ag : Agree (q + cl.length) (elSig σ q X) τ) (hx : ∀ i Y, σ.ext i = some Y → Y = X) (h0 : 0 ≤ σ.ival 0) (h1 : σ.ival 1 = X.len) :
    RowsOk τ [⟨.symi .i64 1, [(.symi .i64 0, elCells q cl)]⟩] := by
  intro i r Y hr hY
  rw [← ag.ext] at hY
  have hY := hx i Y hY
  subst hY
  have hr0 : i = 0 := by
    cases i with
    | zero => rfl
    | succ i => simp at hr
  subst hr0
  simp only [List.getElem?_cons_zero, Option.some.injEq] at hr
  subst hr
  have t0 : τ.ival 0 = σ.ival 0 := by rw [← (ag.val 0 (by omega)).1]; simp [elSig, show 0 < q by omega]
  have t1 : τ.ival 1 = σ.ival 1 := by rw [← (ag.val 1 (by omega)).1]; simp [elSig, show 1 < q by omega]
  refine ⟨by show AVal.int .i64 (τ.ival 1) = _; rw [t1, h1], fun p hp m hm hlt => ?_⟩
  simp only [List.mem_singleton] at hp
  subst hp
  have hm : τ.ival 0 = (m : Int) := by simpa [den] using hm
  rw [t0] at hm
  have hmN : (σ.ival 0).toNat = m := by omega
  refine ⟨by rw [elCells_length]; exact hX.z.symm, fun j c hc => ?_⟩
  obtain ⟨z, hz, rfl⟩ := elCells_get q cl j c hc
  have hj : j < cl.length := (List.getElem?_eq_some_iff.1 hz).1
  obtain ⟨n, h3, h4⟩ := el_get (hX.els _ hlt) hz
  have hnq : ¬ (q + j < q) := by omega
  cases z with
  | i k =>
    simp only [den]
    rw [← (ag.val (q + j) (by omega)).1]
    simp only [elSig, hnq, if_false, hmN, hlt, if_true, Nat.add_sub_cancel_left]
    rw [h4]; rfl
  | b =>
    simp only [den]
    rw [← (ag.val (q + j) (by omega)).2.1]
    simp only [elSig, hnq, if_false, hmN, hlt, if_true, Nat.add_sub_cancel_left]
    rw [h4]; rfl
end Go.Ev
namespace Go.Ev
open Go.RowKit
set_option linter.unusedVariables false
set_option linter.unusedSimpArgs false
set_option linter.unnecessarySimpa false
def numsOf (σ : Sig) (cs : List AVal) : List Int := cs.map fun a => numS (den σ a)
def dagF (tab : TabF) (m : Nat) (G : List SDef) (cs : List AVal) (l : List Int) : List Int := numsOf (solve G m (sigL tab l)) cs
end Go.Ev
namespace Go.Ev
open Go.RowKit
set_option linter.unusedVariables false
set_option linter.unusedSimpArgs false
set_option linter.unnecessarySimpa false
end Go.Ev
namespace Go.Ev
open Go.RowKit
set_option linter.unusedVariables false
set_option linter.unusedSimpArgs false
set_option linter.unnecessarySimpa false
def endsV (σ : Sig) : Sv → Option (SEx × Shape × Sig)
  | .leaf x s _ l ex => some (x, s, asgS σ (l ++ ex))
  | .leafE x s _ l ex => some (x, s, asgS σ (l ++ ex))
  | .req _ v => endsV σ v
  | .dead => none
  | .node i y n => if σ.bval i = true then endsV σ y else endsV σ n
  | .pick i k y n => if σ.ival i = k then endsV σ y else endsV σ n
def endsW (σ : Sig) : Sw → Option (SEx × Shape × Sig)
  | .run v => endsV σ v
  | .dead => none
  | .node i y n => if σ.bval i = true then endsW σ y else endsW σ n
  | .pick i k y n => if σ.ival i = k then endsW σ y else endsW σ n
theorem at_end_res {P : Program} {tab : TabF} {s : Shape} {n : Nat} {σ : Sig} {w0 : World} {a : Act} {w : World} {fn : Func} {vs : List AVal} {outs : List Sh} {l : List Int} (hm : resA P (tmOf s n) s.heap fn.results.toList = some vs) (hA : At tab s n σ w0 a w) (hd : OutOk σ outs (packA vs) l) {e : Exit} (he : SExRel .ret e ∨ SExRel .normal e) :
    bodyPost P fn (fun e w' => e = .returned (encR outs l) ∧ RowKit.Below w0.heap.size w0 w') e a w := by
  obtain ⟨g, rfl, hH, hT, _, _⟩ := hA.ex
  have hT1 : TRel g (tmOf s n) a := by
    refine ⟨by simp only [tmOf, hA.size]; exact Nat.le_refl _, ?_⟩
    intro i v hv
    exact hT _ (tmOf_get hv)
  obtain ⟨u, hres, h2⟩ := results_run hH hT1 hm
  have hu : u = encR outs l := outOk_rel hd h2
  subst hu
  have : a.defers = [] ∧ ∃ v, (results fn a.tmps).run P w = .ok v w ∧ (Ending.returned v = .returned (encR outs l) ∧ RowKit.Below w0.heap.size w0 w) := ⟨hA.defers, _, hres, rfl, hA.below.below⟩
  cases e with
  | normal => exact this
  | ret => exact this
  | _ => rcases he with he | he <;> exact he.elim
section
variable (tab : TabF) (q : Nat) (XA XB XC : Ing) (WA WB WC : Sw) (cl : List Cl) (cs : List AVal)
def loopF (X : Fz) : Nat → Sig → Sig
  | 0, σ => σ
  | k + 1, σ => match endsW (solve XB.G XB.m (elSig σ q X)) WB with
    | some (.normal, _, σ2) => loopF X k σ2
    | some (_, _, σ2) => σ2
    | none => σ
end
end Go.Ev
namespace Go.Ev
set_option linter.unusedVariables false
set_option linter.unusedSimpArgs false
set_option linter.unnecessarySimpa false
def RepV (σ : Sig) (u : Nat) : AVal → Prop
  | .int _ n => σ.ival u = n
  | .symi _ j => σ.ival u = σ.ival j
  | .bool b => σ.bval u = b
  | .symb j => σ.bval u = σ.bval j
  | _ => True
def RepOk (σ : Sig) (S : TT) : Prop := ∀ u r, S.get u = some r → RepV σ u r
theorem RepOk.put {σ : Sig} {S : TT} (h : RepOk σ S) {u : Nat} {r : AVal} (hr : RepV σ u r) : RepOk σ (S.put u r) := by
  intro v w hv
  rcases TT.get_put _ _ _ _ _ hv with ⟨rfl, rfl⟩ | ⟨_, h2⟩
  · exact hr
  · exact h v w h2
def allT : List (AVal × AVal) → Bool
  | [] => true
  | a :: l => match eqV a.1 a.2 with
    | true => match skOf a.1 with
      | some _ => allT l
      | none => false
    | false => false
theorem skOf_eqS {a : AVal} {k : SK} (h : skOf a = some k) (σ : Sig) : eqS (den σ a) (den σ a) = true := by
  cases a <;> simp only [skOf, reduceCtorEq] at h <;> simp [den, eqS]
theorem allT_spec {σ : Sig} : ∀ {l : List (AVal × AVal)}, allT l = true → (l.all fun x => eqS (den σ x.1) (den σ x.2)) = true
  | [], _ => rfl
  | (a, b) :: l, h => by
    simp only [allT] at h
    split at h
    · rename_i he
      have := eqV_eq _ _ he
      subst this
      split at h
      · rename_i k hk
        simp only [List.all_cons, skOf_eqS hk, allT_spec h, Bool.and_self]
      · cases h
    · cases h
def litNe : AVal → AVal → Bool
  | .int _ a, .int _ b => !(a == b)
  | .bool a, .bool b => !(a == b)
  | _, _ => false
def anyNe : List (AVal × AVal) → Bool
  | [] => false
  | a :: l => litNe a.1 a.2 || anyNe l
theorem anyNe_spec {σ : Sig} : ∀ {l : List (AVal × AVal)}, anyNe l = true → (l.all fun x => eqS (den σ x.1) (den σ x.2)) = false
  | [], h => by simp [anyNe] at h
  | (a, b) :: l, h => by
    simp only [anyNe, Bool.or_eq_true] at h
    simp only [List.all_cons, Bool.and_eq_false_iff]
    rcases h with h | h
    · left
      unfold litNe at h
      split at h <;> simp_all [den, eqS]
    · right; exact anyNe_spec h
def isLits : List AVal → Bool
  | [] => true
  | a :: l => isLit a && isLits l
theorem isLit_den {σ : Sig} {a : AVal} (h : isLit a = true) : den σ a = a := by
  cases a <;> simp only [isLit, Bool.false_eq_true] at h <;> rfl
theorem isLits_den {σ : Sig} : ∀ {l : List AVal}, isLits l = true → l.map (den σ) = l
  | [], _ => rfl
  | a :: l, h => by
    simp only [isLits, Bool.and_eq_true] at h
    simp only [List.map_cons, isLit_den h.1, isLits_den h.2]
def litO (v : Option AVal) : Option AVal :=
  match v with
  | some a => match isLit a with
    | true => some a
    | false => none
  | none => none
theorem litO_spec {v : Option AVal} {a : AVal} (h : litO v = some a) : v = some a ∧ isLit a = true := by
  unfold litO at h
  split at h
  · split at h
    · rename_i hl; cases h; exact ⟨rfl, hl⟩
    · cases h
  · cases h
def foldD : SDef → Option AVal
  | .bin op a b => match isLit a && isLit b with
    | true => litO (binS op a b)
    | false => match eqV a b with
      | true => match skOf a with
        | some .s => none
        | some _ => match op with
          | .eql => some (.bool true)
          | .neq => some (.bool false)
          | _ => none
        | none => none
      | false => none
  | .un op a => match isLit a with
    | true => litO (unA op a)
    | false => none
  | .conv k a => match isLit a with
    | true => litO (convS k a)
    | false => none
  | .low l => match isLits l with
    | true => litO (minA l)
    | false => none
  | .high l => match isLits l with
    | true => litO (maxA l)
    | false => none
  | .all l => match allT l with
    | true => some (.bool true)
    | false => match anyNe l with
      | true => some (.bool false)
      | false => none
  | .ite c a b => match c with
    | .bool true => some a
    | .bool false => some b
    | .symb _ => match eqV a b with
      | true => some a
      | false => none
    | _ => none
  | .sel l ix => match ix with
    | .int _ n => match l with
      | a :: r => some ((a :: r).getD n.toNat a)
      | [] => none
    | _ => none
  | _ => none
theorem foldD_spec {σ : Sig} {d : SDef} {a : AVal} (h : foldD d = some a) : evalS σ d = some (den σ a) := by
  unfold foldD at h
  split at h
  · rename_i op x y
    split at h
    · rename_i hl
      simp only [Bool.and_eq_true] at hl
      obtain ⟨h1, h2⟩ := litO_spec h
      simp only [evalS, isLit_den hl.1, isLit_den hl.2, isLit_den h2, h1]
    · split at h
      · rename_i he
        have := eqV_eq _ _ he
        subst this
        split at h
        · cases h
        · rename_i k hk1 hk
          split at h
          · cases h
            cases x <;> simp only [skOf, reduceCtorEq, Option.some.injEq] at hk <;> first
              | (simp [evalS, den, binS, intA]; done)
              | (exfalso; exact hk1 hk.symm)
          · cases h
            cases x <;> simp only [skOf, reduceCtorEq, Option.some.injEq] at hk <;> first
              | (simp [evalS, den, binS, intA]; done)
              | (exfalso; exact hk1 hk.symm)
          · cases h
        · cases h
      · cases h
  · rename_i op x
    split at h
    · rename_i hl
      obtain ⟨h1, h2⟩ := litO_spec h
      simp only [evalS, isLit_den hl, isLit_den h2, h1]
    · cases h
  · rename_i k x
    split at h
    · rename_i hl
      obtain ⟨h1, h2⟩ := litO_spec h
      simp only [evalS, isLit_den hl, isLit_den h2, h1]
    · cases h
  · rename_i l
    split at h
    · rename_i hl
      obtain ⟨h1, h2⟩ := litO_spec h
      simp only [evalS, isLits_den hl, isLit_den h2, h1]
    · cases h
  · rename_i l
    split at h
    · rename_i hl
      obtain ⟨h1, h2⟩ := litO_spec h
      simp only [evalS, isLits_den hl, isLit_den h2, h1]
    · cases h
  · rename_i l
    split at h
    · rename_i hl
      cases h
      simp only [evalS]; rw [allT_spec hl]; rfl
    · split at h
      · rename_i hl
        cases h
        simp only [evalS]; rw [anyNe_spec hl]; rfl
      · cases h
  · rename_i c x y
    split at h
    · cases h; simp [evalS, den]
    · cases h; simp [evalS, den]
    · split at h
      · rename_i he
        have := eqV_eq _ _ he
        subst this
        cases h
        simp [evalS, den]
      · cases h
    · cases h
  · rename_i l ix
    split at h
    · split at h
      · cases h; simp [evalS, den]
      · cases h
    · cases h
  · cases h
inductive KT where
  | e
  | n (l : KT) (h : Nat) (d : SDef) (a : AVal) (r : KT)
def KT.ins (d : SDef) (h : Nat) (v : AVal) : KT → KT
  | .e => .n .e h d v .e
  | .n l k x a r => match Nat.blt h k with
    | true => .n (l.ins d h v) k x a r
    | false => .n l k x a (r.ins d h v)
def KT.Ok (σ : Sig) : KT → Prop
  | .e => True
  | .n l _ d a r => l.Ok σ ∧ evalS σ d = some (den σ a) ∧ r.Ok σ
structure St where
  S : TT
  bad : Bool
structure St.Ok (σ : Sig) (x : St) : Prop where
  rep : RepOk σ x.S
  bad : x.bad = true → False
def symOf (i : Nat) (r : AVal) : Prop := (∃ k, r = .symi k i) ∨ r = .symb i ∨ r = .syms i
theorem symOf_like (a : AVal) (i : Nat) : symOf i (likeS a i) := by
  cases a <;> first | exact .inl ⟨_, rfl⟩ | exact .inr (.inl rfl) | exact .inr (.inr rfl)
theorem resS_cases (d : SDef) (i : Nat) : symOf i (resS d i) := by
  cases d with
  | bin op a b => cases op <;> first | exact symOf_like a i | exact .inr (.inl rfl)
  | un op a => exact symOf_like a i
  | conv k a => exact .inl ⟨_, rfl⟩
  | low l => cases l <;> first | exact .inr (.inl rfl) | exact symOf_like _ i
  | high l => cases l <;> first | exact .inr (.inl rfl) | exact symOf_like _ i
  | all l => exact .inr (.inl rfl)
  | text l => exact .inr (.inr rfl)
  | fn i k l => exact .inl ⟨_, rfl⟩
  | fnb i l => exact .inr (.inl rfl)
  | ite c a b => exact symOf_like a i
  | sel l a => cases l <;> first | exact .inr (.inl rfl) | exact symOf_like _ i
  | sop o l =>
    cases o <;> first | exact .inl ⟨_, rfl⟩ | exact .inr (.inr rfl) | skip
    simp only [resS]
    split
    · exact .inl ⟨_, rfl⟩
    · exact .inr (.inl rfl)
inductive Rem where
  | dead (F : List Fact)
  | leaf (x : SEx) (s : Shape) (l : Asg) (F : List Fact)
  | ob (o : Ob) (F : List Fact)
def Rem.Ok (σ : Sig) (Q : SEx → Shape → Sig → Prop) : Rem → Prop
  | .dead F => ¬ Holds σ F
  | .leaf x s l F => Holds σ F → Q x s (asgS σ l)
  | .ob o F => Holds σ F → o.Sat σ
end Go.Ev
namespace Go.Ev
open Go.RowKit
set_option linter.unusedVariables false
set_option linter.unusedSimpArgs false
set_option linter.unnecessarySimpa false
structure Mac where
  f : FuncId
  ins : List Sh
  outs : List Sh
  m : Nat
  G : List SDef
  cs : List AVal
structure MacOk (P : Program) (tab : TabF) (e : Mac) : Prop where
  fn : FnOk P e.f e.ins e.outs (dagF tab e.m e.G e.cs)
  ok : okG e.G e.m = true
  m : e.m = (cellsOf e.ins).length
  cells : okCells (kdF e.m ((cellsOf e.ins).map kindC) e.G 12) (cellsOf e.outs) e.cs = true
def EnvOk (σ τ : Sig) (env : TT) : Prop := ∀ i a, env.get i = some a → (∀ k, skOf a = some (.i k) → den σ a = .int k (τ.ival i)) ∧ (skOf a = some .b → den σ a = .bool (τ.bval i))
theorem symS_den {ng : Cx} {σ : Sig} (hg : ng.Good σ) {d : SDef} {r : AVal} (h : symS ng d = some r) : evalS σ d = some (den σ r) := by
  unfold symS at h
  split at h
  · rename_i i hi
    have hl := hg.look d i hi
    rw [hl]
    split at h
    · rename_i j hr
      rw [hr]
      split at h
      · rename_i b hb; cases h; simp only [den]; rw [hg.fact _ _ hb]
      · cases h; rfl
    · rename_i k j hr
      rw [hr]
      split at h
      · rename_i n hn; cases h; simp only [den]; rw [hg.num _ _ hn]
      · cases h; rfl
    · rename_i r' hr1 hr2; cases h; rfl
  · cases h
theorem EnvOk.put {σ τ : Sig} {env : TT} (h : EnvOk σ τ env) {i : Nat} {a : AVal} {d : SDef} (ha : den σ a = den τ (resS d i)) : EnvOk σ τ (env.put i a) := by
  intro j b hb
  rcases TT.get_put _ _ _ _ _ hb with ⟨rfl, rfl⟩ | ⟨_, h2⟩
  · rcases resS_cases d j with ⟨k, e⟩ | e | e <;> rw [e] at ha <;> refine ⟨fun k' hk => ?_, fun hk => ?_⟩ <;> cases b <;> simp only [skOf, reduceCtorEq, Option.some.injEq, SK.i.injEq] at hk <;> simp only [den, AVal.int.injEq, AVal.bool.injEq, reduceCtorEq] at ha ⊢ <;> (first | (subst hk; exact ⟨rfl, ha.2⟩) | exact ha)
  · exact h j b h2
end Go.Ev
namespace Go.Ev
open Go.RowKit
set_option linter.unusedVariables false
set_option linter.unusedSimpArgs false
set_option linter.unnecessarySimpa false
end Go.Ev
namespace Go.Ev
open Go.RowKit
set_option linter.unusedVariables false
set_option linter.unusedSimpArgs false
set_option linter.unnecessarySimpa false
def flatC : Code → List Code
  | .seq x y => flatC x ++ flatC y
  | c => [c]
theorem then_two {K J : Act → World → Prop} {Q : Exit → Act → World → Prop} : Exit.then J (Exit.then K Q) = Exit.then J Q := by
  funext e a w; cases e <;> rfl
theorem flat_wp {P : Program} : ∀ (c : Code) {K : Act → World → Prop} {Q : Exit → Act → World → Prop} {a : Act} {w : World}, chainK P (flatC c) K Q a w → c.wpIn (FR none) 0 P (Exit.then K Q) a w
  | .seq x y, K, Q, a, w, h => by
    simp only [flatC, chainK_append] at h
    refine wpIn_seq ?_
    rw [then_two]
    refine wpIn_mono (flat_wp x h) fun e a' w' he => ?_
    cases e with
    | normal => exact flat_wp y he
    | _ => exact he
  | .skip, _, _, _, _, h | .region _ _ _, _, _, _, _, h | .cond _ _ _, _, _, _, _, h | .loop _, _, _, _, _, h | .rangeFunc _ _ _ _, _, _, _, _, h
  | .exit _, _, _, _, _, h | .ret, _, _, _, _, h | .label _, _, _, _, _, h | .goto _, _, _, _, _, h | .scope _, _, _, _, _, h | .refuse _, _, _, _, _, h | .block _ _, _, _, _, _, h => h
def Stage (P : Program) (tab : TabF) (n : Nat) (W0 : Fra) (Z : Exit → Act → World → Prop) (c : List Code) (S : Shape) (q : Nat) (ins : List (Option IntKind)) (J : Sig → Prop) : Prop :=
  ∀ a w σ, At tab S n σ W0 a w → InsOk σ q ins → J σ → σ.tab = tab → chainK P c (Z .normal) Z a w
def EndZ (tab : TabF) (n : Nat) (W0 : Fra) (Z : Exit → Act → World → Prop) (x : SEx) (s : Shape) (σ : Sig) : Prop :=
  ∀ e a w, SExRel x e → At tab s n σ W0 a w → Z e a w
theorem Stage.seg {P : Program} {tab : TabF} {n : Nat} {W0 : Fra} {Z : Exit → Act → World → Prop} {c1 c2 : List Code} {S S2 : Shape} {q q2 : Nat} {ins ins2 : List (Option IntKind)} {J J2 : Sig → Prop} {X : Ing} {Wt : Sw}
    (hm : P.follows .mixedOrders = true) (s : SegOk P tab n c1 S X Wt) (aX : X.m = q ∧ X.ins = ins) (hJ : ∀ σ τ, Agree q σ τ → J σ → J τ) (hr : ∀ τ, J τ → RowsOk τ X.rows)
    (next : Stage P tab n W0 Z c2 S2 q2 ins2 J2)
    (o : ∀ τ, Eqs τ q X.G → τ.tab = tab → InsOk τ q ins → J τ → segsW τ (fun x s σ2 => (x = .normal ∧ s = S2 ∧ InsOk σ2 q2 ins2 ∧ J2 σ2 ∧ σ2.tab = tab) ∨ (x ≠ .normal ∧ EndZ tab n W0 Z x s σ2)) Wt []) (hp : ∀ i, W0.pin i ≠ none → pinW i Wt = true := by exact fun _ h => absurd rfl h) :
    Stage P tab n W0 Z (c1 ++ c2) S q ins J := by
  intro a w σ hA hi hj ht
  obtain ⟨rfl, rfl⟩ := aX
  have ag := agree_solve X.G X.m σ
  have hi2 : InsOk (solve X.G X.m σ) X.m X.ins := by
    intro i k hi' hk
    rw [← (ag.val i hi').1]; exact hi i k hi' hk
  have hj2 := hJ _ _ ag hj
  have ob := o _ (eqs_solve s.ok) (by rw [← ag.tab]; exact ht) hi2 hj2
  rw [chainK_append]
  refine s.run hm hA hi (hr _ hj2) ob ?_ hp
  rintro e a' w' x s2 σ2 hx hq hA2
  rcases hq with ⟨rfl, rfl, gi, gj, gt⟩ | ⟨hne, hz⟩
  · cases e <;> simp only [SExRel] at hx
    exact next a' w' σ2 hA2 gi gj gt
  · have := hz e a' w' hx hA2
    cases e with
    | normal => cases x <;> simp only [SExRel] at hx; exact absurd rfl hne
    | _ => exact this
theorem Stage.last {P : Program} {tab : TabF} {n : Nat} {W0 : Fra} {Z : Exit → Act → World → Prop} {c1 : List Code} {S : Shape} {q : Nat} {ins : List (Option IntKind)} {J : Sig → Prop} {X : Ing} {Wt : Sw}
    (hm : P.follows .mixedOrders = true) (s : SegOk P tab n c1 S X Wt) (aX : X.m = q ∧ X.ins = ins) (hJ : ∀ σ τ, Agree q σ τ → J σ → J τ) (hr : ∀ τ, J τ → RowsOk τ X.rows)
    (o : ∀ τ, Eqs τ q X.G → τ.tab = tab → InsOk τ q ins → J τ → segsW τ (EndZ tab n W0 Z) Wt []) (hp : ∀ i, W0.pin i ≠ none → pinW i Wt = true := by exact fun _ h => absurd rfl h) :
    Stage P tab n W0 Z c1 S q ins J := by
  intro a w σ hA hi hj ht
  obtain ⟨rfl, rfl⟩ := aX
  have ag := agree_solve X.G X.m σ
  have hi2 : InsOk (solve X.G X.m σ) X.m X.ins := by
    intro i k hi' hk
    rw [← (ag.val i hi').1]; exact hi i k hi' hk
  have hj2 := hJ _ _ ag hj
  refine s.run hm hA hi (hr _ hj2) (o _ (eqs_solve s.ok) (by rw [← ag.tab]; exact ht) hi2 hj2) ?_ hp
  rintro e a' w' x s2 σ2 hx hz hA2
  have := hz e a' w' hx hA2
  cases e with
  | normal => exact this
  | _ => exact this
theorem Stage.loop {P : Program} {tab : TabF} {n : Nat} {W0 : Fra} {Z : Exit → Act → World → Prop} {b : Code} {id : Nat} {c2 : List Code} {S S2 : Shape} {q q2 : Nat} {ins ins2 : List (Option IntKind)} {J J2 : Sig → Prop} {X : Ing} {Wt : Sw} {μ : Sig → Nat}
    (hm : P.follows .mixedOrders = true) (s : SegOk P tab n [b] S X Wt) (aX : X.m = q ∧ X.ins = ins) (hJ : ∀ σ τ, Agree q σ τ → J σ → J τ) (hμ : ∀ σ τ, Agree q σ τ → μ σ = μ τ) (hr : ∀ τ, J τ → RowsOk τ X.rows)
    (next : Stage P tab n W0 Z c2 S2 q2 ins2 J2)
    (o : ∀ τ, Eqs τ q X.G → τ.tab = tab → InsOk τ q ins → J τ → segsW τ (fun x s σ2 => (x = .normal ∧ s = S ∧ InsOk σ2 q ins ∧ J σ2 ∧ σ2.tab = tab ∧ μ σ2 < μ τ) ∨ (x = .exit id ∧ s = S2 ∧ InsOk σ2 q2 ins2 ∧ J2 σ2 ∧ σ2.tab = tab)
      ∨ (x = .ret ∧ EndZ tab n W0 Z x s σ2)) Wt []) (hp : ∀ i, W0.pin i ≠ none → pinW i Wt = true := by exact fun _ h => absurd rfl h) :
    Stage P tab n W0 Z (.block id (.loop b) :: c2) S q ins J := by
  intro a w σ hA hi hj ht
  obtain ⟨rfl, rfl⟩ := aX
  show (Code.block id (.loop b)).wpIn (FR none) 0 P _ a w
  refine wpIn_block ?_
  let Inv : Nat → Act → World → Prop := fun k a w => ∃ σ, At tab S n σ W0 a w ∧ InsOk σ X.m X.ins ∧ J σ ∧ σ.tab = tab ∧ k = μ σ
  refine loop_at (Inv := Inv) ?_ (μ σ) a w ⟨σ, hA, hi, hj, ht, rfl⟩
  clear hA hi hj ht a w
  rintro k a w ⟨σ, hA, hi, hj, ht, rfl⟩
  have ag := agree_solve X.G X.m σ
  have hi2 : InsOk (solve X.G X.m σ) X.m X.ins := by
    intro i k hi' hk
    rw [← (ag.val i hi').1]; exact hi i k hi' hk
  have hj2 := hJ _ _ ag hj
  have ob := o _ (eqs_solve s.ok) (by rw [← ag.tab]; exact ht) hi2 hj2
  have := s.run hm hA hi (hr _ hj2) ob (K := fun a' w' => ∃ k', k' < μ σ ∧ Inv k' a' w')
    (Z := fun e a' w' => (e = .normal ∧ ∃ k', k' < μ σ ∧ Inv k' a' w') ∨ (e ≠ .normal ∧ Exit.inBlock id (Exit.then (chainK P c2 (Z .normal) Z) Z) e a' w')) ?_ hp
  · simp only [chainK] at this
    refine wpIn_mono this fun e a' w' h => ?_
    cases e with
    | normal => exact .inl ⟨rfl, h⟩
    | _ => exact h
  · rintro e a' w' x s3 σ3 hx hq0 hA3
    rcases hq0 with ⟨rfl, rfl, gins, gj, gtab, glt⟩ | ⟨rfl, rfl, gins, gk, gtab⟩ | ⟨rfl, gd⟩
    · cases e <;> simp only [SExRel] at hx
      exact ⟨μ σ3, by rw [hμ _ _ ag]; exact glt, σ3, hA3, gins, gj, gtab, rfl⟩
    · cases e <;> simp only [SExRel] at hx
      subst hx
      refine .inr ⟨by simp, ?_⟩
      simp only [Exit.inBlock, if_true]
      exact next a' w' σ3 hA3 gins gk gtab
    · cases e <;> simp only [SExRel] at hx
      exact .inr ⟨by simp, gd .ret a' w' trivial hA3⟩
theorem endZ_res {P : Program} {tab : TabF} {n : Nat} {fn : Func} {W0 : World} {outs : List Sh} {l : List Int} {SE : Shape} {vs : List AVal} {σ : Sig} {x : SEx} (hSE : resA P (tmOf SE n) SE.heap fn.results.toList = some vs) (hd : OutOk σ outs (packA vs) l) (hx : x = .ret ∨ x = .normal) :
    EndZ tab n W0 (bodyPost P fn (fun e W' => e = .returned (encR outs l) ∧ Below W0.heap.size W0 W')) x SE σ := by
  intro e a w hxe hA
  refine at_end_res hSE hA hd ?_
  rcases hx with rfl | rfl
  · exact .inl hxe
  · exact .inr hxe
end Go.Ev
namespace Go.Ev
open Go.RowKit
set_option linter.unusedVariables false
set_option linter.unusedSimpArgs false
set_option linter.unnecessarySimpa false
def BlkZ (P : Program) (id : Nat) (c2 : List Code) (Z : Exit → Act → World → Prop) : Exit → Act → World → Prop :=
  Exit.inBlock id (Exit.then (chainK P c2 (Z .normal) Z) Z)
def LoopZ (P : Program) (id : Nat) (c2 : List Code) (Z : Exit → Act → World → Prop) (I : Nat → Act → World → Prop) (k : Nat) : Exit → Act → World → Prop :=
  fun e a w => (e = .normal ∧ ∃ k', k' < k ∧ I k' a w) ∨ (e ≠ .normal ∧ BlkZ P id c2 Z e a w)
def InvS (tab : TabF) (n : Nat) (W0 : Fra) (S : Shape) (q : Nat) (ins : List (Option IntKind)) (J : Sig → Prop) (μ : Sig → Nat) : Nat → Act → World → Prop :=
  fun k a w => ∃ σ, At tab S n σ W0 a w ∧ InsOk σ q ins ∧ J σ ∧ σ.tab = tab ∧ k = μ σ
theorem Stage.block {P : Program} {tab : TabF} {n : Nat} {W0 : Fra} {Z : Exit → Act → World → Prop} {id : Nat} {c : Code} {c2 : List Code} {S : Shape} {q : Nat} {ins : List (Option IntKind)} {J : Sig → Prop}
    (h : Stage P tab n W0 (BlkZ P id c2 Z) (flatC c) S q ins J) : Stage P tab n W0 Z (.block id c :: c2) S q ins J := by
  intro a w σ hA hi hj ht
  show (Code.block id c).wpIn (FR none) 0 P _ a w
  refine wpIn_block ?_
  have := flat_wp _ (h a w σ hA hi hj ht)
  rwa [then_self] at this
theorem EndZ.blk {P : Program} {tab : TabF} {n : Nat} {W0 : Fra} {Z : Exit → Act → World → Prop} {id : Nat} {c2 : List Code} {S : Shape} {q : Nat} {ins : List (Option IntKind)} {J : Sig → Prop} {x : SEx} {σ : Sig}
    (h : Stage P tab n W0 Z c2 S q ins J) (hx : x = .normal ∨ x = .exit id) (hi : InsOk σ q ins) (hj : J σ) (ht : σ.tab = tab) : EndZ tab n W0 (BlkZ P id c2 Z) x S σ := by
  intro e a w hxe hA
  have := h a w σ hA hi hj ht
  rcases hx with rfl | rfl
  · cases e <;> simp only [SExRel] at hxe
    exact this
  · cases e <;> simp only [SExRel] at hxe
    subst hxe
    simp only [BlkZ, Exit.inBlock, if_true]
    exact this
theorem EndZ.ret {P : Program} {tab : TabF} {n : Nat} {W0 : Fra} {Z : Exit → Act → World → Prop} {id : Nat} {c2 : List Code} {s : Shape} {σ : Sig}
    (h : EndZ tab n W0 Z .ret s σ) : EndZ tab n W0 (BlkZ P id c2 Z) .ret s σ := by
  intro e a w hxe hA
  have := h e a w hxe hA
  cases e <;> simp only [SExRel] at hxe
  exact this
theorem EndZ.loop {P : Program} {tab : TabF} {n : Nat} {W0 : Fra} {Z : Exit → Act → World → Prop} {id : Nat} {c2 : List Code} {S : Shape} {q : Nat} {ins : List (Option IntKind)} {J : Sig → Prop} {μ : Sig → Nat} {k : Nat} {σ : Sig}
    (hi : InsOk σ q ins) (hj : J σ) (ht : σ.tab = tab) (hk : μ σ < k) : EndZ tab n W0 (LoopZ P id c2 Z (InvS tab n W0 S q ins J μ) k) .normal S σ := by
  intro e a w hxe hA
  cases e <;> simp only [SExRel] at hxe
  exact .inl ⟨rfl, μ σ, hk, σ, hA, hi, hj, ht, rfl⟩
theorem EndZ.out {P : Program} {tab : TabF} {n : Nat} {W0 : Fra} {Z : Exit → Act → World → Prop} {id : Nat} {c2 : List Code} {I : Nat → Act → World → Prop} {k : Nat} {x : SEx} {s : Shape} {σ : Sig}
    (hx : x ≠ .normal) (h : EndZ tab n W0 (BlkZ P id c2 Z) x s σ) : EndZ tab n W0 (LoopZ P id c2 Z I k) x s σ := by
  intro e a w hxe hA
  refine .inr ⟨?_, h e a w hxe hA⟩
  rintro rfl
  cases x <;> simp only [SExRel] at hxe
  exact hx rfl
def RowHd (X : Fz) (σ : Sig) : Prop := (σ.ext = fun i => if i = 0 then some X else none) ∧ σ.ival 1 = X.len ∧ 0 ≤ σ.ival 0 ∧ σ.ival 0 ≤ X.len
def RowEl (q : Nat) (cl : List Cl) (X : Fz) (τ : Sig) : Prop := ∃ σ, Agree (q + cl.length) (elSig σ q X) τ ∧ RowHd X σ
theorem RowHd.agree {X : Fz} {q : Nat} (h2 : 2 ≤ q) {σ τ : Sig} (ag : Agree q σ τ) (h : RowHd X σ) : RowHd X τ := by
  unfold RowHd at h ⊢
  rw [← ag.ext, ← (ag.val 0 (by omega)).1, ← (ag.val 1 (by omega)).1]; exact h
theorem ext_one {X Y : Fz} {σ : Sig} (h : σ.ext = fun i => if i = 0 then some X else none) {i : Nat} (hi : σ.ext i = some Y) : Y = X := by
  rw [h] at hi
  have hi : (if i = 0 then some X else none) = some Y := hi
  split at hi
  · cases hi; rfl
  · cases hi
theorem rows_len {X : Fz} {σ : Sig} {k : Nat} (he : σ.ext = fun i => if i = 0 then some X else none) (hk : σ.ival k = X.len) : RowsOk σ [⟨.symi .i64 k, []⟩] := by
  intro i r Y hr hY
  have := ext_one he hY
  subst this
  have hr0 : i = 0 := by
    cases i with
    | zero => rfl
    | succ i => simp at hr
  subst hr0
  simp only [List.getElem?_cons_zero, Option.some.injEq] at hr
  subst hr
  exact ⟨by show AVal.int .i64 _ = _; rw [hk], fun p hp => by cases hp⟩
theorem RowEl.rows {W : World} {cl : List Cl} {v : Value} {X : Fz} (hX : RowV W cl v X) {q : Nat} (h2 : 2 ≤ q) {τ : Sig} (h : RowEl q cl X τ) : RowsOk τ [⟨.symi .i64 1, [(.symi .i64 0, elCells q cl)]⟩] := by
  obtain ⟨σ, ag, he, h1, h0, _⟩ := h
  exact elSig_rows hX h2 ag (fun i Y h => ext_one he h) h0 h1
theorem RowEl.hd {cl : List Cl} {X : Fz} {q : Nat} (h2 : 2 ≤ q) {τ : Sig} (h : RowEl q cl X τ) : RowHd X τ := by
  obtain ⟨σ, ag, he, h1, h0, h3⟩ := h
  refine ⟨by rw [← ag.ext]; exact he, ?_, ?_, ?_⟩
  · rw [← (ag.val 1 (by omega)).1]; simp [elSig, show 1 < q by omega, h1]
  · rw [← (ag.val 0 (by omega)).1]; simp [elSig, show 0 < q by omega, h0]
  · rw [← (ag.val 0 (by omega)).1]; simp [elSig, show 0 < q by omega, h3]
theorem Agree.trans' {q : Nat} {σ τ υ : Sig} (h1 : Agree q σ τ) (h2 : Agree q τ υ) : Agree q σ υ :=
  ⟨fun i hi => ⟨(h1.val i hi).1.trans (h2.val i hi).1, (h1.val i hi).2.1.trans (h2.val i hi).2.1, (h1.val i hi).2.2.trans (h2.val i hi).2.2⟩, h1.tab.trans h2.tab, h1.ext.trans h2.ext⟩
theorem RowEl.agree {cl : List Cl} {X : Fz} {q : Nat} {σ τ : Sig} (ag : Agree (q + cl.length) σ τ) (h : RowEl q cl X σ) : RowEl q cl X τ := by
  obtain ⟨υ, ag0, hd⟩ := h
  exact ⟨υ, ag0.trans' ag, hd⟩
theorem Stage.cond {P : Program} {tab : TabF} {n : Nat} {W0 : Fra} {Z : Exit → Act → World → Prop} {t k : Nat} {x y : Code} {c2 : List Code} {S : Shape} {q : Nat} {ins : List (Option IntKind)} {J : Sig → Prop}
    (hm : (t, .symb k) ∈ S.t)
    (h1 : Stage P tab n W0 Z (flatC x ++ c2) S q ins (fun σ => J σ ∧ σ.bval k = true)) (h2 : Stage P tab n W0 Z (flatC y ++ c2) S q ins (fun σ => J σ ∧ σ.bval k = false)) :
    Stage P tab n W0 Z (.cond (.tmp t) x y :: c2) S q ins J := by
  intro a w σ hA hi hj ht
  show (Code.cond (.tmp t) x y).wpIn (FR none) 0 P _ a w
  have he : a.eval (.tmp t) = .bool (σ.bval k) := by
    obtain ⟨g, rfl, _, hT, _, _⟩ := hA.ex
    obtain ⟨u, k1, k2⟩ := hT _ hm
    cases k2
    show a.tmps.getD t undef = _
    rw [Array.getD_eq_getD_getElem?, k1]; rfl
  refine wpIn_cond_split he (fun hb => ?_) (fun hb => ?_)
  · have := h1 a w σ hA hi ⟨hj, hb⟩ ht
    rw [chainK_append] at this
    exact flat_wp _ this
  · have := h2 a w σ hA hi ⟨hj, hb⟩ ht
    rw [chainK_append] at this
    exact flat_wp _ this
def allInt : List Cl → Bool
  | [] => true
  | .i _ :: r => allInt r
  | .b :: _ => false
theorem allInt_get : ∀ {cl : List Cl}, allInt cl = true → ∀ (j : Nat) (c : Cl), cl[j]? = some c → ∃ k, c = .i k
  | .i k :: r, h, 0, c, hc => by simp at hc; exact ⟨k, hc.symm⟩
  | .i k :: r, h, j + 1, c, hc => allInt_get (cl := r) h j c (by simpa using hc)
  | [], _, j, c, hc => by simp at hc
  | .b :: _, h, _, _, _ => by simp [allInt] at h
theorem RowsOk.same {σ τ : Sig} {q : Nat} {cl : List Cl} (h : RowsOk σ [⟨.symi .i64 1, [(.symi .i64 0, elCells q cl)]⟩]) (hb : allInt cl = true) (he : τ.ext = σ.ext) (h0 : τ.ival 0 = σ.ival 0) (h1 : τ.ival 1 = σ.ival 1) (hk : ∀ j, j < cl.length → τ.ival (q + j) = σ.ival (q + j)) :
    RowsOk τ [⟨.symi .i64 1, [(.symi .i64 0, elCells q cl)]⟩] := by
  intro i r X hr hX
  have hr0 : i = 0 := by
    cases i with
    | zero => rfl
    | succ i => simp at hr
  subst hr0
  obtain ⟨g1, g2⟩ := h 0 _ X rfl (by rw [← he]; exact hX)
  simp only [List.getElem?_cons_zero, Option.some.injEq] at hr
  subst hr
  refine ⟨by show AVal.int .i64 (τ.ival 1) = _; rw [h1]; exact g1, fun p hp m hm hlt => ?_⟩
  simp only [List.mem_singleton] at hp
  subst hp
  obtain ⟨g3, g4⟩ := g2 (.symi .i64 0, elCells q cl) (List.mem_singleton.2 rfl) m (by rw [← hm]; show AVal.int .i64 (σ.ival 0) = AVal.int .i64 (τ.ival 0); rw [h0]) hlt
  refine ⟨g3, fun j c hc => ?_⟩
  rw [← g4 j c hc]
  obtain ⟨z, hz, rfl⟩ := elCells_get q cl j c hc
  obtain ⟨k, rfl⟩ := allInt_get hb j z hz
  show AVal.int k (τ.ival (q + j)) = AVal.int k (σ.ival (q + j))
  rw [hk j (List.getElem?_eq_some_iff.1 hz).1]
end Go.Ev
namespace Go.Ev
open Go.RowKit
set_option linter.unusedVariables false
set_option linter.unusedSimpArgs false
set_option linter.unnecessarySimpa false
structure AsOk (P : Program) (fAs : FuncId) (tF tPP : TypeId) (blk : Nat) (OK : Obj → Prop) : Prop where
  nil : ∀ (t : Value) (w : World), Calls P fAs #[.nilIface, t] w fun e w' => e = .returned (.bool false) ∧ w' = w
  hit : ∀ (p t : Addr) (old : Value) (w : World) (O : Obj), OK O → w.heap[blk]? = some O → w.cell? t = some old → w.frozen? t = false →
    Calls P fAs #[.iface tF (.pointer (some p)), .iface tPP (.pointer (some t))] w fun e w' => e = .returned (.bool true) ∧ ∃ w1, Below w.heap.size w w1 ∧ (Instr.storeAt tF (.pointer (some t)) (.pointer (some p))).run P w1 = .ok () w'
structure IsOk (P : Program) (fIs : FuncId) (tF tE : TypeId) : Prop where
  hit : ∀ (p : Addr) (c c' : Int) (w : World), w.cell? p = some (.int .i64 c') →
    Calls P fIs #[.iface tF (.pointer (some p)), .iface tE (.int .i64 c)] w fun e w' => e = .returned (.bool (c' == c)) ∧ Below w.heap.size w w'
structure SegOkI (P : Program) (tab : TabF) (n : Nat) (c : List Code) (s : Shape) (X : Ing) (W : Sw) : Prop where
  lt : okLT X.m X.G X.T = true
  ok : okG X.G X.m = true
  hook : ∀ F, Hooks P (cxOf X F)
  n0 : X.n = 0
  id : idOk s X.m = true
  reck : okSw (fun F => runL P (cxOf X) true X.fu (evD P (cxOf X) true X.fu 40).1 (evD P (cxOf X) true X.fu 40).2 c F (tmOf s n) ⟨s.heap, []⟩) W [] = true
  tab : X.tab = tab
  cuts : X.cuts = []
  kt : okKt X = true := by exact rfl
theorem Stage.segI {P : Program} {tab : TabF} {n : Nat} {W0 : Fra} {Z : Exit → Act → World → Prop} {c1 c2 : List Code} {S S2 : Shape} {q q2 : Nat} {ins ins2 : List (Option IntKind)} {J J2 : Sig → Prop} {X : Ing} {Wt : Sw}
    (hm : P.follows .mixedOrders = true) (s : SegOkI P tab n c1 S X Wt) (aX : X.m = q ∧ X.ins = ins) (hJ : ∀ σ τ, Agree q σ τ → J σ → J τ) (hr : ∀ τ, J τ → RowsOk τ X.rows) (hinv : ∀ τ, J τ → X.inv τ)
    (next : Stage P tab n W0 Z c2 S2 q2 ins2 J2)
    (o : ∀ τ, Eqs τ q X.G → τ.tab = tab → InsOk τ q ins → J τ → segsW τ (fun x s σ2 => (x = .normal ∧ s = S2 ∧ InsOk σ2 q2 ins2 ∧ J2 σ2 ∧ σ2.tab = tab) ∨ (x ≠ .normal ∧ EndZ tab n W0 Z x s σ2)) Wt []) (hp : ∀ i, W0.pin i ≠ none → pinW i Wt = true := by exact fun _ h => absurd rfl h) :
    Stage P tab n W0 Z (c1 ++ c2) S q ins J := by
  intro a w σ hA hi hj ht
  obtain ⟨rfl, rfl⟩ := aX
  have ag := agree_solve X.G X.m σ
  have hi2 : InsOk (solve X.G X.m σ) X.m X.ins := by
    intro i k hi' hk
    rw [← (ag.val i hi').1]; exact hi i k hi' hk
  have hj2 := hJ _ _ ag hj
  have ob := o _ (eqs_solve s.ok) (by rw [← ag.tab]; exact ht) hi2 hj2
  rw [chainK_append]
  have ht' := s.tab
  subst ht'
  refine segL hm s.lt s.ok s.hook s.n0 s.id s.reck hA hi ob ?_ (hr _ hj2) (by rw [s.cuts]; exact cuts_nil) (hinv _ hj2) s.kt hp
  rintro e a' w' x s2 σ2 hx hq hA2
  rcases hq with ⟨rfl, rfl, gi, gj, gt⟩ | ⟨hne, hz⟩
  · cases e <;> simp only [SExRel] at hx
    exact next a' w' σ2 hA2 gi gj gt
  · have := hz e a' w' hx hA2
    cases e with
    | normal => cases x <;> simp only [SExRel] at hx; exact absurd rfl hne
    | _ => exact this
end Go.Ev
namespace Go.Ev
open Go.RowKit
set_option linter.unusedVariables false
set_option linter.unusedSimpArgs false
structure LitE where
  f : FuncId
  args : List AVal
  b : Bool
def orMh (a b : MHookF) : MHookF := fun look f args hp =>
  match a look f args hp with
  | some r => some r
  | none => b look f args hp
end Go.Ev
namespace Go.Ev
open Go.RowKit
set_option linter.unusedVariables false
set_option linter.unusedSimpArgs false
mutual
def noSymV : AVal → Bool
  | .bool _ => true
  | .int _ _ => true
  | .float _ _ => true
  | .str _ => true
  | .nilptr => true
  | .ptr _ _ => true
  | .nilslice => true
  | .slice _ _ _ _ _ => true
  | .nilmap => true
  | .nilfunc => true
  | .func _ f c => noSymVs f && noSymVs c
  | .niliface => true
  | .iface _ v => noSymV v
  | .agg l => noSymVs l
  | .tuple l => noSymVs l
  | _ => false
def noSymVs : List AVal → Bool
  | [] => true
  | a :: l => noSymV a && noSymVs l
end
def litB : Blk → Bool
  | .cells c _ => noSymVs c
  | _ => false
def litBs : List Blk → Bool
  | [] => true
  | k :: l => litB k && litBs l
structure MemE where
  f : FuncId
  args : List AVal
  v : AVal
  bs : List Blk
end Go.Ev
namespace Go.Ev
open Go.RowKit
set_option linter.unusedVariables false
set_option linter.unusedSimpArgs false
structure MemF where
  f : FuncId
  args : List AVal
  pre : List Blk
  v : AVal
  post : List Blk
mutual
def uV (m : List Nat) : AVal → AVal → List Nat
  | .ptr b _, .ptr x _ => match Nat.beq b m.length with
    | true => m ++ [x]
    | false => m
  | .slice b _ _ _ _, .slice x _ _ _ _ => match Nat.beq b m.length with
    | true => m ++ [x]
    | false => m
  | .lsl b _ _ _ _, .lsl x _ _ _ _ => match Nat.beq b m.length with
    | true => m ++ [x]
    | false => m
  | .func _ f c, .func _ f' c' => uL (uL m f f') c c'
  | .iface _ v, .iface _ v' => uV m v v'
  | .agg l, .agg l' => uL m l l'
  | .tuple l, .tuple l' => uL m l l'
  | _, _ => m
def uL (m : List Nat) : List AVal → List AVal → List Nat
  | a :: l, b :: l' => uL (uV m a b) l l'
  | _, _ => m
end
def uH (H : List Blk) : List Blk → Nat → List Nat → List Nat
  | [], _, m => m
  | .cells c _ :: ks, i, m => match m[i]? with
    | some x => match H[x]? with
      | some (.cells c' _) => uH H ks (i + 1) (uL m c c')
      | _ => m
    | none => m
  | .lst _ _ _ _ :: ks, i, m => uH H ks (i + 1) m
  | _ :: _, _, m => m
def zs : List Nat → Bm
  | [] => []
  | x :: l => (x, 0) :: zs l
theorem zs_get : ∀ {l : List Nat} {i x sh : Nat}, (zs l)[i]? = some (x, sh) → l[i]? = some x ∧ sh = 0
  | [], i, x, sh, h => by simp [zs] at h
  | y :: l, 0, x, sh, h => by
    simp [zs] at h
    obtain ⟨rfl, rfl⟩ := h
    exact ⟨rfl, rfl⟩
  | y :: l, i + 1, x, sh, h => by simpa using zs_get (l := l) (i := i) (by simpa [zs] using h)
theorem zs_of {l : List Nat} : ∀ {i x : Nat}, l[i]? = some x → (zs l)[i]? = some (x, 0) := by
  induction l with
  | nil => intro i x h; simp at h
  | cons y l ih =>
    intro i x h
    cases i with
    | zero => simp at h; simp [zs, h]
    | succ i => simpa [zs] using ih (by simpa using h)
theorem zs_len : ∀ (l : List Nat), (zs l).length = l.length
  | [] => rfl
  | _ :: l => by simp [zs, zs_len l]
def rho (m : List Nat) (n : Nat) (i : Nat) : Nat := match m[i]? with
  | some x => x
  | none => i - m.length + n
def wr : List Nat → List Blk → List Blk → List Blk
  | [], bs, H => H ++ bs
  | _ :: _, [], H => H
  | x :: m, b :: bs, H => wr m bs (H.set x b)
theorem wr_len : ∀ (m : List Nat) (bs H : List Blk), (wr m bs H).length = H.length + (bs.length - m.length)
  | [], bs, H => by simp [wr]
  | _ :: _, [], H => by simp [wr]
  | x :: m, b :: bs, H => by simp [wr, wr_len m bs]
theorem wr_new : ∀ (m : List Nat) (bs H : List Blk) (i : Nat), m.length ≤ bs.length → (wr m bs H)[H.length + i]? = bs[m.length + i]?
  | [], bs, H, i, _ => by rw [wr, List.getElem?_append_right (by omega)]; simp
  | _ :: _, [], H, i, h => by simp at h
  | x :: m, b :: bs, H, i, h => by
    have := wr_new m bs (H.set x b) i (by simpa using h)
    simp only [List.length_set] at this
    simp only [wr, this, List.length_cons]
    rw [show m.length + 1 + i = (m.length + i) + 1 by omega]; simp
theorem wr_old : ∀ (m : List Nat) (bs H : List Blk) (i : Nat), i < H.length → i ∉ m → (wr m bs H)[i]? = H[i]?
  | [], bs, H, i, h, _ => by simp [wr, List.getElem?_append_left h]
  | _ :: _, [], H, i, h, _ => by simp [wr]
  | x :: m, b :: bs, H, i, h, hn => by
    simp only [List.mem_cons, not_or] at hn
    rw [wr, wr_old m bs _ i (by simpa using h) hn.2]
    exact List.getElem?_set_ne (fun e => hn.1 e.symm)
theorem wr_at : ∀ (m : List Nat) (bs H : List Blk) (j x : Nat), m.length ≤ bs.length → noTwice (zs m) = true → (∀ y, y ∈ m → y < H.length) → m[j]? = some x → (wr m bs H)[x]? = bs[j]?
  | [], bs, H, j, x, _, _, _, h => by simp at h
  | _ :: _, [], H, j, x, h, _, _, _ => by simp at h
  | y :: m, b :: bs, H, j, x, hl, hn, hd, h => by
    simp only [zs, noTwice, Bool.and_eq_true] at hn
    cases j with
    | zero =>
      simp at h; subst h
      have hnot : y ∉ m := fun hm => by
        obtain ⟨i, hi⟩ := List.mem_iff_getElem?.1 hm
        exact notIn_spec hn.1 i y 0 (zs_of hi) rfl
      have hlt := hd y (by simp)
      rw [wr, wr_old m bs _ y (by simpa using hlt) hnot]
      simp [hlt]
    | succ j =>
      rw [wr, wr_at m bs _ j x (by simpa using hl) hn.2 (fun z hz => by simpa using hd z (by simp [hz])) (by simpa using h)]
      simp
def litGs : List Blk → Bool
  | [] => true
  | .gone :: l => litGs l
  | k :: l => litB k && litGs l
structure LitRel (g : Inj) (H : List Blk) (w : World) : Prop where
  dom : ∀ i L, g i = some L → i < H.length ∧ L.blk < w.heap.size
  inj : ∀ i j L M, g i = some L → g j = some M → L.blk = M.blk → Live H i → Live H j → i = j
  blk : ∀ i k, H[i]? = some k → k ≠ .gone → ∃ L, g i = some L ∧ BRel g w k L
def sgz (tab : Nat → List Int → Int) : Sig := ⟨fun _ => 0, fun _ => false, fun _ => .empty, tab, fun _ => none⟩
def MemFOk (P : Program) (tab : Nat → List Int → Int) (e : MemF) : Prop :=
  noSymV e.v = true ∧ litBs e.pre = true ∧ litGs e.post = true ∧ e.pre.length ≤ e.post.length ∧ ∀ (w : World) (l : Nat → Option Loc) (args' : Array Value), LitRel ⟨l, sgz tab, fun _ => none⟩ e.pre w → LRel ⟨l, sgz tab, fun _ => none⟩ e.args args'.toList → Calls P e.f args' w fun en w' =>
    ∃ (u : Value) (g1 : Inj), en = .returned u ∧ VRel g1 e.v u ∧ LitRel g1 e.post w' ∧ (∀ i, i < e.pre.length → g1 i = l i) ∧ (∀ i L, e.pre.length ≤ i → g1 i = some L → w.heap.size ≤ L.blk ∨ ∃ j M, l j = some M ∧ M.blk = L.blk) ∧
      w.heap.size ≤ w'.heap.size ∧ (∀ b, b < w.heap.size → (∀ i L, l i = some L → L.blk ≠ b) → w'.heap[b]? = w.heap[b]?) ∧ w'.os = w.os ∧ w'.tape = w.tape ∧ w'.output = w.output
def AllF (P : Program) (tab : Nat → List Int → Int) (l : List MemF) : Prop := ∀ e, e ∈ l → MemFOk P tab e
theorem AllF.nil {P : Program} {tab : Nat → List Int → Int} : AllF P tab [] := fun e h => by cases h
theorem AllF.cons {P : Program} {tab : Nat → List Int → Int} {e : MemF} {l : List MemF} (h : MemFOk P tab e) (h' : AllF P tab l) : AllF P tab (e :: l) := fun x hx => (List.mem_cons.1 hx).elim (fun q => q ▸ h) (h' x)
theorem AllF.append {P : Program} {tab : Nat → List Int → Int} {l m : List MemF} (h : AllF P tab l) (h' : AllF P tab m) : AllF P tab (l ++ m) := fun x hx => (List.mem_append.1 hx).elim (h x) (h' x)
end Go.Ev
namespace Go.Ev
open Go.RowKit
set_option linter.unusedVariables false
set_option linter.unusedSimpArgs false
structure EnvS (σ τ : Sig) (env : TT) : Prop where
  i : ∀ i a k, env.get i = some a → skOf a = some (.i k) → den σ a = .int k (τ.ival i)
  b : ∀ i a, env.get i = some a → skOf a = some .b → den σ a = .bool (τ.bval i)
  s : ∀ i a, env.get i = some a → skOf a = some .s → den σ a = .str (τ.sval i)
def sbA (env : TT) (a : AVal) : Option AVal :=
  match a with
  | .symi k i => match env.get i with
    | some v => match skOf v with
      | some (.i k') => match decide (k = k') with
        | true => some v
        | false => none
      | _ => none
    | none => none
  | .symb i => match env.get i with
    | some v => match skOf v with
      | some .b => some v
      | _ => none
    | none => none
  | .syms i => match env.get i with
    | some v => match skOf v with
      | some .s => some v
      | _ => none
    | none => none
  | .int _ _ => some a
  | .bool _ => some a
  | .str _ => some a
  | _ => none
theorem sbA_ok {σ τ : Sig} {env : TT} (h : EnvS σ τ env) {a v : AVal} (he : sbA env a = some v) : den σ v = den τ a := by
  unfold sbA at he
  split at he
  · rename_i k i
    split at he
    · rename_i w hw
      split at he
      · rename_i k' hk
        split at he
        · rename_i hd
          simp only [decide_eq_true_eq] at hd
          subst hd
          cases he
          exact h.i i _ _ hw hk
        · cases he
      · cases he
    · cases he
  · rename_i i
    split at he
    · rename_i w hw
      split at he
      · rename_i hk; cases he; exact h.b i _ hw hk
      · cases he
    · cases he
  · rename_i i
    split at he
    · rename_i w hw
      split at he
      · rename_i hk; cases he; exact h.s i _ hw hk
      · cases he
    · cases he
  · cases he; rfl
  · cases he; rfl
  · cases he; rfl
  · cases he
def sbL (env : TT) : List AVal → Option (List AVal)
  | [] => some []
  | a :: l => match sbA env a with
    | some b => match sbL env l with
      | some m => some (b :: m)
      | none => none
    | none => none
theorem sbL_ok {σ τ : Sig} {env : TT} (h : EnvS σ τ env) : ∀ {l m : List AVal}, sbL env l = some m → m.map (den σ) = l.map (den τ)
  | [], m, he => by simp only [sbL, Option.some.injEq] at he; subst he; rfl
  | a :: l, m, he => by
    simp only [sbL] at he
    split at he
    · rename_i b hb
      split at he
      · rename_i m' hm
        cases he
        simp only [List.map_cons, sbA_ok h hb, sbL_ok h hm]
      · cases he
    · cases he
def sbP (env : TT) : List (AVal × AVal) → Option (List (AVal × AVal))
  | [] => some []
  | a :: l => match sbA env a.1 with
    | some b => match sbA env a.2 with
      | some c => match sbP env l with
        | some m => some ((b, c) :: m)
        | none => none
      | none => none
    | none => none
theorem sbP_ok {σ τ : Sig} {env : TT} (h : EnvS σ τ env) : ∀ {l m : List (AVal × AVal)}, sbP env l = some m → (m.all fun x => eqS (den σ x.1) (den σ x.2)) = (l.all fun x => eqS (den τ x.1) (den τ x.2))
  | [], m, he => by simp only [sbP, Option.some.injEq] at he; subst he; rfl
  | a :: l, m, he => by
    simp only [sbP] at he
    split at he
    · rename_i b hb
      split at he
      · rename_i c hc
        split at he
        · rename_i m' hm
          cases he
          simp only [List.all_cons, sbA_ok h hb, sbA_ok h hc, sbP_ok h hm]
        · cases he
      · cases he
    · cases he
def sbD (env : TT) (d : SDef) : Option SDef :=
  match d with
  | .bin o a b => match sbA env a, sbA env b with
    | some a, some b => some (.bin o a b)
    | _, _ => none
  | .un o a => match sbA env a with
    | some a => some (.un o a)
    | none => none
  | .conv k a => match sbA env a with
    | some a => some (.conv k a)
    | none => none
  | .low l => match sbL env l with
    | some l => some (.low l)
    | none => none
  | .high l => match sbL env l with
    | some l => some (.high l)
    | none => none
  | .all l => match sbP env l with
    | some l => some (.all l)
    | none => none
  | .fn i k l => match sbL env l with
    | some l => some (.fn i k l)
    | none => none
  | .fnb i l => match sbL env l with
    | some l => some (.fnb i l)
    | none => none
  | .ite c a b => match sbA env c, sbA env a, sbA env b with
    | some c, some a, some b => some (.ite c a b)
    | _, _, _ => none
  | .sop o l => match sbL env l with
    | some l => some (.sop o l)
    | none => none
  | .text l => match sbL env l with
    | some l => some (.text l)
    | none => none
  | _ => none
theorem sbD_ok {σ τ : Sig} {env : TT} (h : EnvS σ τ env) (ht : σ.tab = τ.tab) {d e : SDef} (he : sbD env d = some e) : evalS σ e = evalS τ d := by
  have num : ∀ (ρ : Sig) (l : List AVal), (l.map fun a => numS (den ρ a)) = (l.map (den ρ)).map numS := fun ρ l => by simp
  have byt : ∀ (ρ : Sig) (l : List AVal), (l.map fun a => byteS (den ρ a)) = (l.map (den ρ)).map byteS := fun ρ l => by simp
  cases d <;> simp only [sbD, reduceCtorEq] at he
  · split at he
    · rename_i a b ha hb; cases he; simp only [evalS, sbA_ok h ha, sbA_ok h hb]
    · cases he
  · split at he
    · rename_i a ha; cases he; simp only [evalS, sbA_ok h ha]
    · cases he
  · split at he
    · rename_i a ha; cases he; simp only [evalS, sbA_ok h ha]
    · cases he
  · split at he
    · rename_i a ha; cases he; simp only [evalS, sbL_ok h ha]
    · cases he
  · split at he
    · rename_i a ha; cases he; simp only [evalS, sbL_ok h ha]
    · cases he
  · split at he
    · rename_i a ha; cases he; simp only [evalS]; rw [sbP_ok h ha]
    · cases he
  · split at he
    · rename_i a ha; cases he; simp only [evalS]; rw [byt, byt, sbL_ok h ha]
    · cases he
  · split at he
    · rename_i a ha; cases he; simp only [evalS]; rw [num, num, sbL_ok h ha, ht]
    · cases he
  · split at he
    · rename_i a ha; cases he; simp only [evalS]; rw [num, num, sbL_ok h ha, ht]
    · cases he
  · split at he
    · rename_i a b c ha hb hc; cases he; simp only [evalS, sbA_ok h ha, sbA_ok h hb, sbA_ok h hc]
    · cases he
  · split at he
    · rename_i a ha; cases he; simp only [evalS, sbL_ok h ha, ht]
    · cases he
def stepZ (look : SDef → Option AVal) (env : TT) (d : SDef) : Option AVal :=
  match condD d with
  | some _ => none
  | none =>
    let gen : Option AVal := match sbD env d with
      | some e => match foldD e with
        | some a => some a
        | none => look e
      | none => none
    match d with
    | .ite c a b => match sbA env c with
      | some (.bool true) => sbA env a
      | some (.bool false) => sbA env b
      | _ => gen
    | _ => gen
def expandZ (look : SDef → Option AVal) : List SDef → Nat → TT → TT
  | [], _, env => env
  | d :: G, i, env => match stepZ look env d with
    | some a => expandZ look G (i + 1) (env.put i a)
    | none => expandZ look G (i + 1) env
theorem stepZ_ok {σ τ : Sig} {env : TT} {look : SDef → Option AVal} (h : EnvS σ τ env) (ht : σ.tab = τ.tab) (hl : ∀ d r, look d = some r → evalS σ d = some (den σ r)) {d : SDef} {i : Nat} (he : condD d = none → evalS τ d = some (den τ (resS d i))) {a : AVal} (hs : stepZ look env d = some a) : den σ a = den τ (resS d i) := by
  unfold stepZ at hs
  split at hs
  · cases hs
  · rename_i hc
    have he := he hc
    have gen : ∀ b, (match sbD env d with
      | some e => match foldD e with
        | some a => some a
        | none => look e
      | none => none) = some b → den σ b = den τ (resS d i) := by
      intro b hb
      split at hb
      · rename_i e hd
        have h1 := sbD_ok h ht hd
        split at hb
        · rename_i a' ha
          cases hb
          have := foldD_spec (σ := σ) ha
          rw [h1, he, Option.some.injEq] at this
          exact this.symm
        · have := hl _ _ hb
          rw [h1, he, Option.some.injEq] at this
          exact this.symm
      · cases hb
    simp only at hs
    split at hs
    · rename_i c x y
      split at hs
      · rename_i hcc
        have h1 := sbA_ok h hcc
        simp only [evalS] at he
        rw [← h1] at he
        simp only [den, cond_true, Option.some.injEq] at he
        rw [sbA_ok h hs]
        exact he
      · rename_i hcc
        have h1 := sbA_ok h hcc
        simp only [evalS] at he
        rw [← h1] at he
        simp only [den, cond_false, Option.some.injEq] at he
        rw [sbA_ok h hs]
        exact he
      · exact gen _ hs
    · exact gen _ hs
theorem EnvS.put {σ τ : Sig} {env : TT} (h : EnvS σ τ env) {i : Nat} {a : AVal} {d : SDef} (ha : den σ a = den τ (resS d i)) : EnvS σ τ (env.put i a) := by
  refine ⟨fun j b k hb hk => ?_, fun j b hb hk => ?_, fun j b hb hk => ?_⟩ <;> rcases TT.get_put _ _ _ _ _ hb with ⟨rfl, rfl⟩ | ⟨_, h2⟩
  · obtain ⟨⟨n, hn⟩, _⟩ := sk_i hk σ
    rcases resS_cases d j with ⟨k', e⟩ | e | e <;> rw [e, hn] at ha <;> simp only [den, AVal.int.injEq, reduceCtorEq] at ha
    rw [hn, ha.2]
  · exact h.i j b k h2 hk
  · obtain ⟨⟨n, hn⟩, _⟩ := sk_b hk σ
    rcases resS_cases d j with ⟨k', e⟩ | e | e <;> rw [e, hn] at ha <;> simp only [den, AVal.bool.injEq, reduceCtorEq] at ha
    rw [hn, ha]
  · exact h.b j b h2 hk
  · obtain ⟨⟨n, hn⟩, _⟩ := sk_s hk σ
    rcases resS_cases d j with ⟨k', e⟩ | e | e <;> rw [e, hn] at ha <;> simp only [den, AVal.str.injEq, reduceCtorEq] at ha
    rw [hn, ha]
  · exact h.s j b h2 hk
theorem expandZ_ok {σ τ : Sig} {look : SDef → Option AVal} (ht : σ.tab = τ.tab) (hl : ∀ d r, look d = some r → evalS σ d = some (den σ r)) : ∀ {G : List SDef} {i : Nat} {env : TT}, EnvS σ τ env → (∀ k d, G[k]? = some d → condD d = none → evalS τ d = some (den τ (resS d (i + k)))) → EnvS σ τ (expandZ look G i env)
  | [], _, _, h, _ => h
  | d :: G, i, env, h, he => by
    have hr : ∀ k e, G[k]? = some e → condD e = none → evalS τ e = some (den τ (resS e (i + 1 + k))) := fun k e hk hc => by
      have := he (k + 1) e (by simpa using hk) hc
      rw [show i + 1 + k = i + (k + 1) by omega]; exact this
    simp only [expandZ]
    split
    · rename_i a ha
      exact expandZ_ok ht hl (h.put (stepZ_ok h ht hl (he 0 d rfl) ha)) hr
    · exact expandZ_ok ht hl h hr
mutual
def sbV (env : TT) (ρ : Nat → Nat) : AVal → Option AVal
  | .ptr b o => some (.ptr (ρ b) o)
  | .slice b o l c e => some (.slice (ρ b) o l c e)
  | .func fn f c => match sbVs env ρ f, sbVs env ρ c with
    | some f, some c => some (.func fn f c)
    | _, _ => none
  | .iface t v => match sbV env ρ v with
    | some v => some (.iface t v)
    | none => none
  | .agg l => match sbVs env ρ l with
    | some l => some (.agg l)
    | none => none
  | .tuple l => match sbVs env ρ l with
    | some l => some (.tuple l)
    | none => none
  | .symi k i => sbA env (.symi k i)
  | .symb i => sbA env (.symb i)
  | .syms i => sbA env (.syms i)
  | .int k n => some (.int k n)
  | .bool b => some (.bool b)
  | .str s => some (.str s)
  | .nilptr => some .nilptr
  | .nilslice => some .nilslice
  | .nilmap => some .nilmap
  | .nilfunc => some .nilfunc
  | .niliface => some .niliface
  | .row i => some (.row i)
  | .crow i => some (.crow i)
  | .rptr i ix j => match sbA env ix with
    | some ix => some (.rptr i ix j)
    | none => none
  | .junk => some .junk
  | .lsl b z ap off n => match sbA env off with
    | some off => match sbA env n with
      | some n => some (.lsl (ρ b) z ap off n)
      | none => none
    | none => none
  | .lptr b z ix j => match sbA env ix with
    | some ix => some (.lptr (ρ b) z ix j)
    | none => none
  | _ => none
def sbVs (env : TT) (ρ : Nat → Nat) : List AVal → Option (List AVal)
  | [] => some []
  | a :: l => match sbV env ρ a, sbVs env ρ l with
    | some b, some m => some (b :: m)
    | _, _ => none
end
theorem sb_rel {g g2 : Inj} {env : TT} (he : EnvS g2.sig g.sig env) {a a' : AVal} {v : Value} (h : sbA env a = some a') (hv : VRel g a v) : VRel g2 a' v := by
  have hd := sbA_ok he h
  unfold sbA at h
  split at h
  · cases hv; exact den_rel.1 (by rw [hd]; exact .int _ _)
  · cases hv; exact den_rel.1 (by rw [hd]; exact .bool _)
  · cases hv; exact den_rel.1 (by rw [hd]; exact .str _)
  · cases h; cases hv; exact .int _ _
  · cases h; cases hv; exact .bool _
  · cases h; cases hv; exact .str _
  · cases h
mutual
theorem sbV_rel {ρ : Nat → Nat} {g g2 : Inj} {env : TT} (hl : ∀ i L, g i = some L → g2 (ρ i) = some L) (he : EnvS g2.sig g.sig env) (hx : g2.sig.ext = g.sig.ext) : ∀ {a a' : AVal} {v : Value}, VRel g a v → sbV env ρ a = some a' → VRel g2 a' v
  | _, _, _, .bool b, h => by simp only [sbV, Option.some.injEq] at h; subst h; exact .bool b
  | _, _, _, .int k m, h => by simp only [sbV, Option.some.injEq] at h; subst h; exact .int k m
  | _, _, _, .float k m, h => by simp [sbV] at h
  | _, _, _, .str s, h => by simp only [sbV, Option.some.injEq] at h; subst h; exact .str s
  | _, _, _, .nilptr, h => by simp only [sbV, Option.some.injEq] at h; subst h; exact .nilptr
  | _, _, _, .ptr b off L h1, h => by simp only [sbV, Option.some.injEq] at h; subst h; exact .ptr _ off L (hl _ _ h1)
  | _, _, _, .nilslice, h => by simp only [sbV, Option.some.injEq] at h; subst h; exact .nilslice
  | _, _, _, .slice b off len cap ex o' cap' L h1 h0 h2 h3, h => by simp only [sbV, Option.some.injEq] at h; subst h; exact .slice _ off len cap ex o' cap' L (hl _ _ h1) h0 h2 h3
  | _, _, _, .nilmap, h => by simp only [sbV, Option.some.injEq] at h; subst h; exact .nilmap
  | _, _, _, .map _ _ _, h => by simp [sbV] at h
  | _, _, _, .nilfunc, h => by simp only [sbV, Option.some.injEq] at h; subst h; exact .nilfunc
  | _, _, _, .func fn f c f' c' h1 h2, h => by
    simp only [sbV] at h
    split at h
    · rename_i f2 c2 e1 e2; cases h; exact .func fn _ _ f' c' (sbVs_rel hl he hx h1 e1) (sbVs_rel hl he hx h2 e2)
    · cases h
  | _, _, _, .niliface, h => by simp only [sbV, Option.some.injEq] at h; subst h; exact .niliface
  | _, _, _, .iface t v v' h1, h => by
    simp only [sbV] at h
    split at h
    · rename_i v2 e; cases h; exact .iface t _ v' (sbV_rel hl he hx h1 e)
    · cases h
  | _, _, _, .agg l l' h1, h => by
    simp only [sbV] at h
    split at h
    · rename_i v2 e; cases h; exact .agg _ l' (sbVs_rel hl he hx h1 e)
    · cases h
  | _, _, _, .tuple l l' h1, h => by
    simp only [sbV] at h
    split at h
    · rename_i v2 e; cases h; exact .tuple _ l' (sbVs_rel hl he hx h1 e)
    · cases h
  | _, _, _, .symi k i, h => sb_rel he (by simpa only [sbV] using h) (.symi k i)
  | _, _, _, .symb i, h => sb_rel he (by simpa only [sbV] using h) (.symb i)
  | _, _, _, .syms i, h => sb_rel he (by simpa only [sbV] using h) (.syms i)
  | _, _, _, .row i X ao cap h1 h2 h3, h => by simp only [sbV, Option.some.injEq] at h; subst h; exact .row i X ao cap (by rw [hx]; exact h1) h2 h3
  | _, _, _, .crow i X ao h1 h2, h => by simp only [sbV, Option.some.injEq] at h; subst h; exact .crow i X ao (by rw [hx]; exact h1) h2
  | _, _, _, .rptr i ix j m X h1 h2 h3, h => by
    simp only [sbV] at h
    split at h
    · rename_i ix2 e; cases h; exact .rptr i _ j m X (by rw [hx]; exact h1) (by rw [sbA_ok he e]; exact h2) h3
    · cases h
  | _, _, _, .yield _ _ _, h => by simp [sbV] at h
  | _, _, _, .junk v h1, h => by simp only [sbV, Option.some.injEq] at h; subst h; exact .junk v h1
  | _, _, _, .geq _ _ _, h => by simp [sbV] at h
  | _, _, _, .lsl b z ap off n o m cap ao h1 h2 h3 h4 h5, h => by
    simp only [sbV] at h
    split at h
    · rename_i off2 e1
      split at h
      · rename_i n2 e2
        cases h
        refine .lsl _ z ap _ _ o m cap ao (by rw [sbA_ok he e1]; exact h1) (by rw [sbA_ok he e2]; exact h2) h3 h4 fun hm => ?_
        obtain ⟨L, a1, a2, a3⟩ := h5 hm
        exact ⟨L, hl _ _ a1, a2, a3⟩
      · cases h
    · cases h
  | _, _, _, .lptr b z ix j m L h1 h2 h3 h4, h => by
    simp only [sbV] at h
    split at h
    · rename_i ix2 e1
      cases h
      exact .lptr _ z _ j m L (hl _ _ h1) (by rw [sbA_ok he e1]; exact h2) h3 h4
    · cases h
theorem sbVs_rel {ρ : Nat → Nat} {g g2 : Inj} {env : TT} (hl : ∀ i L, g i = some L → g2 (ρ i) = some L) (he : EnvS g2.sig g.sig env) (hx : g2.sig.ext = g.sig.ext) : ∀ {a a' : List AVal} {v : List Value}, LRel g a v → sbVs env ρ a = some a' → LRel g2 a' v
  | _, _, _, .nil, h => by simp only [sbVs, Option.some.injEq] at h; subst h; exact .nil
  | _, _, _, .cons a v l m h1 h2, h => by
    simp only [sbVs] at h
    split at h
    · rename_i b m2 e1 e2; cases h; exact .cons _ v _ m (sbV_rel hl he hx h1 e1) (sbVs_rel hl he hx h2 e2)
    · cases h
end
theorem sbVs_get {env : TT} {ρ : Nat → Nat} : ∀ {l m : List AVal}, sbVs env ρ l = some m → ∀ (i : Nat) (a : AVal), m[i]? = some a → ∃ b, l[i]? = some b ∧ sbV env ρ b = some a
  | [], m, h, i, a, hi => by simp only [sbVs, Option.some.injEq] at h; subst h; simp at hi
  | b :: l, m, h, i, a, hi => by
    simp only [sbVs] at h
    split at h
    · rename_i b' m' e1 e2
      cases h
      cases i with
      | zero => simp at hi; subst hi; exact ⟨b, rfl, e1⟩
      | succ i => simpa using sbVs_get e2 i a (by simpa using hi)
    · cases h
theorem sbVs_len {env : TT} {ρ : Nat → Nat} : ∀ {l m : List AVal}, sbVs env ρ l = some m → m.length = l.length
  | [], m, h => by simp only [sbVs, Option.some.injEq] at h; subst h; rfl
  | b :: l, m, h => by
    simp only [sbVs] at h
    split at h
    · rename_i b' m' e1 e2; cases h; simp [sbVs_len e2]
    · cases h
theorem rowAt_any {g g2 : Inj} {cl : List (Option IntKind)} {S : ByteArray} {m j : Nat} {v : Value} (h : VRel g (rowAtD cl S m j) v) : VRel g2 (rowAtD cl S m j) v := by
  rcases cellD_like cl j (S.data.toList.drop (m * rsz cl)) with ⟨k', n3, _, e3⟩ | ⟨_, b', e3⟩
  · have : rowAtD cl S m j = .int k' n3 := e3
    rw [this] at h ⊢
    cases h; exact .int _ _
  · have : rowAtD cl S m j = .bool b' := e3
    rw [this] at h ⊢
    cases h; exact .bool _
def sbB (env : TT) (ρ : Nat → Nat) : Blk → Option Blk
  | .cells c e => match sbVs env ρ c with
    | some c => some (.cells c e)
    | none => none
  | .lst s n cl e => match sbA env s with
    | some s => match sbA env n with
      | some n => some (.lst s n cl e)
      | none => none
    | none => none
  | .gone => some .gone
  | _ => none
def sbBs (env : TT) (ρ : Nat → Nat) : List Blk → Option (List Blk)
  | [] => some []
  | k :: l => match sbB env ρ k with
    | some k => match sbBs env ρ l with
      | some l => some (k :: l)
      | none => none
    | none => none
theorem sbBs_get {env : TT} {ρ : Nat → Nat} : ∀ {l m : List Blk}, sbBs env ρ l = some m → ∀ (i : Nat) (k : Blk), m[i]? = some k → ∃ b, l[i]? = some b ∧ sbB env ρ b = some k
  | [], m, h, i, k, hi => by simp only [sbBs, Option.some.injEq] at h; subst h; simp at hi
  | b :: l, m, h, i, k, hi => by
    simp only [sbBs] at h
    split at h
    · rename_i k' e1
      split at h
      · rename_i m' e2
        cases h
        cases i with
        | zero => simp at hi; subst hi; exact ⟨b, rfl, e1⟩
        | succ i => simpa using sbBs_get e2 i k (by simpa using hi)
      · cases h
    · cases h
theorem sbBs_len {env : TT} {ρ : Nat → Nat} : ∀ {l m : List Blk}, sbBs env ρ l = some m → m.length = l.length
  | [], m, h => by simp only [sbBs, Option.some.injEq] at h; subst h; rfl
  | b :: l, m, h => by
    simp only [sbBs] at h
    split at h
    · split at h
      · rename_i m' e2; cases h; simp [sbBs_len e2]
      · cases h
    · cases h
theorem sbB_gone {env : TT} {ρ : Nat → Nat} {b k : Blk} (h : sbB env ρ b = some k) : b = .gone ↔ k = .gone := by
  unfold sbB at h
  split at h
  · split at h <;> cases h
    simp
  · split at h
    · split at h <;> cases h
      simp
    · cases h
  · cases h; simp
  · cases h
theorem sbB_loop {env : TT} {ρ : Nat → Nat} {b : Blk} {la : LoopA} (h : sbB env ρ b = some (.loop la)) : False := by
  unfold sbB at h
  split at h
  · split at h <;> cases h
  · split at h
    · split at h <;> cases h
    · cases h
  · cases h
  · cases h
theorem sbB_none {ρ : Nat → Nat} {g g2 : Inj} {env : TT} (he : EnvS g2.sig g.sig env) {b k : Blk} (h : sbB env ρ b = some k) (hn : NoneL g b) : NoneL g2 k := by
  obtain ⟨s, n, cl, e, rfl, d1, d2⟩ := hn
  simp only [sbB] at h
  split at h
  · rename_i s' hs
    split at h
    · rename_i n' hn'
      cases h
      exact ⟨s', n', cl, e, rfl, by rw [sbA_ok he hs]; exact d1, by rw [sbA_ok he hn']; exact d2⟩
    · cases h
  · cases h
theorem sbB_rel {ρ : Nat → Nat} {g g2 : Inj} {env : TT} {w : World} {L : Loc} (hl : ∀ i L, g i = some L → g2 (ρ i) = some L) (he : EnvS g2.sig g.sig env) (hx : g2.sig.ext = g.sig.ext) {b k : Blk} (h : sbB env ρ b = some k) (hb : BRel g w b L) : BRel g2 w k L := by
  unfold sbB at h
  split at h
  · split at h
    · rename_i c e c' hc
      cases h
      obtain ⟨C, fr, k1, k2, k3, k4, k5⟩ := hb
      refine ⟨C, fr, k1, k2, k3, by rw [sbVs_len hc]; exact k4, ?_⟩
      intro j a hj
      obtain ⟨a0, h0, h1⟩ := sbVs_get hc _ _ hj
      obtain ⟨z, y1, y2, y3⟩ := k5 j a0 h0
      exact ⟨z, y1, sbV_rel hl he hx y2 h1, y3⟩
    · cases h
  · rename_i s n cl e
    split at h
    · rename_i s' hs
      split at h
      · rename_i n' hn'
        cases h
        obtain ⟨S, N, C, fr, b1, b2, b3, b4, b5, b6, b7, b8⟩ := hb
        refine ⟨S, N, C, fr, by rw [sbA_ok he hs]; exact b1, by rw [sbA_ok he hn']; exact b2, b3, b4, b5, b6, b7, fun m j hm hj => ?_⟩
        obtain ⟨v, v1, v2, v3⟩ := b8 m j hm hj
        exact ⟨v, v1, rowAt_any v2, v3⟩
      · cases h
    · cases h
  · cases h; trivial
  · cases h
def cellsBs : List Blk → Bool
  | [] => true
  | .cells _ _ :: l => cellsBs l
  | .lst _ _ _ _ :: l => cellsBs l
  | _ :: _ => false
def cellsGs : List Blk → Bool
  | [] => true
  | .cells _ _ :: l => cellsGs l
  | .lst _ _ _ _ :: l => cellsGs l
  | .gone :: l => cellsGs l
  | _ :: _ => false
theorem cellsBs_get : ∀ {l : List Blk}, cellsBs l = true → ∀ (i : Nat) (k : Blk), l[i]? = some k → (∃ c e, k = .cells c e) ∨ ∃ s n cl e, k = .lst s n cl e
  | [], _, i, k, hi => by simp at hi
  | b :: l, h, 0, k, hi => by
    simp at hi; subst hi
    cases b <;> simp [cellsBs] at h ⊢
  | b :: l, h, i + 1, k, hi => by
    refine cellsBs_get (l := l) ?_ i k (by simpa using hi)
    cases b <;> simp [cellsBs] at h ⊢ <;> exact h
structure SymF where
  f : FuncId
  m : Nat
  ins : List (Option IntKind)
  args : List AVal
  pre : List Blk
  pcs : List SDef
  G : List SDef
  v : AVal
  post : List Blk
  xs : List AVal := []
structure SymFOk (P : Program) (tab : TabF) (inv : Sig → Prop) (e : SymF) : Prop where
  len : e.pre.length ≤ e.post.length
  cpre : cellsBs e.pre = true
  cpost : cellsGs e.post = true
  ok : okG e.G e.m = true
  call : ∀ (g : Inj) (w : World) (args' : Array Value), g.sig.tab = tab → inv g.sig → Eqs g.sig e.m e.G → InsOk g.sig e.m e.ins → (∀ d, d ∈ e.pcs → evalS g.sig d = some (.bool true)) → HRel (cx0 tab) g e.pre w → LRel g e.args args'.toList →
    Calls P e.f args' w fun en w' => ∃ (u : Value) (g1 : Inj), en = .returned u ∧ g1.sig = g.sig ∧ VRel g1 e.v u ∧ HRel (cx0 tab) g1 e.post w' ∧ (∀ i, i < e.pre.length → g1 i = g i) ∧ (∀ i L, e.pre.length ≤ i → g1 i = some L → w.heap.size ≤ L.blk ∨ ∃ j M, g j = some M ∧ M.blk = L.blk) ∧
      w.heap.size ≤ w'.heap.size ∧ (∀ b, b < w.heap.size → (∀ i L, g i = some L → L.blk ≠ b) → w'.heap[b]? = w.heap[b]?) ∧ w'.os = w.os ∧ w'.tape = w.tape ∧ w'.output = w.output
def asgLt (m : Nat) : Asg → Bool
  | [] => true
  | p :: l => Nat.blt p.1 m && asgLt m l
theorem asgLt_mem {m : Nat} : ∀ {l : Asg}, asgLt m l = true → ∀ p, p ∈ l → p.1 < m
  | [], _, p, hp => by cases hp
  | q :: l, h, p, hp => by
    simp only [asgLt, Bool.and_eq_true] at h
    rcases List.mem_cons.1 hp with rfl | hp
    · simpa using h.1
    · exact asgLt_mem h.2 p hp
def envF (e : SymF) (l : Asg) : TT := putsT (TT.skel (e.m + e.G.length) 12 0 1) l
def pcOk (look : SDef → Option AVal) (env : TT) : List SDef → Bool
  | [] => true
  | d :: l => (match sbD env d with
    | some e => match foldD e with
      | some (.bool true) => true
      | some _ => false
      | none => match look e with
        | some (.bool true) => true
        | _ => false
    | none => false) && pcOk look env l
theorem pcOk_spec {σ τ : Sig} {env : TT} {look : SDef → Option AVal} (h : EnvS σ τ env) (ht : σ.tab = τ.tab) (hl : ∀ d r, look d = some r → evalS σ d = some (den σ r)) : ∀ {l : List SDef}, pcOk look env l = true → ∀ d, d ∈ l → evalS τ d = some (.bool true)
  | [], _, d, hd => by cases hd
  | q :: l, hp, d, hd => by
    simp only [pcOk, Bool.and_eq_true] at hp
    rcases List.mem_cons.1 hd with rfl | hd
    · have h1 := hp.1
      split at h1
      · rename_i e he
        rw [← sbD_ok h ht he]
        split at h1
        · rename_i hf; exact foldD_spec hf
        · cases h1
        · split at h1
          · rename_i hk; exact hl _ _ hk
          · cases h1
      · cases h1
    · exact pcOk_spec h ht hl hp.2 d hd
def allLt : List Nat → Nat → Bool
  | [], _ => true
  | x :: l, n => Nat.blt x n && allLt l n
theorem allLt_mem {n : Nat} : ∀ {l : List Nat}, allLt l n = true → ∀ x, x ∈ l → x < n
  | [], _, x, hx => by cases hx
  | y :: l, h, x, hx => by
    simp only [allLt, Bool.and_eq_true] at h
    rcases List.mem_cons.1 hx with rfl | hx
    · simpa [Nat.blt_eq] using h.1
    · exact allLt_mem h.2 x hx
def atmV : AVal → Bool
  | .int _ _ => true
  | .bool _ => true
  | .str _ => true
  | .symi _ _ => true
  | .symb _ => true
  | .syms _ => true
  | _ => false
def atomL : List AVal → Bool
  | [] => true
  | a :: l => atmV a && atomL l
def toV : AVal → Value
  | .int k n => .int k n
  | .bool b => .bool b
  | .str s => .string s
  | _ => .nilFunc
theorem atom_val {g : Inj} {a : AVal} (h : atmV a = true) : VRel g a (toV (den g.sig a)) ∧ ∀ v, VRel g a v → v = toV (den g.sig a) := by
  cases a <;> simp only [atmV, Bool.false_eq_true] at h
  all_goals exact ⟨by constructor, fun v hv => by cases hv; rfl⟩
theorem toV_inj {g1 g2 : Inj} {a b : AVal} (ha : atmV a = true) (hb : atmV b = true) (h : toV (den g1.sig a) = toV (den g2.sig b)) : den g1.sig a = den g2.sig b := by
  cases a <;> simp only [atmV, Bool.false_eq_true] at ha <;> cases b <;> simp only [atmV, Bool.false_eq_true] at hb <;> simp only [den, toV, Value.int.injEq, Value.bool.injEq, Value.string.injEq, reduceCtorEq] at h <;> simp only [den, h]
theorem atom_eq {g1 g2 : Inj} : ∀ {l m : List AVal} {vs : List Value}, atomL l = true → atomL m = true → LRel g1 l vs → LRel g2 m vs → l.map (den g1.sig) = m.map (den g2.sig)
  | [], [], _, _, _, _, _ => rfl
  | [], _ :: _, _, _, _, h, k => by cases h; cases k
  | _ :: _, [], _, _, _, h, k => by cases k; cases h
  | a :: l, b :: m, _, ha, hb, .cons _ v _ vs h1 h2, .cons _ _ _ _ k1 k2 => by
    simp only [atomL, Bool.and_eq_true] at ha hb
    have e1 := toV_inj ha.1 hb.1 (((atom_val ha.1).2 _ h1).symm.trans ((atom_val hb.1).2 _ k1))
    simp only [List.map_cons, e1, atom_eq ha.2 hb.2 h2 k2]
theorem atom_vals {g : Inj} : ∀ {l : List AVal}, atomL l = true → ∃ vs, LRel g l vs
  | [], _ => ⟨[], .nil⟩
  | a :: l, h => by
    simp only [atomL, Bool.and_eq_true] at h
    obtain ⟨vs, hv⟩ := atom_vals (g := g) h.2
    exact ⟨_ :: vs, .cons _ _ _ _ (atom_val h.1).1 hv⟩
theorem lrel_split {g : Inj} : ∀ {l m : List AVal} {vs us : List Value}, l.length = vs.length → LRel g (l ++ m) (vs ++ us) → LRel g l vs ∧ LRel g m us
  | [], m, [], us, _, h => ⟨.nil, h⟩
  | [], m, _ :: _, us, hl, h => by simp at hl
  | _ :: _, m, [], us, hl, h => by simp at hl
  | a :: l, m, v :: vs, us, hl, .cons _ _ _ _ h1 h2 => by
    obtain ⟨k1, k2⟩ := lrel_split (by simpa using hl) h2
    exact ⟨.cons _ _ _ _ h1 k1, k2⟩
theorem lrel_both {g : Inj} : ∀ {l m : List AVal} {vs us : List Value}, LRel g l vs → LRel g m us → LRel g (l ++ m) (vs ++ us)
  | [], m, _, us, .nil, h => h
  | a :: l, m, _, us, .cons _ _ _ _ h1 h2, h => .cons _ _ _ _ h1 (lrel_both h2 h)
def tryM (look : SDef → Option AVal) (kd : Nat → Option IntKind) (ys : List AVal) (e : SymF) (m : List Nat) (args : List AVal) (hp : Hp) : Option (AVal × Hp) :=
  match (match Nat.beq e.xs.length ys.length && (atomL e.xs && atomL ys) with
    | true => matchL (zs m) (e.xs ++ e.args) (ys ++ args)
    | false => none) with
  | some x => match matchH (zs m) hp.heap e.pre 0 with
    | some y => match Nat.beq m.length e.pre.length && (noTwice (zs m) && (consB (x ++ y) (x ++ y) && (asgLt e.m (x ++ y) && (insAsg kd (x ++ y) e.ins 0 && pcOk look (expandZ look e.G e.m (envF e (x ++ y))) e.pcs)))) with
      | true => match allLt m hp.heap.length with
       | false => none
       | true => match sbV (expandZ look e.G e.m (envF e (x ++ y))) (rho m hp.heap.length) e.v with
        | some v => match sbBs (expandZ look e.G e.m (envF e (x ++ y))) (rho m hp.heap.length) e.post with
          | some bs => some (v, ⟨wr m bs hp.heap, m ++ hp.log⟩)
          | none => none
        | none => none
      | false => none
    | none => none
  | none => none
def firstF (look : SDef → Option AVal) (kd : Nat → Option IntKind) (ys : List AVal) (f : FuncId) (args : List AVal) (hp : Hp) : List SymF → Option (AVal × Hp)
  | [] => none
  | e :: l => match Nat.beq f e.f with
    | true => match tryM look kd ys e (uH hp.heap e.pre 0 (uL [] e.args args)) args hp with
      | some r => some r
      | none => firstF look kd ys f args hp l
    | false => firstF look kd ys f args hp l
theorem firstF_mem {look : SDef → Option AVal} {kd : Nat → Option IntKind} {ys : List AVal} {f : FuncId} {args : List AVal} {hp : Hp} {r : AVal × Hp} : ∀ {l : List SymF}, firstF look kd ys f args hp l = some r → ∃ e m, e ∈ l ∧ e.f = f ∧ tryM look kd ys e m args hp = some r
  | [], h => by cases h
  | x :: l, h => by
    simp only [firstF] at h
    have rest : firstF look kd ys f args hp l = some r → ∃ e m, e ∈ x :: l ∧ e.f = f ∧ tryM look kd ys e m args hp = some r := fun h =>
      let ⟨e, m, h1, h2⟩ := firstF_mem h
      ⟨e, m, List.mem_cons_of_mem _ h1, h2⟩
    split at h
    · rename_i hf
      split at h
      · rename_i r' hr
        cases h
        exact ⟨x, _, List.mem_cons_self .., (Nat.eq_of_beq_eq_true hf).symm, hr⟩
      · exact rest h
    · exact rest h
def symMfx (kd : Nat → Option IntKind) (ys : List AVal) (tbl : List SymF) : MHookF := fun look f args hp => firstF look kd ys f args hp tbl
def symMf (kd : Nat → Option IntKind) (tbl : List SymF) : MHookF := symMfx kd [] tbl
theorem mem_symFx {P : Program} {X : Ing} {tbl : List SymF} {ys : List AVal} {inv : Sig → Prop} (h : ∀ e, e ∈ tbl → SymFOk P X.tab inv e) (hT : okLT X.m X.G X.T = true) (hn : X.n = 0) (hi : ∀ e, e ∈ tbl → ∀ σ τ : Sig, τ.ext = σ.ext → e.xs.map (den τ) = ys.map (den σ) → X.inv σ → inv τ)
    (F : List Fact) (f : FuncId) (args : List AVal) (hp : Hp) (v : AVal) (hp' : Hp) (hm : symMfx (kdX X) ys tbl (symS (baseOf X F)) f args hp = some (v, hp')) : CallP P (cxOf X F) f args hp (.val v) hp' := by
  obtain ⟨e, m, hmem, rfl, hm2⟩ := firstF_mem hm
  clear hm
  have hm := hm2
  clear hm2
  obtain ⟨hlen, hpre, hpost, hG, hc⟩ := h e hmem
  unfold tryM at hm
  split at hm
  · rename_i x f20
    obtain ⟨f2, hys⟩ : matchL (zs m) (e.xs ++ e.args) (ys ++ args) = some x ∧ (Nat.beq e.xs.length ys.length && (atomL e.xs && atomL ys)) = true := by
      split at f20
      · rename_i hc; exact ⟨f20, hc⟩
      · cases f20
    clear f20
    simp only [Bool.and_eq_true] at hys
    obtain ⟨y1, y2, y3⟩ := hys
    have y1 := Nat.eq_of_beq_eq_true y1
    split at hm
    · rename_i y f3
      split at hm
      · rename_i hfit
        split at hm
        · cases hm
        rename_i hall
        split at hm
        · rename_i vv hvv
          split at hm
          · rename_i bs hbs
            cases hm
            simp only [Bool.and_eq_true] at hfit
            obtain ⟨f1, f4, f5, f6, f7, f8⟩ := hfit
            have f1 := Nat.eq_of_beq_eq_true f1
            have hmlt : ∀ y, y ∈ m → y < hp.heap.length := allLt_mem hall
            have hcell : ∀ (j x : Nat), m[j]? = some x → Live hp.heap x := by
              intro j x hj
              have hlt : j < e.pre.length := by rw [← f1]; exact (List.getElem?_eq_some_iff.1 hj).1
              have hxl := hmlt x (List.mem_iff_getElem?.2 ⟨j, hj⟩)
              obtain ⟨l, h1, _⟩ := matchH_get e.pre 0 _ f3 j _ (List.getElem?_eq_getElem hlt)
              rw [Nat.zero_add] at h1
              refine ⟨_, List.getElem?_eq_getElem hxl, fun hg => ?_⟩
              rcases cellsBs_get hpre j _ (List.getElem?_eq_getElem hlt) with ⟨c, t, hk⟩ | ⟨s, n, cl, t, hk⟩
              · rw [hk] at h1
                simp only [matchB, zs_of hj, List.getElem?_eq_getElem hxl, hg] at h1
                cases h1
              · rw [hk] at h1
                simp only [matchB, zs_of hj, List.getElem?_eq_getElem hxl, hg] at h1
                split at h1 <;> cases h1
            have hlive : ∀ y, y ∈ m → Live hp.heap y := by
              intro y hy
              obtain ⟨j, hj⟩ := List.mem_iff_getElem?.1 hy
              exact hcell j y hj
            have hbl := sbBs_len hbs
            have hlp : m.length ≤ bs.length := by rw [hbl, f1]; exact hlen
            have hat : ∀ j x, m[j]? = some x → (wr m bs hp.heap)[x]? = bs[j]? := fun j x hj => wr_at m _ _ j x hlp f4 hmlt hj
            have hback : ∀ i, i < hp.heap.length → Live (wr m bs hp.heap) i → Live hp.heap i := by
              intro i hi hl
              by_cases hin : i ∈ m
              · exact hlive i hin
              · obtain ⟨k, hk, hne⟩ := hl
                rw [wr_old m _ _ i hi hin] at hk
                exact ⟨k, hk, hne⟩
            have hwl : (wr m bs hp.heap).length = hp.heap.length + (e.post.length - m.length) := by rw [wr_len, hbl]
            refine ⟨⟨by show hp.heap.length ≤ (wr _ _ _).length; omega, ⟨m, rfl, fun i hi hn => wr_old m _ _ i hi hn⟩, hback, fun i la hi hl => ?_⟩, fun g w args' hH hl => ?_⟩
            · by_cases hin : i ∈ m
              · obtain ⟨j, hj⟩ := List.mem_iff_getElem?.1 hin
                have hl : (wr m bs hp.heap)[i]? = some (.loop la) := hl
                rw [hat j i hj] at hl
                obtain ⟨b, hb, hbb⟩ := sbBs_get hbs _ _ hl
                exact (sbB_loop hbb).elim
              · have hl : (wr m bs hp.heap)[i]? = some (.loop la) := hl
                rw [wr_old m _ _ i hi hin] at hl
                exact ⟨la, hl, rfl, rfl, rfl, rfl, rfl⟩
            have hbase := base_good hT hH.sig.ok.2 hH.sig.ok.1
            have hlook : ∀ d r, symS (baseOf X F) d = some r → evalS g.sig d = some (den g.sig r) := fun d r hd => symS_den hbase hd
            let τ0 : Sig := asgS g.sig (x ++ y)
            let τ : Sig := solve e.G e.m τ0
            have ag := agree_solve e.G e.m τ0
            have hext : τ.ext = g.sig.ext := ag.ext.symm
            have htab : τ.tab = X.tab := by rw [← ag.tab]; exact hH.sig.ok.2.tab
            have hfit0 : Fits g.sig τ0 (x ++ y) := by
              have := fits_asg (σ := g.sig) [] f5
              simpa using this
            have hfit : Fits g.sig τ (x ++ y) := by
              intro p hp
              have hlt := asgLt_mem f6 p hp
              obtain ⟨h1, h2, h3⟩ := hfit0 p hp
              obtain ⟨a1, a2, a3⟩ := ag.val p.1 hlt
              exact ⟨fun k n hn => by rw [← a1]; exact h1 k n hn, fun b hb => by rw [← a2]; exact h2 b hb, fun s hs => by rw [← a3]; exact h3 s hs⟩
            have henv : EnvS g.sig τ (envF e (x ++ y)) := by
              have hin : ∀ i a, (envF e (x ++ y)).get i = some a → (i, a) ∈ x ++ y := by
                intro i a hi
                rcases putsT_get _ _ hi with h | h
                · exact h
                · rw [TT.get_skel] at h; cases h
              refine ⟨fun i a k hi hk => ?_, fun i a hi hk => ?_, fun i a hi hk => ?_⟩
              · obtain ⟨⟨n, hn⟩, _⟩ := sk_i hk g.sig
                have hn' : den g.sig a = .int k n := hn
                rw [hn', (hfit (i, a) (hin i a hi)).1 k n hn']
              · obtain ⟨⟨n, hn⟩, _⟩ := sk_b hk g.sig
                have hn' : den g.sig a = .bool n := hn
                rw [hn', (hfit (i, a) (hin i a hi)).2.1 n hn']
              · obtain ⟨⟨n, hn⟩, _⟩ := sk_s hk g.sig
                have hn' : den g.sig a = .str n := hn
                rw [hn', (hfit (i, a) (hin i a hi)).2.2 n hn']
            have heq : Eqs τ e.m e.G := eqs_solve hG
            have htt : g.sig.tab = τ.tab := by rw [htab]; exact hH.sig.ok.2.tab
            have henv2 : EnvS g.sig τ (expandZ (symS (baseOf X F)) e.G e.m (envF e (x ++ y))) := expandZ_ok htt hlook henv fun k d hk hcd => heq.at k d hk hcd
            have hins : InsOk τ e.m e.ins := by
              intro i k hlt hik
              have hik' : e.ins[i]? = some (some k) := by
                cases hc : e.ins[i]? with
                | none => rw [hc] at hik; cases hik
                | some o => rw [hc] at hik; simp only [Option.getD_some] at hik; rw [hik]
              obtain ⟨a, h1, h2⟩ := insAsg_get f7 i k hik'
              rw [Nat.zero_add] at h1
              obtain ⟨n, h3, h4⟩ := inK_spec (fun i k h => kdX_spec hH.sig.ok.2.eqs hH.sig.ok.2.ins hH.sig.ok.2.kt i k h) h2
              have : τ0.ival i = n := by
                simp only [τ0, asgS, h1]
                cases a <;> simp only [inK, Bool.false_eq_true] at h2 <;> simp only [valS, h3, iOf]
              rw [← (ag.val i hlt).1, this]; exact h4
            have hpc := pcOk_spec henv2 htt hlook f8
            have R : HRel (cx0 X.tab) (moved (zs m) g τ) e.pre w := rematch hH rfl (cx0_good htab) (by rw [zs_len, f1]) f4 f3 (fun p hp => hfit p (by simp [hp])) hext
            have hmv : ∀ j L, moved (zs m) g τ j = some L → ∃ x, m[j]? = some x ∧ g x = some L := by
              intro j L hj
              obtain ⟨x, sh, L', h1, h2, rfl⟩ := moved_from hj
              obtain ⟨h3, rfl⟩ := zs_get h1
              exact ⟨x, h3, h2⟩
            obtain ⟨yv, hyv⟩ := atom_vals (g := g) y3
            have hboth : LRel (moved (zs m) g τ) (e.xs ++ e.args) (yv ++ args'.toList) := matchL_sound (moved_moves (zs m) g τ hext) _ _ x _ f2 (fun p hp => hfit p (by simp [hp])) (lrel_both hyv hl)
            obtain ⟨hxs, hargs⟩ := lrel_split (by rw [y1]; exact hyv.length) hboth
            have hxe : e.xs.map (den τ) = ys.map (den g.sig) := atom_eq (g1 := moved (zs m) g τ) (g2 := g) y2 y3 hxs hyv
            refine (hc (moved (zs m) g τ) w args' htab (hi e hmem _ _ hext hxe hH.sig.ok.2.inv) heq hins hpc R hargs).mono ?_
            rintro en w' ⟨u, g1, rfl, hs1, hu, hP, hsame, hnew, hsz, hfr, hos, htp, hout⟩
            have hs1 : g1.sig = τ := hs1
            have hgn : ∀ i L, g i = some L → i < hp.heap.length := fun i L hi => (hH.dom i L hi).1
            let g2 : Inj := ⟨fun i => if i < hp.heap.length then g i else g1 (i - hp.heap.length + m.length), g.sig, g.mp⟩
            have lo : ∀ i, i < hp.heap.length → g2 i = g i := fun i hi => by show (if i < hp.heap.length then g i else _) = _; rw [if_pos hi]
            have hi' : ∀ i, ¬ i < hp.heap.length → g2 i = g1 (i - hp.heap.length + m.length) := fun i hi => by show (if i < hp.heap.length then g i else _) = _; rw [if_neg hi]
            have hsub : Sub g g2 := ⟨fun i L hi => by rw [lo i (hgn i L hi)]; exact hi, rfl, fun _ _ h => h⟩
            have hold : ∀ j L, j < m.length → g1 j = some L → ∃ x, m[j]? = some x ∧ g x = some L := by
              intro j L hj h1
              rw [hsame j (by rw [← f1]; exact hj)] at h1
              exact hmv j L h1
            have hren : ∀ i L, g1 i = some L → g2 (rho m hp.heap.length i) = some L := by
              intro i L h1
              by_cases hlt : i < m.length
              · obtain ⟨x, hx, hgx⟩ := hold i L hlt h1
                have : rho m hp.heap.length i = x := by simp [rho, hx]
                rw [this, lo x (hgn x L hgx)]; exact hgx
              · have : rho m hp.heap.length i = i - m.length + hp.heap.length := by simp [rho, List.getElem?_eq_none (by omega : m.length ≤ i)]
                rw [this, hi' _ (by omega), show i - m.length + hp.heap.length - hp.heap.length + m.length = i by omega]
                exact h1
            have hfresh : ∀ i L, ¬ i < hp.heap.length → g2 i = some L → w.heap.size ≤ L.blk ∨ ∃ x M, x ∈ m ∧ g x = some M ∧ M.blk = L.blk := by
              intro i L hlt h2
              rw [hi' i hlt] at h2
              rcases hnew _ L (by rw [← f1]; omega) h2 with h3 | ⟨j, M, h3, h4⟩
              · exact .inl h3
              · obtain ⟨x, hx, hgx⟩ := hmv j M h3
                exact .inr ⟨x, M, List.mem_iff_getElem?.2 ⟨_, hx⟩, hgx, h4⟩
            have hlv2 : ∀ i, ¬ i < hp.heap.length → Live (wr m bs hp.heap) i → Live e.post (i - hp.heap.length + m.length) := by
              rintro i h1 ⟨k, hk, hne⟩
              rw [show i = hp.heap.length + (i - hp.heap.length) by omega, wr_new m _ _ _ hlp] at hk
              obtain ⟨b, hb2, hbb⟩ := sbBs_get hbs _ _ hk
              exact ⟨b, by rw [Nat.add_comm]; exact hb2, fun hg => hne ((sbB_gone hbb).1 hg)⟩
            have hapart : ∀ i j L M, i < hp.heap.length → ¬ j < hp.heap.length → g i = some L → g2 j = some M → L.blk = M.blk → Live (wr m bs hp.heap) i → Live (wr m bs hp.heap) j → False := by
              intro i j L M h1 h2 hi hj hb li lj
              rcases hfresh j M h2 hj with h3 | ⟨x, N, hx, hgx, hN⟩
              · have a1 := (hH.dom i L hi).2
                omega
              · have hxi := hH.inj i x L N hi hgx (by rw [hb, hN]) (hback i h1 li) (hlive x hx)
                subst hxi
                obtain ⟨q, hq⟩ := List.mem_iff_getElem?.1 hx
                have hql : q < m.length := (List.getElem?_eq_some_iff.1 hq).1
                have lq : Live e.post q := by
                  obtain ⟨k, hk, hne⟩ := li
                  rw [hat q i hq] at hk
                  obtain ⟨b, hb2, hbb⟩ := sbBs_get hbs _ _ hk
                  exact ⟨b, hb2, fun hg => hne ((sbB_gone hbb).1 hg)⟩
                have lj2 := hlv2 j h2 lj
                have hgq : g1 q = some L := by
                  rw [hsame q (by rw [← f1]; exact hql)]
                  have := (moved_moves (zs m) g τ hext).1 q i 0 L (zs_of hq) hi
                  rw [this]; rfl
                rw [hi' j h2] at hj
                have := hP.inj q _ L M hgq hj hb lq lj2
                omega
            have hkeep : ∀ b, b < w.heap.size → (∀ x L, x ∈ m → g x = some L → L.blk ≠ b) → w'.heap[b]? = w.heap[b]? := by
              intro b hb hno
              refine hfr b hb fun i L hiL => ?_
              obtain ⟨x, hx, hgx⟩ := hmv i L hiL
              exact hno x L (List.mem_iff_getElem?.2 ⟨_, hx⟩) hgx
            have he2 : EnvS g2.sig g1.sig (expandZ (symS (baseOf X F)) e.G e.m (envF e (x ++ y))) := by rw [hs1]; exact henv2
            have hx2 : g2.sig.ext = g1.sig.ext := by rw [hs1]; exact hext.symm
            refine ⟨g2, ⟨u, rfl, sbV_rel hren he2 hx2 hu hvv⟩, ⟨?_, ?_, ?_, ?_, hH.sig, ?_⟩, ?_⟩
            · intro i L hi
              show i < (wr _ _ _).length ∧ _
              by_cases hlt : i < hp.heap.length
              · rw [lo i hlt] at hi
                have := hH.dom i L hi
                exact ⟨by rw [hwl]; omega, by omega⟩
              · rw [hi' i hlt] at hi
                have := hP.dom _ L hi
                exact ⟨by rw [hwl]; omega, this.2⟩
            · intro i j L M hi hj hb li lj
              by_cases h1 : i < hp.heap.length <;> by_cases h2 : j < hp.heap.length
              · rw [lo i h1] at hi; rw [lo j h2] at hj
                exact hH.inj i j L M hi hj hb (hback i h1 li) (hback j h2 lj)
              · rw [lo i h1] at hi
                exact (hapart i j L M h1 h2 hi hj hb li lj).elim
              · rw [lo j h2] at hj
                exact (hapart j i M L h2 h1 hj hi hb.symm lj li).elim
              · have l1 := hlv2 i h1 li
                have l2 := hlv2 j h2 lj
                rw [hi' i h1] at hi; rw [hi' j h2] at hj
                have := hP.inj _ _ L M hi hj hb l1 l2
                omega
            · intro i k hi hk
              have hi : (wr m bs hp.heap)[i]? = some k := hi
              by_cases h1 : i < hp.heap.length
              · by_cases hin : i ∈ m
                · obtain ⟨j, hj⟩ := List.mem_iff_getElem?.1 hin
                  rw [hat j i hj] at hi
                  obtain ⟨b, hb, hbb⟩ := sbBs_get hbs _ _ hi
                  rcases hP.blk0 _ _ hb (fun hg => hk ((sbB_gone hbb).1 hg)) with hz | ⟨L, hL, hBr⟩
                  · exact .inl (sbB_none he2 hbb hz)
                  have hjl : j < m.length := (List.getElem?_eq_some_iff.1 hj).1
                  obtain ⟨x, hx, hgx⟩ := hold j L hjl hL
                  rw [hj] at hx; cases hx
                  exact .inr ⟨L, by rw [lo i h1]; exact hgx, sbB_rel hren he2 hx2 hbb hBr⟩
                · rw [wr_old m _ _ i h1 hin] at hi
                  rcases hH.blk0 i k hi hk with hz | ⟨L, hL, hBr⟩
                  · exact .inl (hz.mono rfl)
                  refine .inr ⟨L, by rw [lo i h1]; exact hL, (hBr.of_same (hkeep L.blk (hH.dom i L hL).2 fun x M hx hgx hbb => ?_)).mono hsub⟩
                  have := hH.inj x i M L hgx hL hbb (hlive x hx) ⟨k, hi, hk⟩
                  exact hin (this ▸ hx)
              · have hnl : i = hp.heap.length + (i - hp.heap.length) := by omega
                rw [hnl, wr_new m _ _ _ hlp] at hi
                obtain ⟨b, hb, hbb⟩ := sbBs_get hbs _ _ hi
                rcases hP.blk0 _ _ hb (fun hg => hk ((sbB_gone hbb).1 hg)) with hz | ⟨L, hL, hBr⟩
                · exact .inl (sbB_none he2 hbb hz)
                refine .inr ⟨L, by rw [hi' i h1, show i - hp.heap.length + m.length = m.length + (i - hp.heap.length) by omega]; exact hL, sbB_rel hren he2 hx2 hbb hBr⟩
            · intro i hi
              have : (cxOf X F).n = 0 := hn
              omega
            · refine ⟨fun i Y hi hY => ?_, fun i Y hi => ?_⟩
              · have f := hH.frz.row i Y hi hY
                refine ⟨f.1.of_same (hkeep _ f.1.lt fun x M hx hgx => f.2 x M hgx (hlive x hx)), fun j N hj lj => ?_⟩
                by_cases h1 : j < hp.heap.length
                · rw [lo j h1] at hj
                  exact f.2 j N hj (hback j h1 lj)
                · rcases hfresh j N h1 hj with a1 | ⟨x, M, hx, hgx, hM⟩
                  · have a2 := f.1.lt
                    omega
                  · rw [← hM]; exact f.2 x M hgx (hlive x hx)
              · have f := hH.frz.mp i Y hi
                refine ⟨by show i < (wr _ _ _).length; rw [hwl]; omega, f.2.1.of_same (hkeep _ f.2.1.lt fun x M hx hgx => f.2.2 x M hgx (hlive x hx)), fun j N hj lj => ?_⟩
                by_cases h1 : j < hp.heap.length
                · rw [lo j h1] at hj
                  exact f.2.2 j N hj (hback j h1 lj)
                · rcases hfresh j N h1 hj with a1 | ⟨x, M, hx, hgx, hM⟩
                  · have a2 := f.2.1.lt
                    omega
                  · rw [← hM]; exact f.2.2 x M hgx (hlive x hx)
            · refine ⟨hsub, ?_, fun i Y hi hn => ?_, by show _ ≤ (wr _ _ _).length; omega, hback, hsz, fun b hb hno => hkeep b hb fun x L hx hgx => hno x L hgx (hlive x hx), hos, htp, hout⟩
              · intro i L hi hn
                by_cases h1 : i < hp.heap.length
                · rw [lo i h1] at hi; rw [hn] at hi; cases hi
                · exact ⟨by omega, (hfresh i L h1 hi).imp id fun ⟨x, M, hx, hgx, hM⟩ => ⟨x, M, hgx, hM, hlive x hx⟩⟩
              · exact absurd hi (by show ¬ g.mp i = some Y; rw [hn]; simp)
          · cases hm
        · cases hm
      · cases hm
    · cases hm
  · cases hm
theorem mem_symF {P : Program} {X : Ing} {tbl : List SymF} {inv : Sig → Prop} (h : ∀ e, e ∈ tbl → SymFOk P X.tab inv e) (hT : okLT X.m X.G X.T = true) (hn : X.n = 0) (hi : ∀ σ τ : Sig, τ.ext = σ.ext → X.inv σ → inv τ)
    (F : List Fact) (f : FuncId) (args : List AVal) (hp : Hp) (v : AVal) (hp' : Hp) (hm : symMf (kdX X) tbl (symS (baseOf X F)) f args hp = some (v, hp')) : CallP P (cxOf X F) f args hp (.val v) hp' :=
  mem_symFx h hT hn (fun _ _ σ τ he _ hv => hi σ τ he hv) F f args hp v hp' hm
def MemR (tab : TabF) (e : SymF) (g : Inj) (w : World) (en : Ending) (w' : World) : Prop :=
  ∃ (u : Value) (g1 : Inj), en = .returned u ∧ g1.sig = g.sig ∧ VRel g1 e.v u ∧ HRel (cx0 tab) g1 e.post w' ∧ (∀ i, i < e.pre.length → g1 i = g i) ∧ (∀ i L, e.pre.length ≤ i → g1 i = some L → w.heap.size ≤ L.blk ∨ ∃ j M, g j = some M ∧ M.blk = L.blk) ∧
      w.heap.size ≤ w'.heap.size ∧ (∀ b, b < w.heap.size → (∀ i L, g i = some L → L.blk ≠ b) → w'.heap[b]? = w.heap[b]?) ∧ w'.os = w.os ∧ w'.tape = w.tape ∧ w'.output = w.output
def fraOf (g : Inj) (w : World) (n : Nat) : Fra where
  w := w
  own := fun b => w.heap.size ≤ b ∨ ∃ i L, g i = some L ∧ L.blk = b
  new := fun _ h => .inl h
  pin := fun i => if i < n then some (g.loc i) else none
def idE (e : SymF) : Option Asg :=
  match matchV (idF e.post.length 0) e.v e.v, matchH (idF e.post.length 0) e.post e.post 0 with
  | some x, some y => some (x ++ y)
  | _, _ => none
def DenEq (σ τ : Sig) : Asg → Prop
  | [] => True
  | p :: r => den σ p.2 = den τ p.2 ∧ DenEq σ τ r
theorem denEq_fits {σ τ : Sig} {M : Nat} : ∀ {l : Asg}, idAsg M l = true → DenEq σ τ l → Fits σ τ l
  | [], _, _ => fun p hp => by cases hp
  | q :: l, hl, hd => by
    simp only [idAsg, Bool.and_eq_true] at hl
    intro p hp
    rcases List.mem_cons.1 hp with rfl | hp
    · have h1 := hl.1
      have h2 := hd.1
      split at h1
      all_goals first
        | cases h1
        | skip
      all_goals
        rename_i hx
        simp only [Bool.and_eq_true] at h1
        have e := Nat.eq_of_beq_eq_true h1.1
        rw [hx] at h2 ⊢
        rw [← e] at h2 ⊢
        refine ⟨fun k n hn => ?_, fun b hn => ?_, fun s hn => ?_⟩ <;> rw [h2] at hn <;> simp only [den, AVal.int.injEq, AVal.bool.injEq, AVal.str.injEq, reduceCtorEq] at hn
        first
          | exact hn.2
          | exact hn
    · exact denEq_fits hl.2 hd.2 p hp
theorem endZ_mem {P : Program} {tab : TabF} {n M : Nat} {fn : Func} {e : SymF} {g : Inj} {w : World} {SE : Shape} {vs : List AVal} {σ : Sig} {x : SEx} {l : Asg} (hSE : resA P (tmOf SE n) SE.heap fn.results.toList = some vs) (hv : packA vs = e.v) (hp : SE.heap = e.post)
    (hH : HRel (cx0 tab) g e.pre w) (ht : g.sig.tab = tab) (hcp : cellsBs e.pre = true) (hc : cellsGs e.post = true) (hid : idE e = some l) (hidl : idAsg M l = true) (hnt : noTwice (idF e.post.length 0) = true) (hd : DenEq σ g.sig l) (hlen2 : e.pre.length ≤ e.post.length) (hext : σ.ext = g.sig.ext) (hx : x = .ret ∨ x = .normal) :
    EndZ tab n (fraOf g w e.pre.length) (bodyPost P fn (MemR tab e g w)) x SE σ := by
  intro en a w' hxe hA
  obtain ⟨g', rfl, hH', hT, hO, hP⟩ := hA.ex
  have hT1 : TRel g' (tmOf SE n) a := by
    refine ⟨by simp only [tmOf, hA.size]; exact Nat.le_refl _, ?_⟩
    intro i v hv
    exact hT _ (tmOf_get hv)
  obtain ⟨u, hres, h2⟩ := results_run hH' hT1 hSE
  rw [hv] at h2
  rw [hp] at hH'
  have hfit := denEq_fits hidl hd
  unfold idE at hid
  split at hid
  · rename_i lx ly hlx hly
    cases hid
    have R : HRel (cx0 tab) (moved (idF e.post.length 0) g' g.sig) e.post w' := rematch hH' rfl (cx0_good ht) (idF_length _ _) hnt hly hfit.right hext.symm
    have hmv : ∀ i, i < e.post.length → moved (idF e.post.length 0) g' g.sig i = g' i := by
      intro i hi
      have h0 : (idF e.post.length 0)[i]? = some (i, 0) := by simpa using idF_at (i := 0) hi
      cases hg : g' i with
      | none => simp only [moved, h0, hg, Option.map_none]
      | some L => simp only [moved, h0, hg, Option.map_some, shift, Nat.add_zero, Nat.sub_zero]
    have hR : MemR tab e g w (.returned u) w' := by
      refine ⟨u, moved (idF e.post.length 0) g' g.sig, rfl, rfl, matchV_sound (moved_moves _ g' _ hext.symm) e.v e.v lx u hlx hfit.left h2, R, fun i hi => ?_, fun i L hi hL => ?_, hA.below.size, fun b hb hno => hA.below.frame b hb ?_, hA.below.os, hA.below.tape, hA.below.output⟩
      · have h3 := (hP i (g.loc i) (by show (if i < e.pre.length then some (g.loc i) else none) = _; rw [if_pos hi])).2
        rw [hmv i (by have := hlen2; omega), h3]
      · have hlt := (R.dom i L hL).1
        rw [hmv i hlt] at hL
        rcases hO i L hL with h3 | ⟨j, N, hj, hb⟩
        · exact .inl h3
        · exact .inr ⟨j, N, hj, hb⟩
      · rintro (h3 | ⟨i, L, hi, h3⟩)
        · exact absurd h3 (by omega)
        · exact hno i L hi h3
    have : a.defers = [] ∧ ∃ v, (results fn a.tmps).run P w' = .ok v w' ∧ MemR tab e g w (.returned v) w' := ⟨hA.defers, _, hres, hR⟩
    cases en with
    | normal => exact this
    | ret => exact this
    | _ => rcases hx with rfl | rfl <;> exact hxe.elim
  · cases hid
theorem symF_of_stage {P : Program} {tab : TabF} {inv : Sig → Prop} {e : SymF} {fn : Func} {n : Nat} (hf : P.funcs[e.f]? = some fn) (hb : fn.body = some (bodyOf fn)) (hn : fn.ntmps = n) (hna : e.args.length ≤ n)
    (hlen : e.pre.length ≤ e.post.length) (hcp : cellsBs e.pre = true) (hc : cellsGs e.post = true) (hG : okG e.G e.m = true)
    (h : ∀ (g : Inj) (w : World), g.sig.tab = tab → inv g.sig → Eqs g.sig e.m e.G → InsOk g.sig e.m e.ins → (∀ d, d ∈ e.pcs → evalS g.sig d = some (.bool true)) → HRel (cx0 tab) g e.pre w →
      Stage P tab n (fraOf g w e.pre.length) (bodyPost P fn (MemR tab e g w)) (flatC (bodyOf fn)) ⟨argT 0 e.args, e.pre⟩ e.m e.ins (fun σ => Agree e.m g.sig σ)) : SymFOk P tab inv e := by
  refine ⟨hlen, hcp, hc, hG, fun g w args' ht hi he hins hpc hH ha => ?_⟩
  refine calls_body hf hb ?_
  rw [hn]
  have hal : args'.size ≤ n := by
    have := ha.length
    simp only [Array.length_toList] at this
    omega
  have hA0 : At tab ⟨argT 0 e.args, e.pre⟩ n g.sig (fraOf g w e.pre.length) { tmps := args' ++ Array.replicate (n - args'.size) undef, defers := [] } w := by
    refine ⟨⟨g, rfl, hH, ?_, fun i L hi => .inr ⟨i, L, hi, rfl⟩, fun i x hi => ?_⟩, BelowF.refl (fraOf g w e.pre.length), by simp; omega, rfl⟩
    · intro p hp
      obtain ⟨j, h1, h2⟩ := argT_get _ _ _ hp
      obtain ⟨u, k1, k2⟩ := ha.get j p.2 h2
      refine ⟨u, ?_, k2⟩
      have hlt : j < args'.size := by
        have := (List.getElem?_eq_some_iff.1 k1).1
        simpa using this
      rw [h1, Nat.zero_add, Array.getElem?_append_left hlt]
      simpa using k1
    · by_cases hlt : i < e.pre.length
      · have hi : (if i < e.pre.length then some (g.loc i) else none) = some x := hi
        rw [if_pos hlt] at hi
        cases hi
        exact ⟨hlt, rfl⟩
      · have hi : (if i < e.pre.length then some (g.loc i) else none) = some x := hi
        rw [if_neg hlt] at hi
        cases hi
  have := flat_wp _ (h g w ht hi he hins hpc hH _ _ g.sig hA0 hins ⟨fun _ _ => ⟨rfl, rfl, rfl⟩, rfl, rfl⟩ ht)
  rwa [then_self] at this
end Go.Ev
namespace Go.Ev
open Go.RowKit
set_option linter.unusedVariables false
set_option linter.unusedSimpArgs false
theorem calls_of_stageG {P : Program} {f : FuncId} {fn : Func} {tab : TabF} {n q : Nat} {ins : List (Option IntKind)} {R : Ending → World → Prop} {J : Sig → Prop} {args : List AVal} {args' : Array Value} {σ0 : Sig} {W : World}
    (hf : P.funcs[f]? = some fn) (hb : fn.body = some (bodyOf fn)) (hn : fn.ntmps = n) (ht : σ0.tab = tab) (ha : LRel ⟨fun _ => none, σ0, fun _ => none⟩ args args'.toList) (hna : args'.size ≤ n)
    (hz : ∀ i X, σ0.ext i = some X → 0 < X.len → FzOk X W) (hi : InsOk σ0 q ins) (hj : J σ0) (h : Stage P tab n W (bodyPost P fn R) (flatC (bodyOf fn)) ⟨argT 0 args, []⟩ q ins J) : Calls P f args' W R := by
  refine calls_body hf hb ?_
  rw [hn]
  have hA0 : At tab ⟨argT 0 args, []⟩ n σ0 W { tmps := args' ++ Array.replicate (n - args'.size) undef, defers := [] } W := at_start (tab := tab) ht ha hna W hz
  have := flat_wp _ (h _ _ σ0 hA0 hi hj ht)
  rwa [then_self] at this
structure RowE (E : Nat → Option Fz) (X : Fz) (σ : Sig) : Prop where
  ext : σ.ext = E
  len : σ.ival 1 = X.len
  lo : 0 ≤ σ.ival 0
  hi : σ.ival 0 ≤ X.len
def RowEEl (q : Nat) (cl : List Cl) (E : Nat → Option Fz) (X : Fz) (τ : Sig) : Prop := ∃ σ, Agree (q + cl.length) (elSig σ q X) τ ∧ RowE E X σ
theorem RowE.agree {E : Nat → Option Fz} {X : Fz} {q : Nat} (h2 : 2 ≤ q) {σ τ : Sig} (ag : Agree q σ τ) (h : RowE E X σ) : RowE E X τ :=
  ⟨by rw [← ag.ext]; exact h.ext, by rw [← (ag.val 1 (by omega)).1]; exact h.len, by rw [← (ag.val 0 (by omega)).1]; exact h.lo, by rw [← (ag.val 0 (by omega)).1]; exact h.hi⟩
theorem RowEEl.agree {E : Nat → Option Fz} {cl : List Cl} {X : Fz} {q : Nat} {σ τ : Sig} (ag : Agree (q + cl.length) σ τ) (h : RowEEl q cl E X σ) : RowEEl q cl E X τ := by
  obtain ⟨υ, ag0, hd⟩ := h
  exact ⟨υ, ag0.trans' ag, hd⟩
theorem RowEEl.hd {E : Nat → Option Fz} {cl : List Cl} {X : Fz} {q : Nat} (h2 : 2 ≤ q) {τ : Sig} (h : RowEEl q cl E X τ) : RowE E X τ := by
  obtain ⟨σ, ag, he, h1, h0, h3⟩ := h
  refine ⟨by rw [← ag.ext]; exact he, ?_, ?_, ?_⟩
  · rw [← (ag.val 1 (by omega)).1]; simp [elSig, show 1 < q by omega, h1]
  · rw [← (ag.val 0 (by omega)).1]; simp [elSig, show 0 < q by omega, h0]
  · rw [← (ag.val 0 (by omega)).1]; simp [elSig, show 0 < q by omega, h3]
theorem RowEEl.rows {E : Nat → Option Fz} {W : World} {cl : List Cl} {v : Value} {X : Fz} (hX : RowV W cl v X) (hE : ∀ Y, E 0 = some Y → Y = X) {q : Nat} (h2q : 2 ≤ q) {τ : Sig} (h : RowEEl q cl E X τ) : RowsOk τ [⟨.symi .i64 1, [(.symi .i64 0, elCells q cl)]⟩] := by
  obtain ⟨σ, ag, he, h1, h0, _⟩ := h
  intro i r Y hr hY
  have hr0 : i = 0 := by
    cases i with
    | zero => rfl
    | succ i => simp at hr
  subst hr0
  rw [← ag.ext] at hY
  have hY : σ.ext 0 = some Y := hY
  rw [he] at hY
  have hY := hE Y hY
  subst hY
  simp only [List.getElem?_cons_zero, Option.some.injEq] at hr
  subst hr
  have t0 : τ.ival 0 = σ.ival 0 := by rw [← (ag.val 0 (by omega)).1]; simp [elSig, show 0 < q by omega]
  have t1 : τ.ival 1 = σ.ival 1 := by rw [← (ag.val 1 (by omega)).1]; simp [elSig, show 1 < q by omega]
  refine ⟨by show AVal.int .i64 (τ.ival 1) = _; rw [t1, h1], fun p hp m hm hlt => ?_⟩
  simp only [List.mem_singleton] at hp
  subst hp
  have hm : τ.ival 0 = (m : Int) := by simpa [den] using hm
  rw [t0] at hm
  have hmN : (σ.ival 0).toNat = m := by omega
  refine ⟨by rw [elCells_length]; exact hX.z.symm, fun j c hc => ?_⟩
  obtain ⟨z, hz, rfl⟩ := elCells_get q cl j c hc
  have hj : j < cl.length := (List.getElem?_eq_some_iff.1 hz).1
  obtain ⟨n, h3, h4⟩ := el_get (hX.els _ hlt) hz
  have hnq : ¬ (q + j < q) := by omega
  cases z with
  | i k =>
    simp only [den]
    rw [← (ag.val (q + j) (by omega)).1]
    simp only [elSig, hnq, if_false, hmN, hlt, if_true, Nat.add_sub_cancel_left]
    rw [h4]; rfl
  | b =>
    simp only [den]
    rw [← (ag.val (q + j) (by omega)).2.1]
    simp only [elSig, hnq, if_false, hmN, hlt, if_true, Nat.add_sub_cancel_left]
    rw [h4]; rfl
def InvF {ι : Type} (tab : TabF) (n : Nat) (W0 : Fra) (S : ι → Shape) (q : Nat) (ins : List (Option IntKind)) (J : ι → Sig → Prop) (μ : Sig → Nat) : Nat → Act → World → Prop :=
  fun k a w => ∃ i σ, At tab (S i) n σ W0 a w ∧ InsOk σ q ins ∧ J i σ ∧ σ.tab = tab ∧ k = μ σ
theorem EndZ.loopF {ι : Type} {P : Program} {tab : TabF} {n : Nat} {W0 : Fra} {Z : Exit → Act → World → Prop} {id : Nat} {c2 : List Code} {S : ι → Shape} {q : Nat} {ins : List (Option IntKind)} {J : ι → Sig → Prop} {μ : Sig → Nat} {k : Nat} {σ : Sig} {s : Shape} (i : ι) (hs : s = S i)
    (hi : InsOk σ q ins) (hj : J i σ) (ht : σ.tab = tab) (hk : μ σ < k) : EndZ tab n W0 (LoopZ P id c2 Z (InvF tab n W0 S q ins J μ) k) .normal s σ := by
  subst hs
  intro e a w hxe hA
  cases e <;> simp only [SExRel] at hxe
  exact .inl ⟨rfl, μ σ, hk, i, σ, hA, hi, hj, ht, rfl⟩
theorem Stage.rowLoopF {ι : Type} {P : Program} {tab : TabF} {n : Nat} {W0 : Fra} {WX : World} {Z : Exit → Act → World → Prop} {b : Code} {id : Nat} {c2 : List Code} {S : ι → Shape} {q : Nat} {insq : List (Option IntKind)} {J : ι → Sig → Prop} {cl : List Cl} {v : Value} {X : Fz} {E : Nat → Option Fz} (hX : RowV WX cl v X)
    (hq : insq.length = q) (h2 : 2 ≤ q) (hid : ∀ i, idOk (S i) q = true) (hJ : ∀ i σ τ, Agree q σ τ → J i σ → J i τ)
    (body : ∀ k i, Stage P tab n W0 (LoopZ P id c2 Z (InvF tab n W0 S q insq (fun i σ => RowE E X σ ∧ J i σ) (fun σ => ((X.len : Int) - σ.ival 0).toNat)) k) [b] (S i) (q + cl.length) (insq ++ cl.map kindC) (fun τ => RowEEl q cl E X τ ∧ J i τ ∧ ((X.len : Int) - τ.ival 0).toNat = k)) (i0 : ι) :
    Stage P tab n W0 Z (.block id (.loop b) :: c2) (S i0) q insq (fun σ => RowE E X σ ∧ J i0 σ) := by
  intro a w σ hA hi hj ht
  show (Code.block id (.loop b)).wpIn (FR none) 0 P _ a w
  refine wpIn_block ?_
  refine loop_at (Inv := InvF tab n W0 S q insq (fun i σ => RowE E X σ ∧ J i σ) (fun σ => ((X.len : Int) - σ.ival 0).toNat)) ?_ _ a w ⟨i0, σ, hA, hi, hj, ht, rfl⟩
  clear hA hi hj ht a w
  rintro k a w ⟨i, σ, hA, hi, hj, ht, rfl⟩
  have ag := elSig_agree σ q X
  have h0 : (elSig σ q X).ival 0 = σ.ival 0 := by simp [elSig, show 0 < q by omega]
  have := body _ i a w (elSig σ q X) (hA.agree (hid i) ag) (elSig_ins hX hq hi) ⟨⟨σ, ⟨fun _ _ => ⟨rfl, rfl, rfl⟩, rfl, rfl⟩, hj.1⟩, hJ _ _ _ ag hj.2, by rw [h0]⟩ ht
  simp only [chainK] at this
  rwa [then_self] at this
end Go.Ev
namespace Go.Ev
open Go.RowKit
set_option linter.unusedVariables false
set_option linter.unusedSimpArgs false
theorem wr_i64 (n : Int) : IntKind.i64.wrap n = (n + 9223372036854775808) % 18446744073709551616 - 9223372036854775808 := by simp [IntKind.wrap, IntKind.bits, IntKind.signed]; omega
theorem wr_u16 (n : Int) : IntKind.u16.wrap n = n % 65536 := by simp [IntKind.wrap, IntKind.bits, IntKind.signed]
theorem wr_u8 (n : Int) : IntKind.u8.wrap n = n % 256 := by simp [IntKind.wrap, IntKind.bits, IntKind.signed]
def encL (l : List UInt8) : Int := l.foldl (fun a b => a * 256 + b.toNat) 1
theorem encL_snoc (l : List UInt8) (b : UInt8) : encL (l ++ [b]) = encL l * 256 + b.toNat := by simp [encL]
def segsPv (σ : Sig) (Q : SEx → Shape → Sig → Prop) : Sv → Prop
  | .leaf x s _ l ex => Q x s (asgS σ (l ++ ex))
  | .leafE x s _ l ex => EqsL σ l l ∧ Q x s (asgS σ (l ++ ex))
  | .req o v => o.Sat σ ∧ segsPv σ Q v
  | .dead => False
  | .node i y n => (σ.bval i = true → segsPv σ Q y) ∧ (σ.bval i = false → segsPv σ Q n)
  | .pick i k y n => (σ.ival i = k → segsPv σ Q y) ∧ (¬ σ.ival i = k → segsPv σ Q n)
def segsPw (σ : Sig) (Q : SEx → Shape → Sig → Prop) : Sw → Prop
  | .run v => segsPv σ Q v
  | .dead => False
  | .node i y n => (σ.bval i = true → segsPw σ Q y) ∧ (σ.bval i = false → segsPw σ Q n)
  | .pick i k y n => (σ.ival i = k → segsPw σ Q y) ∧ (¬ σ.ival i = k → segsPw σ Q n)
theorem segs_no {σ : Sig} {Q : SEx → Shape → Sig → Prop} : ∀ {v : Sv} {F : List Fact}, ¬ Holds σ F → segs σ Q v F
  | .leaf .., _, h => fun hF => absurd hF h
  | .leafE .., _, h => fun hF => absurd hF h
  | .req .., _, h => ⟨fun hF => absurd hF h, segs_no h⟩
  | .dead, _, h => h
  | .node .., _, h => ⟨segs_no fun hF => h hF.2, segs_no fun hF => h hF.2⟩
  | .pick .., _, h => ⟨segs_no fun hF => h hF.2, segs_no fun hF => h hF.2⟩
theorem segsW_no {σ : Sig} {Q : SEx → Shape → Sig → Prop} : ∀ {v : Sw} {F : List Fact}, ¬ Holds σ F → segsW σ Q v F
  | .run .., _, h => segs_no (v := _) h
  | .dead, _, h => h
  | .node .., _, h => ⟨segsW_no fun hF => h hF.2, segsW_no fun hF => h hF.2⟩
  | .pick .., _, h => ⟨segsW_no fun hF => h hF.2, segsW_no fun hF => h hF.2⟩
theorem segsPv_segs {σ : Sig} {Q : SEx → Shape → Sig → Prop} : ∀ {v : Sv} {F : List Fact}, segsPv σ Q v → segs σ Q v F
  | .leaf .., _, h => fun _ => h
  | .leafE .., _, h => fun _ => h
  | .req .., _, h => ⟨fun _ => h.1, segsPv_segs h.2⟩
  | .dead, _, h => h.elim
  | .node i y n, F, h => by
    constructor
    · by_cases hb : σ.bval i = true
      · exact segsPv_segs (h.1 hb)
      · exact segs_no fun hF => hb hF.1
    · by_cases hb : σ.bval i = false
      · exact segsPv_segs (h.2 hb)
      · exact segs_no fun hF => hb hF.1
  | .pick i k y n, F, h => by
    constructor
    · by_cases hb : σ.ival i = k
      · exact segsPv_segs (h.1 hb)
      · exact segs_no fun hF => hb hF.1
    · by_cases hb : σ.ival i = k
      · exact segs_no fun hF => hF.1 hb
      · exact segsPv_segs (h.2 hb)
theorem segsPw_segs {σ : Sig} {Q : SEx → Shape → Sig → Prop} : ∀ {v : Sw} {F : List Fact}, segsPw σ Q v → segsW σ Q v F
  | .run .., _, h => segsPv_segs (v := _) h
  | .dead, _, h => h.elim
  | .node i y n, F, h => by
    constructor
    · by_cases hb : σ.bval i = true
      · exact segsPw_segs (h.1 hb)
      · exact segsW_no fun hF => hb hF.1
    · by_cases hb : σ.bval i = false
      · exact segsPw_segs (h.2 hb)
      · exact segsW_no fun hF => hb hF.1
  | .pick i k y n, F, h => by
    constructor
    · by_cases hb : σ.ival i = k
      · exact segsPw_segs (h.1 hb)
      · exact segsW_no fun hF => hb hF.1
    · by_cases hb : σ.ival i = k
      · exact segsW_no fun hF => hF.1 hb
      · exact segsPw_segs (h.2 hb)
theorem insOk_kt {X : Ing} {τ : Sig} (hG : Eqs τ X.m X.G) (hi : InsOk τ X.m X.ins) (hkt : okKt X = true) {l : Asg} {q : Nat} {insq : List (Option IntKind)} (h : insAsg (kdX X) l insq 0 = true) : InsOk (asgS τ l) q insq := by
  intro i k _ hik
  have hik : insq[i]? = some (some k) := by
    cases hc : insq[i]? with
    | none => rw [hc] at hik; cases hik
    | some o => rw [hc] at hik; simp only [Option.getD_some] at hik; rw [hik]
  obtain ⟨a, h1, h2⟩ := insAsg_get h i k hik
  rw [Nat.zero_add] at h1
  obtain ⟨n, h3, h4⟩ := inK_spec (fun i k h => kdX_spec hG hi hkt i k h) h2
  have : (asgS τ l).ival i = n := by
    simp only [asgS, h1]
    cases a <;> simp only [inK, Bool.false_eq_true] at h2 <;> simp only [valS, h3, iOf]
  rw [this]; exact h4
end Go.Ev
namespace Go.Ev
open Go.RowKit
set_option linter.unusedVariables false
set_option linter.unusedSimpArgs false
theorem cellsGs_get : ∀ {l : List Blk}, cellsGs l = true → ∀ (i : Nat) (k : Blk), l[i]? = some k → k ≠ .gone → (∃ c e, k = .cells c e) ∨ ∃ s n cl e, k = .lst s n cl e
  | [], _, i, k, hi, _ => by simp at hi
  | b :: l, h, 0, k, hi, hk => by
    simp at hi; subst hi
    cases b <;> simp [cellsGs] at h hk ⊢
  | b :: l, h, i + 1, k, hi, hk => by
    refine cellsGs_get (l := l) ?_ i k (by simpa using hi) hk
    cases b <;> simp [cellsGs] at h ⊢ <;> exact h
theorem HRel.grown {ng : Cx} {g : Inj} {H : List Blk} {w W' : World} {row : Option Nat} (hH : HRel ng g H w) (hn : ng.n = 0) (hm : ∀ i, g.mp i = none) (hc : cellsGs H = true) (hg : w.grownBy W' row) (hr : ∀ r, row = some r → ∃ o : Obj, w.heap[r]? = some o ∧ o.isCells = false) : HRel ng g H W' := by
  have same : ∀ (b : Nat) (o : Obj), w.heap[b]? = some o → o.isCells = true → W'.heap[b]? = w.heap[b]? := fun b o h1 h2 => grownBy_keeps_cells hg hr h1 h2
  have hsz : w.heap.size ≤ W'.heap.size := hg.size
  refine ⟨fun i L hi => ⟨(hH.dom i L hi).1, by have := (hH.dom i L hi).2; omega⟩, hH.inj, fun i k hi hk => ?_, fun i hi => by omega, hH.sig, ⟨fun i X hi hX => ?_, fun i X hi => by rw [hm] at hi; cases hi⟩⟩
  · rcases hH.blk0 i k hi hk with h | ⟨L, hL, hB⟩
    · exact .inl h
    · refine .inr ⟨L, hL, hB.of_same ?_⟩
      rcases cellsGs_get hc i k hi hk with ⟨c, e, rfl⟩ | ⟨s, n, cl, e, rfl⟩
      · obtain ⟨C, fr, h1, _⟩ := hB
        exact same _ _ h1 rfl
      · obtain ⟨S, N, C, fr, _, _, _, h1, _⟩ := hB
        exact same _ _ h1 rfl
  · obtain ⟨f1, f2⟩ := hH.frz.row i X hi hX
    refine ⟨f1.of_same ?_, f2⟩
    obtain ⟨C, e, fr, h1, _⟩ := f1
    exact same _ _ h1 rfl
end Go.Ev
namespace Go.Ev
open Go.RowKit
set_option linter.unusedVariables false
set_option linter.unusedSimpArgs false
structure E3 where
  t : Int
  k : Int
  v : Int
deriving DecidableEq, Inhabited
def cl3 : List (Option IntKind) := [some .i64, some .i64, some .u8]
def E3.enc (x : E3) : Value := .agg #[.int .i64 x.t, .int .i64 x.k, .int .u8 x.v]
def rowE (C : ByteArray) (j : Nat) : E3 := ⟨iOf (rowAtD cl3 C j 0), iOf (rowAtD cl3 C j 1), iOf (rowAtD cl3 C j 2)⟩
def uptoE (xs : Nat → E3) (c : Int) (k : Nat) : List E3 := ((List.range k).map xs).filter fun x => decide (x.t ≤ c)
theorem uptoE_succ (xs : Nat → E3) (c : Int) (k : Nat) : uptoE xs c (k + 1) = if (xs k).t ≤ c then uptoE xs c k ++ [xs k] else uptoE xs c k := by
  simp only [uptoE, List.range_succ, List.map_append, List.map_cons, List.map_nil, List.filter_append]
  split <;> rename_i h <;> simp [h]
def UpOk (P : Program) (gf : FuncId) : Prop :=
  ∀ (l Bs ds Bc dc b off len cap : Nat) (ao : Option Addr) (c : Int) (xs : Nat → E3) (J : List E3 → World → Prop) (W : World), len ≤ 9223372036854775807 → (0 < len → ao = some ⟨b, off, none⟩) → AbidesFrom W.heap.size J →
    (∀ pre W', J pre W' → W.heap.size ≤ W'.heap.size ∧ W'.cell? ⟨Bc, dc, none⟩ = some (.int .i64 c) ∧
      ∀ j, j < len → W'.cell? ⟨b, off + j * 3, none⟩ = some (.int .i64 (xs j).t) ∧ W'.cell? ⟨b, off + j * 3 + 1, none⟩ = some (.int .i64 (xs j).k) ∧ W'.cell? ⟨b, off + j * 3 + 2, none⟩ = some (.int .u8 (xs j).v)) →
    (∀ k W1, k < len → (xs k).t ≤ c → J (uptoE xs c k) W1 → YieldAt (FR none) 0 P l #[(xs k).enc] W1 fun e W' => e = .returned (.bool true) ∧ J (uptoE xs c k ++ [xs k]) W') →
    W.cell? ⟨Bs, ds, none⟩ = some (.slice ao len cap) → J [] W →
    Calls P gf #[.func (.yield l) #[] #[], .pointer (some ⟨Bs, ds, none⟩), .pointer (some ⟨Bc, dc, none⟩)] W fun e W' => (∃ v, e = .returned v) ∧ J (uptoE xs c len) W'
end Go.Ev
