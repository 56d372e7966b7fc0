/- Flat types (numbers, truths, arrays and structs of these): their cells, opened; and that how they read depends on no world. -/
import Derived.Test.YtlhaklmnjdgjgacGreatEwX
import Derived.OpenShut
namespace Go.Ev

def flatFs (g : TypeId → Option (List Cl)) (sz : TypeId → Nat) : List Field → Nat → Option (List Cl)
  | [], _ => some []
  | f :: fs, off => match Nat.beq f.offset off with
    | true => match g f.type with
      | some cl => match Nat.beq (sz f.type) cl.length with
        | true => match flatFs g sz fs (off + cl.length) with
          | some r => some (cl ++ r)
          | none => none
        | false => none
      | none => none
    | false => none

def repl (cl : List Cl) : Nat → List Cl
  | 0 => []
  | n + 1 => cl ++ repl cl n

def flat (P : Program) : Nat → TypeId → Option (List Cl)
  | 0, _ => none
  | n + 1, t => match P.underlying t with
    | some (.int k) => some [.i k]
    | some .bool => some [.b]
    | some (.array m e) => match flat P n e with
      | some cl => match Nat.beq (P.cellsOf e) cl.length && Nat.beq (P.cellsOf t) (repl cl m).length with
        | true => some (repl cl m)
        | false => none
      | none => none
    | some (.struct fs) => match flatFs (flat P n) P.cellsOf fs.toList 0 with
      | some cl => match Nat.beq (P.cellsOf t) cl.length with
        | true => some cl
        | false => none
      | none => none
    | _ => none

def isAgg (P : Program) (t : TypeId) : Bool :=
  match P.underlying t with
  | some (.array _ _) => true
  | some (.struct _) => true
  | _ => false

theorem encCs_append : ∀ {a b : List Cl} {l m : List Int}, InR a l → encCs (a ++ b) (l ++ m) = encCs a l ++ encCs b m
  | [], b, l, m, h => by cases (show l = [] from h); simp [encCs]
  | c :: a, b, [], m, h => by cases h
  | c :: a, b, n :: l, m, h => by simp [encCs, encCs_append (b := b) (m := m) h.2]

theorem inR_append : ∀ {a b : List Cl} {l m : List Int}, InR a l → InR b m → InR (a ++ b) (l ++ m)
  | [], b, l, m, h, h' => by cases (show l = [] from h); simpa using h'
  | c :: a, b, [], m, h, _ => by cases h
  | c :: a, b, n :: l, m, h, h' => ⟨h.1, inR_append h.2 h'⟩

theorem encCs_length : ∀ {a : List Cl} {l : List Int}, (encCs a l).length = a.length
  | [], _ => rfl
  | c :: a, l => by simp [encCs, encCs_length]

theorem repl_length (cl : List Cl) : ∀ n, (repl cl n).length = n * cl.length
  | 0 => by simp [repl]
  | n + 1 => by simp [repl, repl_length cl n, Nat.succ_mul, Nat.add_comm]

theorem wrap_of_wf {k : IntKind} {n : Int} (h : (Lit.int k n).wf = true) : k.wrap n = n := by
  cases k <;> simp [Lit.wf, IntKind.wrap, IntKind.min, IntKind.max, IntKind.signed, IntKind.bits] at h ⊢ <;> (try split) <;> omega

theorem bool_cells (b : Bool) : ∃ l, InR [Cl.b] l ∧ [Value.bool b] = encCs [Cl.b] l := by
  cases b
  · exact ⟨[0], ⟨.inl rfl, rfl⟩, rfl⟩
  · exact ⟨[1], ⟨.inr rfl, rfl⟩, rfl⟩

section
variable {H : Type} {enc : TypeId × Value → H} {P : Program} {w : World} {base : Nat} {sp : Nat → Bool} {held : Bool}

theorem flatFs_open {g : TypeId → Option (List Cl)} {cs : List Value} {T : TypeId → List Value → Prop} (hg : ∀ t cl us, g t = some cl → T t us → ∃ l, InR cl l ∧ us = encCs cl l) :
    ∀ {fs : List Field} {off : Nat} {cl : List Cl}, flatFs g P.cellsOf fs off = some cl → (∀ f, f ∈ fs → T f.type ((cs.drop f.offset).take (P.cellsOf f.type))) → cs.length = off + cl.length →
      ∃ l, InR cl l ∧ cs.drop off = encCs cl l
  | [], off, cl, h, _, hl => by
    simp only [flatFs, Option.some.injEq] at h
    subst h
    refine ⟨[], rfl, ?_⟩
    simp only [encCs, List.drop_eq_nil_iff]
    simp at hl; omega
  | f :: fs, off, cl, h, ht, hl => by
    simp only [flatFs] at h
    split at h
    · rename_i ho
      have ho := Nat.eq_of_beq_eq_true ho
      split at h
      · rename_i c1 h1
        split at h
        · rename_i hs
          have hs := Nat.eq_of_beq_eq_true hs
          split at h
          · rename_i c2 h2
            cases h
            simp only [List.length_append] at hl
            obtain ⟨l1, i1, e1⟩ := hg _ _ _ h1 (ht f (by simp))
            obtain ⟨l2, i2, e2⟩ := flatFs_open hg h2 (fun f' hf => ht f' (by simp [hf])) (by omega)
            refine ⟨l1 ++ l2, inR_append i1 i2, ?_⟩
            rw [encCs_append i1, ← e1, ← e2, ho, hs]
            rw [← List.drop_drop, List.take_append_drop]
          · cases h
        · cases h
      · cases h
    · cases h

theorem arr_open {cs : List Value} {cl : List Cl} {s m : Nat} (hs : s = cl.length) (hl : cs.length = m * s) (hg : ∀ i, i < m → ∃ l, InR cl l ∧ (cs.drop (i * s)).take s = encCs cl l) :
    ∀ {j i : Nat}, i + j = m → ∃ l, InR (repl cl j) l ∧ cs.drop (i * s) = encCs (repl cl j) l
  | 0, i, h => by
    refine ⟨[], rfl, ?_⟩
    have : i = m := by omega
    subst this
    simp [repl, encCs, List.drop_eq_nil_iff, hl]
  | j + 1, i, h => by
    obtain ⟨l1, i1, e1⟩ := hg i (by omega)
    obtain ⟨l2, i2, e2⟩ := arr_open hs hl hg (j := j) (i := i + 1) (by omega)
    refine ⟨l1 ++ l2, inR_append i1 i2, ?_⟩
    simp only [repl]
    rw [encCs_append i1, ← e1, ← e2, Nat.succ_mul, ← List.drop_drop, List.take_append_drop]

theorem open_flat : ∀ (n : Nat) {t : TypeId} {cl : List Cl} {fuel : Nat} {cs : List Value} {x : DataW H × List MemPlace}, flat P n t = some cl → DataW.trod enc P w base sp held fuel t cs = some x →
    (∃ l, InR cl l ∧ cs = encCs cl l) ∧ x.2 = []
  | 0, _, _, _, _, _, h, _ => by simp [flat] at h
  | n + 1, t, cl, fuel, cs, x, h, hx => by
    simp only [flat] at h
    split at h
    · rename_i k ht
      cases h
      cases fuel with
      | zero => simp [DataW.trod] at hx
      | succ fuel =>
        unfold DataW.trod at hx
        rw [ht] at hx
        split at hx <;> simp_all
        obtain ⟨⟨rfl, hw⟩, rfl⟩ := hx
        refine ⟨⟨[_], ⟨wrap_of_wf hw, rfl⟩, ?_⟩, rfl⟩
        simp [encCs, encC, wrap_of_wf hw]
    · rename_i ht
      cases h
      cases fuel with
      | zero => simp [DataW.trod] at hx
      | succ fuel =>
        unfold DataW.trod at hx
        rw [ht] at hx
        split at hx <;> simp_all
        subst hx
        exact ⟨bool_cells _, rfl⟩
    · rename_i m e ht
      split at h
      · rename_i c1 h1
        split at h
        · rename_i hb
          cases h
          simp only [Bool.and_eq_true] at hb
          have hs := Nat.eq_of_beq_eq_true hb.1
          have hz := Nat.eq_of_beq_eq_true hb.2
          obtain ⟨xs, m', rfl, rfl, hl, hxl, hf⟩ := DataW.trod_array ht hx
          rw [hz, repl_length, ← hs] at hl
          refine ⟨?_, ?_⟩
          · have := arr_open (cs := cs) (cl := c1) (m := m) hs hl (fun i hi => by
              have h2 := hf i hi
              rw [List.getElem?_eq_getElem (by omega)] at h2
              exact (open_flat n h1 h2).1) (j := m) (i := 0) (by omega)
            simpa using this
          · simp only [List.flatMap_eq_nil_iff]
            intro y hy
            obtain ⟨i, hi, rfl⟩ := List.getElem_of_mem hy
            have h2 := hf i (by omega)
            rw [List.getElem?_eq_getElem hi] at h2
            exact (open_flat n h1 h2).2
        · cases h
      · cases h
    · rename_i fs ht
      split at h
      · rename_i c1 h1
        split at h
        · rename_i hb
          cases h
          have hz := Nat.eq_of_beq_eq_true hb
          obtain ⟨xs, m', rfl, rfl, hl, hxl, hf⟩ := DataW.trod_struct ht hx
          rw [hz] at hl
          refine ⟨?_, ?_⟩
          · have := flatFs_open (P := P) (g := flat P n) (cs := cs) (T := fun t us => ∃ y, DataW.trod enc P w base sp held m' t us = some y)
              (fun t cl us h2 ⟨y, hy⟩ => (open_flat n h2 hy).1) h1 (fun f hfm => by
                obtain ⟨i, hi, rfl⟩ := List.getElem_of_mem hfm
                have h2 := hf i _ (by rw [← Array.getElem?_toList]; exact List.getElem?_eq_getElem hi)
                refine ⟨_, h2.trans (List.getElem?_eq_getElem (by rw [hxl]; simpa using hi))⟩) (by omega)
            simpa using this
          · simp only [List.flatMap_eq_nil_iff]
            intro y hy
            obtain ⟨i, hi, rfl⟩ := List.getElem_of_mem hy
            have hi' : i < fs.size := by omega
            have h2 := hf i fs[i] (by simp [hi'])
            rw [List.getElem?_eq_getElem hi] at h2
            have hm : ∃ c, flat P n fs[i].type = some c := by
              have : ∀ {l : List Field} {off : Nat} {c : List Cl}, flatFs (flat P n) P.cellsOf l off = some c → ∀ f, f ∈ l → ∃ c, flat P n f.type = some c := by
                intro l
                induction l with
                | nil => intro _ _ _ f hf; cases hf
                | cons a r ih =>
                  intro off c h f hf
                  simp only [flatFs] at h
                  split at h
                  · split at h
                    · rename_i c' h'
                      split at h
                      · split at h
                        · rename_i c2 h2
                          rcases List.mem_cons.1 hf with rfl | hf
                          · exact ⟨_, h'⟩
                          · exact ih h2 f hf
                        · cases h
                      · cases h
                    · cases h
                  · cases h
              exact this h1 _ (by simp)
            obtain ⟨c, hc⟩ := hm
            exact (open_flat n hc h2).2
        · cases h
      · cases h
    · cases h


theorem mapM_congr' {α β : Type} {f g : α → Option β} : ∀ {l : List α}, (∀ a, a ∈ l → f a = g a) → l.mapM f = l.mapM g
  | [], _ => rfl
  | a :: l, h => by
    simp only [List.mapM_cons]
    rw [h a (by simp), mapM_congr' (l := l) (fun b hb => h b (by simp [hb]))]

theorem flatFs_mem {g : TypeId → Option (List Cl)} {sz : TypeId → Nat} : ∀ {l : List Field} {off : Nat} {c : List Cl}, flatFs g sz l off = some c → ∀ f, f ∈ l → ∃ c, g f.type = some c := by
  intro l
  induction l with
  | nil => intro _ _ _ f hf; cases hf
  | cons a r ih =>
    intro off c h f hf
    simp only [flatFs] at h
    split at h
    · split at h
      · rename_i c' h'
        split at h
        · split at h
          · rename_i c2 h2
            rcases List.mem_cons.1 hf with rfl | hf
            · exact ⟨_, h'⟩
            · exact ih h2 f hf
          · cases h
        · cases h
      · cases h
    · cases h

theorem flat_any {w' : World} {base' : Nat} {sp' : Nat → Bool} {held' : Bool} : ∀ (n : Nat) {t : TypeId} {cl : List Cl}, flat P n t = some cl → ∀ (fuel : Nat) (cs : List Value),
    DataW.trod enc P w base sp held fuel t cs = DataW.trod enc P w' base' sp' held' fuel t cs
  | 0, _, _, h => by simp [flat] at h
  | n + 1, t, cl, h => by
    intro fuel cs
    cases fuel with
    | zero => rfl
    | succ fuel =>
    simp only [flat] at h
    split at h
    · rename_i k ht
      unfold DataW.trod
      rw [ht]
      split <;> simp_all
    · rename_i ht
      unfold DataW.trod
      rw [ht]
      split <;> simp_all
    · rename_i m e ht
      split at h
      · rename_i c1 h1
        unfold DataW.trod
        rw [ht]
        simp only [flat_any (w' := w') (base' := base') (sp' := sp') (held' := held') n h1 fuel]
      · cases h
    · rename_i fs ht
      split at h
      · rename_i c1 h1
        unfold DataW.trod
        rw [ht]
        have := mapM_congr' (l := fs.toList) (f := fun f => DataW.trod enc P w base sp held fuel f.type ((cs.drop f.offset).take (P.cellsOf f.type))) (g := fun f => DataW.trod enc P w' base' sp' held' fuel f.type ((cs.drop f.offset).take (P.cellsOf f.type)))
          (fun f hf => by obtain ⟨c, hc⟩ := flatFs_mem h1 f hf; exact flat_any n hc fuel _)
        simp only [this]
      · cases h
    · cases h

theorem shut_flat {w' : World} {base' : Nat} {sp' : Nat → Bool} {held' : Bool} {n : Nat} {t : TypeId} {cl : List Cl} {v : Value} {d : DataW H} {ps : List MemPlace} (hf : flat P n t = some cl) (hd : DataW.Trod enc P w base sp held t v d ps) :
    DataW.Trod enc P w' base' sp' held' t v d ps := by
  obtain ⟨fuel, h⟩ := hd
  exact ⟨fuel, by rw [← flat_any n hf]; exact h⟩

theorem open_agg {n : Nat} {t : TypeId} {cl : List Cl} {v : Value} {d : DataW H} {ps : List MemPlace} {r : Reach} {b0 : Nat} (hf : flat P n t = some cl) (ha : isAgg P t = true) (hv : Value.okWide P w r b0 t v)
    (hd : DataW.Trod enc P w base sp held t v d ps) : ∃ l, InR cl l ∧ v = .agg (encCs cl l).toArray ∧ ps = [] := by
  obtain ⟨cs, rfl⟩ : ∃ cs, v = .agg cs := by
    unfold isAgg at ha
    split at ha
    · rename_i ht
      obtain ⟨cs, rfl, _⟩ : ∃ cs, v = .agg cs ∧ cs.size = P.cellsOf t ∧ Row.okWide P w r b0 t cs := by simpa [Value.okWide, ht] using hv
      exact ⟨cs, rfl⟩
    · rename_i ht
      obtain ⟨cs, rfl, _⟩ : ∃ cs, v = .agg cs ∧ cs.size = P.cellsOf t ∧ Row.okWide P w r b0 t cs := by simpa [Value.okWide, ht] using hv
      exact ⟨cs, rfl⟩
    · cases ha
  obtain ⟨fuel, h⟩ := hd
  obtain ⟨⟨l, hl, hc⟩, hp⟩ := open_flat n hf h
  refine ⟨l, hl, ?_, hp⟩
  rw [← show cs.toList = encCs cl l from hc]

theorem encS_agg {cl : List Cl} {r : List Sh} {l m : List Int} (h : InR cl l) : encS (.agg cl :: r) (l ++ m) = .agg (encCs cl l).toArray :: encS r m := by
  have e : encCs cl (l ++ m) = encCs cl l := by
    have := encCs_append (b := []) (m := m) h
    simpa [encCs] using this
  have hl := inR_length h
  simp only [encS, e, List.cons.injEq, true_and]
  rw [← hl, List.drop_left]

end
end Go.Ev
