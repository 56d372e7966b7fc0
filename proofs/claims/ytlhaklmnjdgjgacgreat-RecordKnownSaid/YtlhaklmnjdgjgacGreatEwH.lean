/- New blocks; writing, append, copy. -/
import Derived.Test.YtlhaklmnjdgjgacGreatEwG
namespace Go.Ev

def repL (l : List AVal) : Nat → List AVal
  | 0 => []
  | n + 1 => l ++ repL l n

def allScalar : List AVal → Bool
  | [] => true
  | a :: l => scalar a && allScalar l

/-- how a new block is named -/
inductive Mk where
  | ptr
  | slice (len cap : Nat) (ex : Option Nat)

def Mk.val (m : Mk) (id : Nat) : AVal :=
  match m with
  | .ptr => .ptr id 0
  | .slice len cap ex => .slice id 0 len cap ex

/-- What makes a new block and touches no other: its cells, its element type, and what names it. -/
def freshA (P : Program) (ng : Cx) (t : Tm) (op : Op) : Option (List AVal × TypeId × Mk) :=
  match op with
  | .alloc e => match zeroA P e with
    | some z => match allScalar (acells z) with
      | true => some (acells z, e, .ptr)
      | false => none
    | none => none
  | .box e x => match ev ng t x with
    | some a => match allScalar (acells a) with
      | true => some (acells a, e, .ptr)
      | false => none
    | none => none
  | .buildSlice ty n parts => match P.underlying ty with
    | some (.slice e) => match P.info? e, zeroA P e, evP ng t parts.toList with
      | some ie, some z, some l =>
        if n * ie.size ≤ 16777216 ∧ (acells z).length = ie.size then
          match fillA (fun i => some (i * ie.size, ie.size)) (repL (acells z) n) l with
          | some c => match allScalar c with
            | true => some (c, e, .slice n n none)
            | false => none
          | none => none
        else none
      | _, _, _ => none
    | _ => none
  | .makeSlice ty l c => match P.underlying ty, ev ng t l, ev ng t c with
    | some (.slice e), some (.int _ l), some (.int _ c) => match P.info? e, zeroA P e with
      | some ie, some z =>
        if (0 ≤ l ∧ l ≤ c) ∧ (ie.bytes : Int) * c ≤ 281474976710656 ∧ c ≤ 9223372036854775807 ∧ (acells z).length = ie.size then
          match allScalar (acells z) with
          | true => some (repL (acells z) c.toNat, e, .slice l.toNat c.toNat none)
          | false => none
        else none
      | _, _ => none
    | _, _, _ => none
  | .convert src dst x => match P.underlying src, P.underlying dst with
    | some .string, some (.slice e) => match P.underlying e, ev ng t x with
      | some (.int .u8), some (.str s) => some (s.toList.map fun b => AVal.int .u8 b.toNat, e, .slice s.size s.size (some 1))
      | some (.int .u8), some (.syms i) => match strCells ng i with
        | some l => some (l, e, .slice l.length l.length (some 1))
        | none => none
      | _, _ => none
    | _, _ => none
  | _ => none

theorem bytesRow_one {s : ByteArray} {cap : Nat} : ∀ v, v ∈ (bytesRow s cap).toList → v.oneCell' = true := by
  intro v hv
  simp only [bytesRow, Array.toList_append, List.mem_append, Array.toList_map, List.mem_map, Array.toList_replicate] at hv
  rcases hv with ⟨b, _, rfl⟩ | hv
  · rfl
  · rw [List.eq_of_mem_replicate hv]; rfl

theorem allScalar_rel {g : Inj} : ∀ {l : List AVal} {m : List Value}, allScalar l = true → LRel g l m → ∀ v ∈ m, v.oneCell' = true
  | [], _, _, hr => by cases hr; simp
  | a :: l, _, h, hr => by
    cases hr with
    | cons _ v _ m hv hr =>
    simp only [allScalar, Bool.and_eq_true] at h
    intro u hu
    rcases List.mem_cons.1 hu with rfl | hu
    · exact hv.scalar h.1
    · exact allScalar_rel h.2 hr u hu

theorem repL_length (l : List AVal) : ∀ n, (repL l n).length = n * l.length
  | 0 => by simp [repL]
  | n + 1 => by simp [repL, repL_length l n, Nat.add_mul, Nat.add_comm]

theorem repL_get (l : List AVal) : ∀ (n i : Nat), i < n * l.length → (repL l n)[i]? = l[i % l.length]?
  | 0, i, h => by simp at h
  | n + 1, i, h => by
    simp only [repL]
    by_cases hi : i < l.length
    · rw [List.getElem?_append_left hi, Nat.mod_eq_of_lt hi]
    · rw [List.getElem?_append_right (by omega)]
      have h1 : i - l.length < n * l.length := by
        rw [Nat.add_mul] at h; omega
      rw [repL_get l n _ h1]
      congr 1
      have := Nat.mod_eq_sub_mod (a := i) (b := l.length) (by omega)
      exact this.symm

theorem repL_rel {g : Inj} {l : List AVal} {C : Array Value} (h : LRel g l C.toList) (n k : Nat) (hk : k = n * l.length) :
    LRel g (repL l n) ((Array.range k).map (C[· % C.size]!)).toList := by
  have hlen := h.length
  refine LRel.of_get (by rw [repL_length]; simp [hk]) ?_
  intro i a hi
  have hlt : i < n * l.length := by rw [← repL_length]; exact (List.getElem?_eq_some_iff.1 hi).1
  rw [repL_get l n i hlt] at hi
  obtain ⟨v, h1, h2⟩ := h.get _ _ hi
  refine ⟨v, ?_, h2⟩
  have hpos : 0 < l.length := by
    rcases Nat.eq_zero_or_pos l.length with h0 | h0
    · rw [h0] at hlt; simp at hlt
    · exact h0
  have hs : C.size = l.length := by simp at hlen; exact hlen.symm
  have hm : i % l.length < C.size := by rw [hs]; exact Nat.mod_lt _ hpos
  simp only [Array.toList_map, Array.toList_range, List.getElem?_map, hk, List.getElem?_range hlt, Option.map_some, hs]
  congr 1
  rw [getElem!_pos C _ hm]
  have h3 : C[i % l.length]? = some v := by simpa using h1
  rw [Array.getElem?_eq_getElem hm] at h3
  exact Option.some.inj h3

theorem scalar_repL {l : List AVal} (h : allScalar l = true) : ∀ n, allScalar (repL l n) = true
  | 0 => rfl
  | n + 1 => by
    simp only [repL]
    have key : ∀ (a b : List AVal), allScalar a = true → allScalar b = true → allScalar (a ++ b) = true := by
      intro a
      induction a with
      | nil => intro b _ h; simpa using h
      | cons x a ih => intro b h1 h2; simp only [allScalar, Bool.and_eq_true, List.cons_append] at h1 ⊢; exact ⟨h1.1, ih b h1.2 h2⟩
    exact key _ _ h (scalar_repL h n)

section
variable {P : Program} {g : Inj} {ng : Cx} {t : Tm} {ρ : Operand → Value} {H : List Blk} {w : World}

/-- what the new block is, in the model -/
structure Fresh (P : Program) (g : Inj) (ρ : Operand → Value) (w : World) (o : Oper) (c : List AVal) (e : TypeId) (m : Mk) (v : Value) (C : Array Value) (fr : Nat × Nat) (w0 : World) : Prop where
  run : (execOp ρ o).run P w = .ok (.value v) (w0.alloc (.cells C e fr))
  heap : w0.heap = w.heap
  os : w0.os = w.os
  tape : w0.tape = w.tape
  output : w0.output = w.output
  fr : FrOk fr C
  len : c.length ≤ C.size
  rel : CRel g c C 0
  val : ∀ g' id, g' id = some (⟨w.heap.size, 0, C.size⟩ : Loc) → VRel g' (m.val id) v

theorem freshA_sound (hρ : ERel g ng t ρ) {o : Oper} {c : List AVal} {e : TypeId} {m : Mk} (h : freshA P ng t o.op = some (c, e, m)) : ∃ v C fr w0, Fresh P g ρ w o c e m v C fr w0 := by
  obtain ⟨dt, op, type, pos, after, guard⟩ := o
  simp only at h
  unfold freshA at h
  have ptr : ∀ (sz : Nat) (g' : Inj) (id : Nat), g' id = some (⟨w.heap.size, 0, sz⟩ : Loc) → VRel g' ((Mk.ptr).val id) (.pointer (some ⟨w.heap.size, 0, none⟩)) := by
    intro sz g' id hg'
    simpa [Mk.val] using VRel.ptr id 0 _ hg'
  have slc : ∀ (sz n k : Nat) (g' : Inj) (id : Nat), g' id = some (⟨w.heap.size, 0, sz⟩ : Loc) → VRel g' ((Mk.slice n k none).val id) (.slice (some ⟨w.heap.size, 0, none⟩) n k) := by
    intro sz n k g' id hg'
    simpa [Mk.val] using VRel.slice id 0 n k none 0 k _ hg' (.inl rfl) (fun _ => rfl) (by simp)
  split at h
  · rename_i el
    split at h
    · rename_i z hz
      obtain ⟨i, zv, hi, hzv, hzr⟩ := zeroA_spec hz
      split at h
      · rename_i hs
        cases h
        have hr := (hzr g).cells
        exact ⟨_, zv.cells, (0, 0), w, by simp [execOp, Instr.alloc, zeroValue, typeInfo, hi, hzv, newVar, newRow], rfl, rfl, rfl, rfl, FrOk.zero (allScalar_rel hs hr), by have := hr.length; simp at this; omega, CRel.of_list hr (allScalar_rel hs hr), ptr _⟩
      · cases h
    · cases h
  · rename_i el x
    split at h
    · rename_i a ha
      split at h
      · rename_i hs
        cases h
        have hr := (hρ x _ ha).cells
        exact ⟨_, (ρ x).cells, (0, 0), w, by simp [execOp, Instr.box, newVar, newRow], rfl, rfl, rfl, rfl, FrOk.zero (allScalar_rel hs hr), by have := hr.length; simp at this; omega, CRel.of_list hr (allScalar_rel hs hr), ptr _⟩
      · cases h
    · cases h
  · rename_i ty n parts
    split at h
    · rename_i el hu
      split at h
      · rename_i ie z l hie hz hl
        split at h
        · rename_i hc
          obtain ⟨hc1, hc2⟩ := hc
          split at h
          · rename_i cs hf
            split at h
            · rename_i hs
              cases h
              obtain ⟨i, zv, hi, hzv, hzr⟩ := zeroA_spec hz
              rw [hie] at hi; cases hi
              obtain ⟨i1, i2⟩ := evP_rel hρ _ _ hl
              have hrep := repL_rel (hzr g).cells n (n * ie.size) (by rw [hc2])
              obtain ⟨R, hR, hRr⟩ := fillA_rel (g := g) (fun i => some (i * ie.size, ie.size)) (parts' := (parts.map fun (i, x) => (i, ρ x)).toList) hf (by simpa using i1) (by simpa using i2) hrep
              refine ⟨_, R, (0, 0), w, ?_, rfl, rfl, rfl, rfl, FrOk.zero (allScalar_rel hs hRr), by have := hRr.length; simp at this; omega, CRel.of_list hRr (allScalar_rel hs hRr), slc _ _ _⟩
              have hsm : ¬ (2 ^ 24 < n * ie.size) := by omega
              by_cases h0 : n * ie.size = 0
              · have hR' : Instr.fill (fun i => some (i * ie.size, ie.size)) (Array.map (fun x => (#[] : Array Value)[x % 0]!) (Array.range 0)) (parts.map fun (i, x) => (i, ρ x)).toList = some R := by
                  rw [h0] at hR
                  simpa [Array.range_zero'] using hR
                simp only [Array.range_zero'] at hR'
                simp [execOp, Instr.buildSlice, run_underlying hu, run_sizeOf' w hie, h0, Array.range_zero'] at hR' ⊢
                rw [hR']
                simp [newRow]
              · simp only [execOp, Sem.run_bind, run_buildSlice w ty e n _ R ie zv hu hie hzv (by omega) h0 hR, Result.andThen_ok]
                rfl
            · cases h
          · cases h
        · cases h
      · cases h
    · cases h
  · rename_i ty l c
    split at h
    · rename_i el kl l' kc c' hu hl hc
      split at h
      · rename_i ie z hie hz
        split at h
        · rename_i hcond
          obtain ⟨⟨c1, c2⟩, c3, c4, c5⟩ := hcond
          split at h
          · rename_i hs
            cases h
            obtain ⟨i, zv, hi, hzv, hzr⟩ := zeroA_spec hz
            rw [hie] at hi; cases hi
            have h1 := hρ l _ hl
            have h2 := hρ c _ hc
            have hrep := repL_rel (hzr g).cells c'.toNat (c'.toNat * ie.size) (by rw [c5])
            have hrun := run_make (P := P) w ty e ie zv hu hie hzv kl kc l' c' c1 c2 c3 c4
            cases hh1 : ρ l <;> rw [hh1] at h1 <;> cases h1
            cases hh2 : ρ c <;> rw [hh2] at h2 <;> cases h2
            refine ⟨_, madeCells zv.cells (c'.toNat * ie.size), (0, 0), w, ?_, rfl, rfl, rfl, rfl, FrOk.zero (allScalar_rel (scalar_repL hs _) hrep), by rw [repL_length, size_madeCells, c5]; exact Nat.le_refl _, CRel.of_list hrep (allScalar_rel (scalar_repL hs _) hrep), slc _ _ _⟩
            simp [execOp, hh1, hh2, hrun]
          · cases h
        · cases h
      · cases h
    · cases h
  · rename_i src dst x
    split at h
    · rename_i el hs hd
      have gen : ∀ (s : ByteArray) (cs : List AVal) (n : Nat), cs.length = s.size → n = s.size → (∀ (k : Nat) (a : AVal), cs[k]? = some a → ∃ b : UInt8, s.data.toList[k]? = some b ∧ VRel g a (.int .u8 b.toNat)) → P.underlying el = some (.int .u8) → ρ x = .string s →
          ∃ v C fr w0, Fresh P g ρ w ⟨dt, .convert src dst x, type, pos, after, guard⟩ cs el (.slice n n (some 1)) v C fr w0 := by
        intro s cs n hcs hn hcell he hh
        subst hn
        have hrun := run_bytes_of_string (P := P) w src dst el s hs hd he
        have hge := grownCap_ge w s.size 0 el
        have hsz : (bytesRow s (grownCap w s.size 0 el)).size = grownCap w s.size 0 el := by
          have : s.data.size = s.size := rfl
          simp [bytesRow, this]; omega
        refine ⟨.slice (some ⟨w.heap.size, 0, none⟩) s.size (grownCap w s.size 0 el), bytesRow s (grownCap w s.size 0 el), ((bytesRow s (grownCap w s.size 0 el)).size, (bytesRow s (grownCap w s.size 0 el)).size + 1), w.drew, by simp [execOp, hh, hrun], rfl, rfl, rfl, rfl, FrOk.behind bytesRow_one, ?_, ?_, ?_⟩
        · rw [hsz, hcs]; exact hge
        · intro i a hi
          obtain ⟨b, hb, hr⟩ := hcell i a hi
          refine ⟨.int .u8 b.toNat, ?_, hr, rfl⟩
          have hlt : i < s.data.size := by have := (List.getElem?_eq_some_iff.1 hb).1; simpa using this
          have hb' : s.data[i] = b := by
            have := (List.getElem?_eq_some_iff.1 hb).2; simpa using this
          have hlt' : i < s.size := hlt
          simp [bytesRow, Array.getElem?_append, hlt']
          rw [hb']
        · intro g' id hg'
          rw [hsz] at hg'
          simpa [Mk.val] using VRel.slice id 0 s.size s.size (some 1) 0 (grownCap w s.size 0 el) _ hg' (.inl rfl) (by simp) (fun z hz => by cases hz; exact ⟨hge, by simp⟩)
      split at h
      · rename_i s he hx
        cases h
        have h1 := hρ x _ hx
        cases hh : ρ x <;> rw [hh] at h1 <;> cases h1
        refine gen s (s.toList.map fun b => AVal.int .u8 b.toNat) s.size (by simp [ByteArray.toList_eq]) rfl (fun k a ha => ?_) he hh
        simp only [List.getElem?_map, Option.map_eq_some_iff] at ha
        obtain ⟨b, hb, rfl⟩ := ha
        rw [ByteArray.toList_eq] at hb
        exact ⟨b, hb, .int _ _⟩
      · rename_i i he hx
        split at h
        · rename_i l hl
          cases h
          have h1 := hρ x _ hx
          cases hh : ρ x <;> rw [hh] at h1 <;> cases h1
          obtain ⟨c1, c2⟩ := strCells_spec hρ.sig hl
          exact gen (g.sig.sval i) _ _ c1 c1 c2 he hh
        · cases h
      · cases h
    · cases h
  · cases h

/-! ### Writing -/

def storeV (P : Program) (ty : TypeId) (a v : AVal) (hp : Hp) : Option Hp :=
  match a with
  | .ptr b off => match hp.heap[b]? with
    | some (.cells c e) => match P.info? ty with
      | some i =>
        if (acells v).length = i.size ∧ off + (acells v).length ≤ c.length then
          match allScalar (acells v) with
          | true => some ⟨hp.heap.set b (.cells (setsA c off (acells v)) e), b :: hp.log⟩
          | false => none
        else none
      | none => none
    | _ => none
  | _ => none

theorem foldl_one : ∀ (us : List Value) (i off : Nat) (C : Array Value), (∀ u ∈ us, u.oneCell' = true) → (∀ v, v ∈ C.toList → v.oneCell' = true) → ∀ v, v ∈ ((us.zipIdx i).foldl (fun cs (x : Value × Nat) => cs.setIfInBounds (off + x.2) x.1) C).toList → v.oneCell' = true
  | [], _, _, _, _, h, v, hv => h v hv
  | u :: us, i, off, C, hu, h, v, hv => by
    simp only [List.zipIdx_cons, List.foldl_cons] at hv
    refine foldl_one us (i + 1) off _ (fun u hu' => hu u (List.mem_cons_of_mem _ hu')) (fun v hv => ?_) v hv
    rw [Array.toList_setIfInBounds] at hv
    rcases List.mem_or_eq_of_mem_set hv with h1 | h1
    · exact h v h1
    · subst h1; exact hu _ (List.mem_cons_self ..)

theorem BRel.sets {g : Inj} {w' : World} {c : List AVal} {e : TypeId} {L : Loc} {C : Array Value} {fr : Nat × Nat} {vs : List AVal} {us : List Value} {off : Nat}
    (h2 : C.size = L.dl + L.n) (h3 : FrOk fr C) (h4 : c.length ≤ L.n) (h5 : CRel g c C L.dl) (hr : LRel g vs us) (h1 : ∀ u ∈ us, u.oneCell' = true)
    (hle : off + vs.length ≤ c.length)
    (hw : w'.heap[L.blk]? = some (.cells ((us.zipIdx 0).foldl (fun cs (x : Value × Nat) => cs.setIfInBounds (L.dl + off + x.2) x.1) C) e fr)) : BRel g w' (.cells (setsA c off vs) e) L := by
  have := CRel.sets (d := L.dl) off 0 hr h1 h5 (by omega)
  refine ⟨_, fr, hw, by rw [foldl_size]; exact h2, ⟨by rw [foldl_size]; exact h3.not, by rw [foldl_size]; exact h3.eq, foldl_one us 0 _ C h1 h3.one⟩, by rw [setsA_length]; exact h4, this⟩

theorem storeV_sound {hp hp' : Hp} (hH : HRel ng g hp.heap w) {ty : TypeId} {a v : AVal} {ua uv : Value} (h : storeV P ty a v hp = some hp') (ha : VRel g a ua) (hv : VRel g v uv) :
    ∃ w', (Instr.storeAt ty ua uv).run P w = .ok () w' ∧ HRel ng g hp'.heap w' ∧ Ext g hp.heap w g hp'.heap w' := by
  unfold storeV at h
  split at h
  · rename_i b off
    split at h
    · rename_i c e hb
      split at h
      · rename_i i hi
        split at h
        · rename_i hc
          split at h
          · rename_i hs
            cases h
            cases ha with
            | ptr _ _ L hL =>
              obtain ⟨M, hM, C, fr, h1, h2, h3, h4, h5⟩ := hH.blk b _ hb (by simp)
              rw [hL] at hM; cases hM
              have hr := hv.cells
              have hlen := hr.length
              have hone := allScalar_rel hs hr
              have hle : L.dl + off + 0 + uv.cells.toList.length ≤ C.size := by omega
              obtain ⟨w', k1, k2, k3⟩ := storeCells_ok (P := P) L.blk (L.dl + off) e fr uv.cells.toList 0 C w h1 h3.1 hle hone
              have hsz : uv.cells.size = i.size := by simp at hlen; omega
              have hB := BRel.sets (g := g) (e := e) h2 h3 h4 h5 hr hone (by omega) k3
              obtain ⟨r1, r2⟩ := hH.write hb hL k2 hB
              refine ⟨w', ?_, r1, r2⟩
              simp only [Instr.storeAt, Instr.sureAddr, storeVar, Sem.run_bind, Sem.run_pure, Result.andThen_ok, run_sizeOf' w hi, hsz]
              simp [k1]
          · cases h
        · cases h
      · cases h
    · cases h
  · cases h
end
end Go.Ev
