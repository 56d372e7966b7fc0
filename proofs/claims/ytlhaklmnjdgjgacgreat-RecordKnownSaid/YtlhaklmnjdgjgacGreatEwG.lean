/- The operations on memory. -/
import Derived.Test.YtlhaklmnjdgjgacGreatEwF
namespace Go.Ev

/-! ### Reading -/

def loadV (P : Program) (ty : TypeId) (a : AVal) (H : List Blk) : Option AVal :=
  match a with
  | .ptr b off => match H[b]? with
    | some (.cells c _) => match P.underlying ty with
      | some _ => partA P ty c off
      | none => none
    | _ => none
  | _ => none

/-- what is read of a row's element -/
def rowLoad (P : Program) (ng : Cx) (ty : TypeId) (r : Nat) (ix : AVal) (j : Nat) : Option AVal :=
  match ng.rat r ix with
  | some cs => match P.underlying ty with
    | some _ => partA P ty cs j
    | none => none
  | none => none

def loadR (P : Program) (ng : Cx) (ty : TypeId) (a : AVal) (H : List Blk) : Option AVal :=
  match a with
  | .rptr r ix j => rowLoad P ng ty r ix j
  | a => loadV P ty a H

def intsOf : List AVal → Option (List Int)
  | [] => some []
  | .int .u8 n :: l => match intsOf l with
    | some r => some (n :: r)
    | none => none
  | _ => none

/-- The cells that a slice, or a string, has from its first element on. -/
def cellsA (size n : Nat) (x : AVal) (H : List Blk) : Option (List AVal) :=
  match x with
  | .nilslice => some []
  | .slice b off len cap _ => if n = 0 ∨ 0 < len ∨ 0 < cap then (if n * size = 0 then some [] else match H[b]? with
    | some (.cells c _) => seg c off (n * size)
    | _ => none) else none
  | .str s => if n = s.size ∧ size = 1 then some (s.toList.map fun b => AVal.int .u8 b.toNat) else none
  | _ => none

def allU8 : List AVal → Bool
  | [] => true
  | .int .u8 _ :: l => allU8 l
  | .symi .u8 _ :: l => allU8 l
  | _ => false

def bytesStr (P : Program) (ng : Cx) (src dst : TypeId) (x : AVal) (H : List Blk) : Option AVal :=
  match P.underlying src, P.underlying dst with
  | some (.slice e), some .string => match P.underlying e with
    | some (.int .u8) => match x with
      | .nilslice => some (.str .empty)
      | .slice _ _ len _ _ => match cellsA 1 len x H with
        | some l => match intsOf l with
          | some ns => some (.str ⟨(ns.map fun n => UInt8.ofNat n.toNat).toArray⟩)
          | none => match allU8 l with
            | true => symS ng (.text l)
            | false => none
        | none => none
      | _ => none
    | _ => none
  | _, _ => none

/-- A key of a kind that is compared at once, as a value. -/
def keyA (d : TypeDesc) (k : AVal) : Option Value :=
  match d, k with
  | .int kd, .int k n => if kd = k then some (.int k n) else none
  | .string, .str s => some (.string s)
  | .bool, .bool b => some (.bool b)
  | _, _ => none

def sameA : AVal → AVal → Bool
  | .int _ a, .int _ b => a == b
  | .str a, .str b => a == b
  | .bool a, .bool b => a == b
  | _, _ => false

/-- What a map has at a key; nothing, if it has not one at most, or if a key is of another kind. -/
def findA (d : TypeDesc) (k : AVal) : List (AVal × AVal) → Option (Option AVal)
  | [] => some none
  | (k', v) :: l => match keyA d k' with
    | some _ => match sameA k' k with
      | true => match findA d k l with
        | some none => some (some v)
        | _ => none
      | false => findA d k l
    | none => none

def lookupV (P : Program) (ty : TypeId) (x k : AVal) (ok : Bool) (H : List Blk) : Option AVal :=
  match P.underlying ty with
  | some (.map kt elem) => match P.underlying kt with
    | some d => match keyA d k with
      | some _ => match x with
        | .map b => match H[b]? with
          | some (.map l) => match findA d k l with
            | some (some v) => some (match ok with
              | true => .tuple [v, .bool true]
              | false => v)
            | some none => match zeroA P elem with
              | some z => some (match ok with
                | true => .tuple [z, .bool false]
                | false => z)
              | none => none
            | none => none
          | _ => none
        | _ => none
      | none => none
    | none => none
  | _ => none

/-- .. at an unknown number, by truths that are taken. -/
def findU (ng : Cx) (d : TypeDesc) (k : AVal) : List (AVal × AVal) → Option (Option AVal)
  | [] => some none
  | (k', v) :: l => match keyA d k' with
    | some _ => match symS ng (.bin .eql k k') with
      | some (.bool true) => match findA d k' l with
        | some none => some (some v)
        | _ => none
      | some (.bool false) => findU ng d k l
      | _ => none
    | none => none

def isKd (d : TypeDesc) (kd : IntKind) : Bool :=
  match d with
  | .int k => decide (k = kd)
  | _ => false

def lookupU (P : Program) (ng : Cx) (ty : TypeId) (x : AVal) (kd : IntKind) (i : Nat) (ok : Bool) (H : List Blk) : Option AVal :=
  match P.underlying ty with
  | some (.map kt elem) => match P.underlying kt with
    | some d => match isKd d kd with
      | true => match x with
        | .map b => match H[b]? with
          | some (.map l) => match findU ng d (.symi kd i) l with
            | some (some v) => some (match ok with
              | true => .tuple [v, .bool true]
              | false => v)
            | some none => match zeroA P elem with
              | some z => some (match ok with
                | true => .tuple [z, .bool false]
                | false => z)
              | none => none
            | none => none
          | _ => none
        | _ => none
      | false => none
    | none => none
  | _ => none

def lookupW (P : Program) (ng : Cx) (ty : TypeId) (x k : AVal) (ok : Bool) (H : List Blk) : Option AVal :=
  match k with
  | .symi kd i => lookupU P ng ty x kd i ok H
  | k => lookupV P ty x k ok H

/-- the block that is read, if there is one -/
def readsOf : AVal → Option Nat
  | .ptr b _ => some b
  | .slice b _ len _ _ => if len = 0 then none else some b
  | .map b => some b
  | _ => none

/-- Reads: what, and of which block. -/
def loadA (P : Program) (ng : Cx) (t : Tm) (op : Op) (H : List Blk) : Option (AVal × Option Nat) :=
  match op with
  | .load ty a => match ev ng t a with
    | some x => match loadR P ng ty x H with
      | some v => some (v, readsOf x)
      | none => none
    | none => none
  | .convert src dst x => match ev ng t x with
    | some a => match bytesStr P ng src dst a H with
      | some v => some (v, readsOf a)
      | none => none
    | none => none
  | .lookup ty x k ok => match ev ng t x, ev ng t k with
    | some a, some kv => match lookupW P ng ty a kv ok H with
      | some v => some (v, readsOf a)
      | none => none
    | _, _ => none
  | .entry it => match ev ng t it with
    | some (.ptr q 0) => match H[q]? with
      | some (.iter _ _ (some (k, v))) => some (.tuple [k, v], some q)
      | _ => none
    | _ => none
  | _ => none

section
variable {P : Program} {g : Inj} {ng : Cx} {t : Tm} {ρ : Operand → Value} {H : List Blk} {w : World}

theorem cell_of {w : World} {b : Nat} {C : Array Value} {e : TypeId} {fr : Nat × Nat} (h : w.heap[b]? = some (.cells C e fr)) (o : Nat) : w.cell? ⟨b, o, none⟩ = C[o]? := by
  simp [World.cell?, h]

theorem run_loadV (hH : HRel ng g H w) {ty : TypeId} {x r : AVal} {u : Value} (h : loadV P ty x H = some r) (hx : VRel g x u) :
    ∃ v, (Instr.loadAt ty u).run P w = .ok v w ∧ VRel g r v := by
  unfold loadV at h
  split at h
  · rename_i b off
    split at h
    · rename_i c e hb
      split at h
      · rename_i d hd
        cases hx with
        | ptr _ _ L hL =>
          obtain ⟨M, hM, C, fr, h1, h2, h3, h4, h5⟩ := hH.blk b _ hb (by simp)
          rw [hL] at hM; cases hM
          obtain ⟨i, hi⟩ := info_of_under hd
          have hsz := run_sizeOf' (P := P) w hi
          unfold partA at h
          split at h
          · rename_i hagg
            split at h
            · rename_i l hl
              cases h
              obtain ⟨vs, k1, _, k2, _, k4⟩ := CRel.seg h5 hl
              have hload := run_loadCells_list (P := P) w ⟨L.blk, L.dl + off, none⟩ vs (fun j v hj => by
                rw [addr_add, cell_of h1]
                have := k4 j v hj
                rw [show L.dl + off + j = L.dl + (off + j) by omega]; exact this)
              rw [k1, cellsOf_info hi] at hload
              refine ⟨.agg vs.toArray, ?_, .agg _ _ (by simpa using k2)⟩
              simp [Instr.loadAt, Instr.sureAddr, loadVar, run_isAgg w hd, hagg, hsz, hload]
            · cases h
          · rename_i hagg
            obtain ⟨v, k1, k2, _⟩ := h5 off r h
            refine ⟨v, ?_, k2⟩
            simp [Instr.loadAt, Instr.sureAddr, loadVar, run_isAgg w hd, hagg, cell_of h1, k1]
      · cases h
    · cases h
  · cases h

theorem run_rowLoad (hH : HRel ng g H w) {ty : TypeId} {r j : Nat} {ix v : AVal} {u : Value} (h : rowLoad P ng ty r ix j = some v) (hx : VRel g (.rptr r ix j) u) :
    ∃ v', (Instr.loadAt ty u).run P w = .ok v' w ∧ VRel g v v' := by
  unfold rowLoad at h
  split at h
  · rename_i cs hrat
    split at h
    · rename_i d hd
      cases hx with
      | rptr _ _ _ m X x1 x2 x3 =>
        obtain ⟨m', d1, d2, d3, d4⟩ := hH.sig.rat r ix cs X hrat x1
        have : m' = m := by rw [x2] at d1; cases d1; rfl
        subst this
        obtain ⟨C, e, fr, h1, h3, _⟩ := (hH.frz.row r X x1 (by omega)).1
        have h5 : CRel g cs C (X.off + m' * X.z) := by
          intro i a hi
          have hlt : i < X.z := by rw [← d3]; exact (List.getElem?_eq_some_iff.1 hi).1
          obtain ⟨y, y1, y2, y3⟩ := h3 m' i x3 hlt
          refine ⟨y, y1, ?_, y3⟩
          rw [← den_rel, d4 i a hi]
          exact y2 g
        obtain ⟨i, hi⟩ := info_of_under hd
        have hsz := run_sizeOf' (P := P) w hi
        unfold partA at h
        split at h
        · rename_i hagg
          split at h
          · rename_i l hl
            cases h
            obtain ⟨vs, k1, _, k2, _, k4⟩ := CRel.seg h5 hl
            have hload := run_loadCells_list (P := P) w ⟨X.blk, X.off + m' * X.z + j, none⟩ vs (fun jj v hj => by
              rw [addr_add, cell_of h1]
              have := k4 jj v hj
              rw [show X.off + m' * X.z + j + jj = X.off + m' * X.z + (j + jj) by omega]; exact this)
            rw [k1, cellsOf_info hi] at hload
            refine ⟨.agg vs.toArray, ?_, .agg _ _ (by simpa using k2)⟩
            simp [Instr.loadAt, Instr.sureAddr, loadVar, run_isAgg w hd, hagg, hsz, hload]
          · cases h
        · rename_i hagg
          obtain ⟨y, k1, k2, _⟩ := h5 j v h
          refine ⟨y, ?_, k2⟩
          simp [Instr.loadAt, Instr.sureAddr, loadVar, run_isAgg w hd, hagg, cell_of h1, k1]
    · cases h
  · cases h

theorem run_loadR (hH : HRel ng g H w) {ty : TypeId} {x r : AVal} {u : Value} (h : loadR P ng ty x H = some r) (hx : VRel g x u) :
    ∃ v, (Instr.loadAt ty u).run P w = .ok v w ∧ VRel g r v := by
  unfold loadR at h
  split at h
  · exact run_rowLoad hH h hx
  · exact run_loadV hH h hx

theorem intsOf_spec : ∀ {l : List AVal} {ns : List Int}, intsOf l = some ns → l = ns.map (AVal.int .u8)
  | [], ns, h => by simp [intsOf] at h; subst h; rfl
  | a :: l, ns, h => by
    unfold intsOf at h
    split at h
    · cases h; simp_all
    · rename_i n l' he
      cases he
      split at h
      · rename_i r hr
        cases h
        simp [intsOf_spec hr]
      · cases h
    · cases h

theorem LRel.ints : ∀ {ns : List Int} {vs : List Value}, LRel g (ns.map (AVal.int .u8)) vs → vs = ns.map (Value.int .u8)
  | [], vs, h => by cases h; rfl
  | n :: ns, vs, h => by
    cases h with
    | cons _ _ _ _ h1 h2 => cases h1; simp [LRel.ints h2]

theorem foldl_push_ints : ∀ (ns : List Int) (r : ByteArray), ns.foldl (fun r n => r.push (UInt8.ofNat n.toNat)) r = ⟨r.data ++ (ns.map fun n => UInt8.ofNat n.toNat).toArray⟩
  | [], r => by simp
  | n :: ns, r => by
    simp only [List.foldl_cons]
    rw [foldl_push_ints ns]
    simp [ByteArray.push]

/-- what 'firstCells' gives -/
theorem run_cellsA (hH : HRel ng g H w) {size n : Nat} {x : AVal} {u : Value} {l : List AVal} (h : cellsA size n x H = some l) (hx : VRel g x u) (hn : x = .nilslice → n = 0) :
    ∃ vs : List Value, (∀ w', w'.heap = w.heap → (Builtin.firstCells size n u).run P w' = .ok vs.toArray w') ∧ vs.length = n * size ∧ LRel g l vs ∧ (∀ v ∈ vs, v.oneCell' = true) ∧ l.length = n * size := by
  unfold cellsA at h
  split at h
  · cases h; cases hx
    refine ⟨[], fun w' _ => by simp [Builtin.firstCells], by simp [hn rfl], .nil, by simp, by simp [hn rfl]⟩
  · rename_i b off len cap ex
    split at h
    · rename_i hpos
      cases hx with
      | slice _ _ _ _ _ o' cap' L hL h0 h1' h2' =>
        split at h
        · rename_i hz
          cases h
          refine ⟨[], fun w' _ => by simp [Builtin.firstCells, loadCells, loadCellsFrom, hz], by simp [hz], .nil, by simp, by simp [hz]⟩
        · rename_i hz
          split at h
          · rename_i c e hb
            obtain ⟨M, hM, C, fr, h1, h2, h3, h4, h5⟩ := hH.blk b _ hb (by simp)
            rw [hL] at hM; cases hM
            have ho : o' = off := by
              rcases h0 with h0 | h0
              · exact h0
              · rcases hpos with hp | hp | hp
                · exfalso; exact hz (by simp [hp])
                · omega
                · omega
            subst ho
            obtain ⟨vs, k1, k0, k2, k3, k4⟩ := CRel.seg h5 h
            refine ⟨vs, fun w' hw' => ?_, k1, k2, k3, k0⟩
            have hcell : ∀ (j : Nat) (v : Value), vs[j]? = some v → w'.cell? ((⟨L.blk, L.dl + o', none⟩ : Addr).add j) = some v := by
              intro j v hj
              rw [addr_add, cell_of (by rw [hw']; exact h1)]
              have := k4 j v hj
              rw [show L.dl + o' + j = L.dl + (o' + j) by omega]; exact this
            have := run_firstCells_some (P := P) w' size n ⟨L.blk, L.dl + o', none⟩ len cap' vs k1 hcell
            exact this
          · cases h
    · cases h
  · rename_i s
    split at h
    · rename_i hc
      obtain ⟨rfl, rfl⟩ := hc
      cases h; cases hx
      refine ⟨s.toList.map fun b => Value.int .u8 b.toNat, fun w' _ => ?_, by simp [ByteArray.toList_eq], ?_, by simp [Value.oneCell'], by simp [ByteArray.toList_eq]⟩
      · have he : s.extract 0 s.size = s := by
          apply ByteArray.ext
          simp [ByteArray.extract, ByteArray.copySlice]
        simp only [Builtin.firstCells, he, Sem.run_pure]
        congr 1
        rw [ByteArray.toList_eq]
        apply Array.ext'
        simp
      · generalize s.toList = bs
        induction bs with
        | nil => exact .nil
        | cons b bs ih => exact .cons _ _ _ _ (.int _ _) ih
    · cases h
  · cases h

theorem allU8_den (σ : Sig) : ∀ {l : List AVal}, allU8 l = true → ∃ ns : List Int, l.map (den σ) = ns.map (AVal.int .u8)
  | [], _ => ⟨[], rfl⟩
  | a :: l, h => by
    unfold allU8 at h
    split at h
    · rename_i he; cases he
    · rename_i n l' he
      cases he
      obtain ⟨ns, h1⟩ := allU8_den σ h
      exact ⟨n :: ns, by simp [den, h1]⟩
    · rename_i i l' he
      cases he
      obtain ⟨ns, h1⟩ := allU8_den σ h
      exact ⟨σ.ival i :: ns, by simp [den, h1]⟩
    · cases h

theorem run_bytesStr (hH : HRel ng g H w) {src dst : TypeId} {x r : AVal} {u : Value} (h : bytesStr P ng src dst x H = some r) (hx : VRel g x u) :
    ∃ v, (convert src dst u).run P w = .ok v w ∧ VRel g r v := by
  unfold bytesStr at h
  split at h
  · rename_i e hs hd
    split at h
    · rename_i he
      split at h
      · cases h; cases hx
        exact ⟨.string .empty, by rw [run_convert_bytes_string w src dst e none 0 0 hs he hd]; simp [Conv.bytesToString], .str _⟩
      · rename_i b off len cap ex
        split at h
        · rename_i l hl
          split at h
          · rename_i ns hns
            cases h
            have := intsOf_spec hns
            subst this
            obtain ⟨vs, k1, k2, k3, _, _⟩ := run_cellsA (P := P) hH hl hx (by simp)
            have := LRel.ints k3
            subst this
            cases hx with
            | slice _ _ _ _ _ o' cap' L hL _ _ _ =>
              have hld : (loadCells ⟨L.blk, L.dl + o', none⟩ len).run P w = .ok (ns.map (Value.int .u8)).toArray w := by
                have := k1 w rfl
                simpa [Builtin.firstCells] using this
              refine ⟨.string ⟨(ns.map fun n => UInt8.ofNat n.toNat).toArray⟩, ?_, .str _⟩
              rw [run_convert_bytes_string w src dst e _ len cap' hs he hd, run_bytesToString w _ len cap' ns hld, foldl_push_ints]
              congr 3
              show (#[] : Array UInt8) ++ _ = _
              simp
          · split at h
            · rename_i hu8
              obtain ⟨q, hq1, hq2⟩ := symS_sound hH.sig h
              obtain ⟨ns, hns⟩ := allU8_den g.sig hu8
              obtain ⟨vs, k1, k2, k3, _, _⟩ := run_cellsA (P := P) hH hl hx (by simp)
              have k3' := k3.dens
              rw [hns] at k3'
              have := LRel.ints k3'
              subst this
              cases hx with
              | slice _ _ _ _ _ o' cap' L hL _ _ _ =>
                have hld : (loadCells ⟨L.blk, L.dl + o', none⟩ len).run P w = .ok (ns.map (Value.int .u8)).toArray w := by
                  have := k1 w rfl
                  simpa [Builtin.firstCells] using this
                refine ⟨.string ⟨(ns.map fun n => UInt8.ofNat n.toNat).toArray⟩, ?_, hq2 _ ?_⟩
                · rw [run_convert_bytes_string w src dst e _ len cap' hs he hd, run_bytesToString w _ len cap' ns hld, foldl_push_ints]
                  congr 3
                  show (#[] : Array UInt8) ++ _ = _
                  simp
                · simp only [evalS, Option.some.injEq] at hq1
                  have e1 : (l.map fun a => byteS (den g.sig a)) = ns.map fun n => UInt8.ofNat n.toNat := by
                    have : (l.map fun a => byteS (den g.sig a)) = (l.map (den g.sig)).map byteS := by simp
                    rw [this, hns, List.map_map]
                    rfl
                  rw [e1] at hq1
                  rw [← hq1]
                  exact .str _
            · cases h
        · cases h
      · cases h
    · cases h
  · cases h

theorem keyA_spec {d : TypeDesc} {k : AVal} {u : Value} (h : keyA d k = some u) : MapKept.IsKey d u ∧ ∀ (v : Value), VRel g k v → v = u := by
  unfold keyA at h
  split at h
  · split at h
    · rename_i hk; cases h; subst hk; exact ⟨rfl, fun v hv => by cases hv; rfl⟩
    · cases h
  · cases h; exact ⟨trivial, fun v hv => by cases hv; rfl⟩
  · cases h; exact ⟨trivial, fun v hv => by cases hv; rfl⟩
  · cases h

theorem sameA_spec {d : TypeDesc} {k k' : AVal} {u u' : Value} (h : keyA d k = some u) (h' : keyA d k' = some u') : sameA k k' = true ↔ u = u' := by
  cases d with
  | int kd =>
    cases k <;> simp only [keyA] at h <;> first | cases h | skip
    cases k' <;> simp only [keyA] at h' <;> first | cases h' | skip
    split at h
    · split at h'
      · cases h; cases h'; subst_vars; simp [sameA]
      · cases h'
    · cases h
  | string =>
    cases k <;> simp only [keyA] at h <;> first | cases h | skip
    cases k' <;> simp only [keyA] at h' <;> first | cases h' | skip
    simp [sameA, MapKept.bytes_beq]
  | bool =>
    cases k <;> simp only [keyA] at h <;> first | cases h | skip
    cases k' <;> simp only [keyA] at h' <;> first | cases h' | skip
    simp [sameA]
  | _ => simp [keyA] at h

theorem findA_spec {d : TypeDesc} {k : AVal} {u : Value} (hk : keyA d k = some u) : ∀ {l : List (AVal × AVal)} {m : List MapEntry} {r : Option AVal}, findA d k l = some r → MRel g l m →
    (∀ x ∈ m, MapKept.IsKey d x.key) ∧ (∀ x ∈ m, x.key = u → ∃ v, r = some v ∧ VRel g v x.val) ∧ (∀ v, r = some v → ∃ x ∈ m, x.key = u) := by
  intro l m r h hm
  induction hm generalizing r with
  | nil =>
    simp only [findA] at h
    cases h
    exact ⟨by simp, by simp, by simp⟩
  | cons k' v e l m h1 h2 h3 ih =>
    simp only [findA] at h
    split at h
    · rename_i u' hu'
      obtain ⟨i1, i2⟩ := keyA_spec (g := g) hu'
      have i3 := i2 _ h1
      have hs := sameA_spec hu' hk
      split at h
      · rename_i hsame
        have huu := hs.1 hsame
        split at h
        · rename_i hf
          cases h
          obtain ⟨j1, j2, j3⟩ := ih hf
          refine ⟨?_, ?_, ?_⟩
          · intro x hx
            rcases List.mem_cons.1 hx with rfl | hx
            · rw [i3]; exact i1
            · exact j1 x hx
          · intro x hx hxu
            rcases List.mem_cons.1 hx with rfl | hx
            · exact ⟨v, rfl, h2⟩
            · obtain ⟨v', hv', _⟩ := j2 x hx hxu; cases hv'
          · intro _ _; exact ⟨e, by simp, by rw [i3, huu]⟩
        · cases h
      · rename_i hsame
        obtain ⟨j1, j2, j3⟩ := ih h
        refine ⟨?_, ?_, ?_⟩
        · intro x hx
          rcases List.mem_cons.1 hx with rfl | hx
          · rw [i3]; exact i1
          · exact j1 x hx
        · intro x hx hxu
          rcases List.mem_cons.1 hx with rfl | hx
          · exact absurd (hs.2 (by rw [← i3, hxu])) (by simp [hsame])
          · exact j2 x hx hxu
        · intro v' hv'
          obtain ⟨x, hx, hxu⟩ := j3 v' hv'
          exact ⟨x, by simp [hx], hxu⟩
    · cases h

theorem findA_run {d : TypeDesc} {k : AVal} {u : Value} (hk : keyA d k = some u) {l : List (AVal × AVal)} {m es : List MapEntry} {r : Option AVal} (h : findA d k l = some r) (hm : MRel g l m) (hp : es.Perm m) :
    (r = none ∧ Instr.findNow d u es 0 = some none) ∨ ∃ v j x, r = some v ∧ Instr.findNow d u es 0 = some (some (j, x)) ∧ VRel g v x := by
  obtain ⟨j1, j2, j3⟩ := findA_spec hk h hm
  rcases MapKept.findNow_spec (keyA_spec (g := g) hk).1 es 0 (fun x hx => j1 x (hp.mem_iff.1 hx)) with ⟨h1, h2⟩ | ⟨j, e, h1, h2, h3⟩
  · refine .inl ⟨?_, h1⟩
    cases r with
    | none => rfl
    | some v =>
      obtain ⟨x, hx, hxu⟩ := j3 v rfl
      exact absurd hxu (h2 x (hp.mem_iff.2 hx))
  · obtain ⟨v, hv, hr⟩ := j2 e (hp.mem_iff.1 (List.mem_of_getElem? h2)) h3
    exact .inr ⟨v, _, e.val, hv, h1, hr⟩

theorem run_lookupV (hH : HRel ng g H w) {ty : TypeId} {x k r : AVal} {ok : Bool} {u q : Value} (h : lookupV P ty x k ok H = some r) (hx : VRel g x u) (hk : VRel g k q) :
    ∃ v, (Instr.lookup ty u q ok).run P w = .ok v w ∧ VRel g r v := by
  unfold lookupV at h
  split at h
  · rename_i kt elem hm
    split at h
    · rename_i d hd
      split at h
      · rename_i kv hkv
        obtain ⟨i1, i2⟩ := keyA_spec (g := g) hkv
        have hq := i2 _ hk
        subst hq
        split at h
        · rename_i b
          cases hx with
          | map _ L hL =>
          split at h
          · rename_i l hb
            obtain ⟨M, hM, es, cl, es', h1, h2, h3, _⟩ := hH.blk b _ hb (by simp)
            rw [hL] at hM; cases hM
            split at h
            · rename_i v hf
              rcases findA_run hkv hf h3 h2 with ⟨h9, _⟩ | ⟨v', j, y, hv', hrun, hr⟩
              · cases h9
              · cases hv'
                cases h
                cases ok
                · exact ⟨y, by simp [Instr.lookup, run_underlying hm, MapKept.run_getObj_map h1, MapKept.run_checkKey hd i1, MapKept.run_findKey hd hrun, Result.andThen], hr⟩
                · exact ⟨.tuple #[y, .bool true], by simp [Instr.lookup, run_underlying hm, MapKept.run_getObj_map h1, MapKept.run_checkKey hd i1, MapKept.run_findKey hd hrun, Result.andThen], .tuple _ _ (.cons _ _ _ _ hr (.cons _ _ _ _ (.bool _) .nil))⟩
            · rename_i hf
              split at h
              · rename_i z hz
                obtain ⟨i, zv, hi, hzv, hzr⟩ := zeroA_spec hz
                have hzero : (zeroValue elem).run P w = .ok zv w := by simp [zeroValue, typeInfo, hi, hzv]
                rcases findA_run hkv hf h3 h2 with ⟨_, hrun⟩ | ⟨v', j, y, hv', _⟩
                · cases h
                  cases ok
                  · exact ⟨zv, by simp [Instr.lookup, run_underlying hm, MapKept.run_getObj_map h1, MapKept.run_checkKey hd i1, MapKept.run_findKey hd hrun, Result.andThen, hzero], hzr g⟩
                  · exact ⟨.tuple #[zv, .bool false], by simp [Instr.lookup, run_underlying hm, MapKept.run_getObj_map h1, MapKept.run_checkKey hd i1, MapKept.run_findKey hd hrun, Result.andThen, hzero], .tuple _ _ (.cons _ _ _ _ (hzr g) (.cons _ _ _ _ (.bool _) .nil))⟩
                · cases hv'
              · cases h
            · cases h
          · cases h
        · cases h
      · cases h
    · cases h
  · cases h

theorem findU_spec {d : TypeDesc} {kd : IntKind} {i : Nat} (hg : ng.Good g.sig) (hd : isKd d kd = true) : ∀ {l : List (AVal × AVal)} {r : Option AVal}, findU ng d (.symi kd i) l = some r → findA d (.int kd (g.sig.ival i)) l = some r
  | [], r, h => h
  | (k', v) :: l, r, h => by
    simp only [findU] at h
    simp only [findA]
    have hd' : d = .int kd := by
      unfold isKd at hd
      split at hd
      · rw [of_decide_eq_true hd]
      · cases hd
    split at h
    · rename_i u hu
      have hk' : ∃ n, k' = .int kd n := by
        unfold keyA at hu
        rw [hd'] at hu
        split at hu
        · rename_i kd' k2 n he1
          cases he1
          split at hu
          · rename_i hk; exact ⟨n, by rw [hk]⟩
          · cases hu
        · rename_i he1; cases he1
        · rename_i he1; cases he1
        · cases hu
      obtain ⟨n, rfl⟩ := hk'
      have hev : ∀ b, symS ng (.bin .eql (.symi kd i) (.int kd n)) = some (.bool b) → (g.sig.ival i == n) = b := by
        intro b hs
        obtain ⟨q, h1, h2⟩ := symS_sound hg hs
        simp only [evalS, den, binS, intA, if_true, Option.some.injEq] at h1
        subst h1
        have := h2 _ (.bool _)
        generalize hv : Value.bool (g.sig.ival i == n) = vv at this
        cases this
        simpa using hv
      split at h
      · rename_i hs
        have := hev _ hs
        simp only [beq_iff_eq] at this
        split at h
        · rename_i hf
          cases h
          simp only [sameA, this, BEq.rfl]
          rw [hf]
        · cases h
      · rename_i hs
        have := hev _ hs
        have hne : (n == g.sig.ival i) = false := by
          cases hb : (n == g.sig.ival i) with
          | false => rfl
          | true => simp only [beq_iff_eq] at hb; subst hb; simp at this
        simp only [sameA, hne]
        exact findU_spec hg hd h
      · cases h
    · cases h

theorem lookupW_V (hg : ng.Good g.sig) {ty : TypeId} {x k r : AVal} {ok : Bool} (h : lookupW P ng ty x k ok H = some r) : lookupV P ty x (den g.sig k) ok H = some r ∨ lookupV P ty x k ok H = some r := by
  unfold lookupW at h
  split at h
  · rename_i kd i
    left
    unfold lookupU at h
    split at h
    · rename_i kt elem hm
      split at h
      · rename_i d hd
        split at h
        · rename_i hkd
          have hka : keyA d (.int kd (g.sig.ival i)) = some (.int kd (g.sig.ival i)) := by
            unfold isKd at hkd
            split at hkd
            · have := of_decide_eq_true hkd
              subst this
              simp [keyA]
            · cases hkd
          show lookupV P ty x (.int kd (g.sig.ival i)) ok H = some r
          split at h
          · rename_i b
            split at h
            · rename_i l hb
              split at h
              · rename_i v hf
                have := findU_spec hg hkd hf
                unfold lookupV
                rw [hm]
                simp only
                rw [hd]
                simp only
                rw [hka]
                simp only
                rw [hb]
                simp only
                rw [this]
                exact h
              · rename_i hf
                have := findU_spec hg hkd hf
                unfold lookupV
                rw [hm]
                simp only
                rw [hd]
                simp only
                rw [hka]
                simp only
                rw [hb]
                simp only
                rw [this]
                exact h
              · cases h
            · cases h
          · cases h
        · cases h
      · cases h
    · cases h
  · exact .inr h

theorem run_lookupW (hH : HRel ng g H w) {ty : TypeId} {x k r : AVal} {ok : Bool} {u q : Value} (h : lookupW P ng ty x k ok H = some r) (hx : VRel g x u) (hk : VRel g k q) :
    ∃ v, (Instr.lookup ty u q ok).run P w = .ok v w ∧ VRel g r v := by
  rcases lookupW_V hH.sig h with h | h
  · exact run_lookupV hH h hx (den_rel.2 hk)
  · exact run_lookupV hH h hx hk

theorem loadA_sound (hH : HRel ng g H w) (hρ : ERel g ng t ρ) {o : Oper} {r : AVal} {b : Option Nat} (h : loadA P ng t o.op H = some (r, b)) :
    ∃ v, (execOp ρ o).run P w = .ok (.value v) w ∧ VRel g r v := by
  obtain ⟨dst, op, type, pos, after, guard⟩ := o
  simp only at h
  unfold loadA at h
  split at h
  · rename_i ty a
    split at h
    · rename_i x hx
      split at h
      · rename_i v hv
        cases h
        obtain ⟨u, h1, h2⟩ := run_loadR (P := P) hH hv (hρ a _ hx)
        exact ⟨u, by simp [execOp, h1], h2⟩
      · cases h
    · cases h
  · rename_i src dst x
    split at h
    · rename_i a ha
      split at h
      · rename_i v hv
        cases h
        obtain ⟨u, h1, h2⟩ := run_bytesStr (P := P) hH hv (hρ x _ ha)
        exact ⟨u, by simp [execOp, h1], h2⟩
      · cases h
    · cases h
  · rename_i ty x k ok
    split at h
    · rename_i a kv ha hkv
      split at h
      · rename_i v hv
        cases h
        obtain ⟨u, h1, h2⟩ := run_lookupW (P := P) hH hv (hρ x _ ha) (hρ k _ hkv)
        exact ⟨u, by simp [execOp, h1], h2⟩
      · cases h
    · cases h
  · rename_i it
    split at h
    · rename_i q hq
      split at h
      · rename_i x l k v hb
        cases h
        obtain ⟨L, hL, X, seen, es', kd, k0, k1, k2, k3, k4⟩ := hH.blk q _ hb (by simp)
        obtain ⟨e, s0, m1, m2, m3, m4⟩ := k4 k v rfl
        obtain ⟨_, f1, _⟩ := hH.frz.mp x X k0
        have hr := hρ it _ hq
        have hh : ρ it = .pointer (some ⟨L.blk, 0, none⟩) := by
          generalize ρ it = u at hr
          cases hr with
          | ptr _ _ M hM => rw [hL] at hM; cases hM; rw [kd]
        subst m2
        have := run_entry_at (P := P) w L.blk X.blk X.cl s0 X.es X.cl e k1 f1.1 m1 f1.2.1
        refine ⟨.tuple #[e.key, e.val], ?_, .tuple _ _ (.cons _ _ _ _ m3 (.cons _ _ _ _ m4 .nil))⟩
        simp [execOp, hh, this]
      · cases h
    · cases h
  · cases h

theorem cellsA_congr {size n : Nat} {x : AVal} {l : List AVal} {H H' : List Blk} (h : cellsA size n x H = some l) (hh : ∀ b off len cap ex, x = .slice b off len cap ex → ¬ n * size = 0 → H'[b]? = H[b]?) : cellsA size n x H' = some l := by
  unfold cellsA at h ⊢
  split at h
  · exact h
  · rename_i b off len cap ex
    split at h
    · rename_i hp
      simp only [if_pos hp]
      split at h
      · rename_i hz; rw [if_pos hz]; exact h
      · rename_i hz; rw [if_neg hz, hh b off len cap ex rfl hz]; exact h
    · cases h
  · exact h
  · cases h

theorem loadA_congr {op : Op} {v : AVal} {b : Option Nat} {H H' : List Blk} (h : loadA P ng t op H = some (v, b)) (hb : ∀ x, b = some x → H'[x]? = H[x]?) : loadA P ng t op H' = some (v, b) := by
  unfold loadA at h ⊢
  split at h
  · split at h
    · rename_i x hx
      split at h
      · rename_i u hu
        cases h
        unfold loadR at hu
        split at hu
        · simp only [loadR, hu]
        · rename_i hne
          unfold loadV at hu
          split at hu
          · rename_i b off
            have := hb b rfl
            simp only [loadR, loadV, this]
            rw [hu]
          · cases hu
      · cases h
    · cases h
  · rename_i src dst xx
    split at h
    · rename_i a ha
      split at h
      · rename_i u hu
        cases h
        have : bytesStr P ng src dst a H' = some v := by
          unfold bytesStr at hu ⊢
          split at hu
          · rename_i e h1 h2
            split at hu
            · rename_i h3
              split at hu
              · exact hu
              · rename_i b off len cap ex
                split at hu
                · rename_i l hl
                  have := cellsA_congr (H' := H') hl (fun b' off' len' cap' ex' he hz => by
                    cases he
                    exact hb b (by simp only [readsOf]; rw [if_neg (by intro h0; apply hz; rw [h0])]))
                  simp only [this]; exact hu
                · cases hu
              · cases hu
            · cases hu
          · cases hu
        simp only [this]
      · cases h
    · cases h
  · rename_i ty x k ok
    split at h
    · rename_i a kv ha hkv
      split at h
      · rename_i u hu
        cases h
        have : lookupW P ng ty a kv ok H' = some v := by
          unfold lookupW at hu ⊢
          split at hu
          · unfold lookupU at hu ⊢
            split at hu
            · rename_i kt elem h1
              split at hu
              · rename_i d h2
                split at hu
                · rename_i q
                  split at hu
                  · rename_i b
                    have := hb b rfl
                    simp only [this]; exact hu
                  · cases hu
                · cases hu
              · cases hu
            · cases hu
          · unfold lookupV at hu ⊢
            split at hu
            · rename_i kt elem h1
              split at hu
              · rename_i d h2
                split at hu
                · rename_i q h3
                  split at hu
                  · rename_i b
                    have := hb b rfl
                    simp only [this]; exact hu
                  · cases hu
                · cases hu
              · cases hu
            · cases hu
        simp only [this]
      · cases h
    · cases h
  · split at h
    · rename_i q hq
      split at h
      · rename_i x l k v' hb'
        cases h
        have := hb q rfl
        simp only [this, hb']
      · cases h
    · cases h
  · cases h

theorem loadA_live {op : Op} {v : AVal} {x : Nat} {H : List Blk} (h : loadA P ng t op H = some (v, some x)) : ∃ k, H[x]? = some k ∧ k ≠ .gone := by
  unfold loadA at h
  split at h
  · split at h
    · rename_i y hy
      split at h
      · rename_i u hu
        injection h with h
        injection h with h1 h2
        unfold loadR at hu
        split at hu
        · simp [readsOf] at h2
        · unfold loadV at hu
          split at hu
          · rename_i b off
            simp only [readsOf, Option.some.injEq] at h2
            subst h2
            split at hu
            · rename_i c e hc; exact ⟨_, hc, by simp⟩
            · cases hu
          · cases hu
      · cases h
    · cases h
  · split at h
    · rename_i a ha
      split at h
      · rename_i u hu
        injection h with h
        injection h with h1 h2
        unfold bytesStr at hu
        split at hu
        · split at hu
          · split at hu
            · simp [readsOf] at h2
            · rename_i b off len cap ex
              simp only [readsOf] at h2
              split at h2
              · cases h2
              · rename_i hlen
                cases h2
                split at hu
                · rename_i l hl
                  unfold cellsA at hl
                  simp only at hl
                  split at hl
                  · rw [if_neg (by simpa using hlen)] at hl
                    split at hl
                    · rename_i c e hc; exact ⟨_, hc, by simp⟩
                    · cases hl
                  · cases hl
                · cases hu
            · cases hu
          · cases hu
        · cases hu
      · cases h
    · cases h
  · split at h
    · rename_i a kv ha hkv
      split at h
      · rename_i u hu
        injection h with h
        injection h with h1 h2
        unfold lookupW at hu
        split at hu
        · unfold lookupU at hu
          split at hu
          · split at hu
            · split at hu
              · split at hu
                · rename_i b
                  simp only [readsOf, Option.some.injEq] at h2
                  subst h2
                  split at hu
                  · rename_i l hc; exact ⟨_, hc, by simp⟩
                  · cases hu
                · cases hu
              · cases hu
            · cases hu
          · cases hu
        · unfold lookupV at hu
          split at hu
          · split at hu
            · split at hu
              · split at hu
                · rename_i b
                  simp only [readsOf, Option.some.injEq] at h2
                  subst h2
                  split at hu
                  · rename_i l hc; exact ⟨_, hc, by simp⟩
                  · cases hu
                · cases hu
              · cases hu
            · cases hu
          · cases hu
      · cases h
    · cases h
  · split at h
    · split at h
      · rename_i hb
        cases h
        exact ⟨_, hb, by simp⟩
      · cases h
    · cases h
  · cases h

theorem readsOf_dom {a : AVal} {u : Value} {x : Nat} (h : readsOf a = some x) (hr : VRel g a u) : ∃ L, g x = some L := by
  cases hr <;> simp only [readsOf] at h <;> first
    | (cases h; exact ⟨_, by assumption⟩)
    | (split at h
       · cases h
       · cases h; exact ⟨_, by assumption⟩)
    | cases h

theorem loadA_dom (hρ : ERel g ng t ρ) {op : Op} {v : AVal} {x : Nat} {H : List Blk} (h : loadA P ng t op H = some (v, some x)) : ∃ L, g x = some L := by
  unfold loadA at h
  split at h
  · split at h
    · rename_i y hy
      split at h
      · injection h with h
        injection h with h1 h2
        exact readsOf_dom h2 (hρ _ _ hy)
      · cases h
    · cases h
  · split at h
    · rename_i a ha
      split at h
      · injection h with h
        injection h with h1 h2
        exact readsOf_dom h2 (hρ _ _ ha)
      · cases h
    · cases h
  · split at h
    · rename_i a kv ha hkv
      split at h
      · injection h with h
        injection h with h1 h2
        exact readsOf_dom h2 (hρ _ _ ha)
      · cases h
    · cases h
  · split at h
    · rename_i q hq
      split at h
      · cases h
        exact readsOf_dom (a := .ptr x 0) rfl (hρ _ _ hq)
      · cases h
    · cases h
  · cases h
end
end Go.Ev
