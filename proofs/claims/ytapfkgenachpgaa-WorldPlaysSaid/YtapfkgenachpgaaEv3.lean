/- The evaluator, part 3. -/
import Derived.Test.YtapfkgenachpgaaEv2
namespace Go.Ev
def loadV (P : Program) (ty : TypeId) (a : AVal) (H : List Blk) : Option AVal :=
  match a with
  | .ptr b off => match H[b]? with
    | some (.cells c _) => match P.underlying ty with
      | some _ => partA P ty c off
      | none => none
    | _ => none
  | _ => none
def rowLoad (P : Program) (ng : Cx) (ty : TypeId) (r : Nat) (ix : AVal) (j : Nat) : Option AVal :=
  match ng.rat r ix with
  | some cs => match P.underlying ty with
    | some _ => partA P ty cs j
    | none => none
  | none => none
def cellsO (ng : Cx) (cl : List (Option IntKind)) (s ix : AVal) : Nat → Option (List AVal)
  | 0 => some []
  | n + 1 => match cellsO ng cl s ix n with
    | some l => match symS ng (.sop (.cell cl n) [s, ix]) with
      | some a => some (l ++ [a])
      | none => none
    | none => none
def lstLoad (P : Program) (ng : Cx) (ty : TypeId) (b z : Nat) (ix : AVal) (j : Nat) (H : List Blk) : Option AVal :=
  match H[b]? with
  | some (.lst s n cl _) => match Nat.beq cl.length z && (leqT ng (.int .i64 0) ix && lssT ng ix n) with
    | true => match cellsO ng cl s ix z with
      | some cs => match P.underlying ty with
        | some _ => partA P ty cs j
        | none => none
      | none => none
    | false => none
  | _ => none
def loadR (P : Program) (ng : Cx) (ty : TypeId) (a : AVal) (H : List Blk) : Option AVal :=
  match a with
  | .rptr r ix j => rowLoad P ng ty r ix j
  | .lptr b z ix j => lstLoad P ng ty b z ix j H
  | a => loadV P ty a H
def intsOf : List AVal → Option (List Int)
  | [] => some []
  | .int .u8 n :: l => match intsOf l with
    | some r => some (n :: r)
    | none => none
  | _ => none
def cellsA (size n : Nat) (x : AVal) (H : List Blk) : Option (List AVal) :=
  match x with
  | .nilslice => some []
  | .slice b off len cap _ => if n = 0 ∨ 0 < len ∨ 0 < cap then (if n * size = 0 then some [] else match H[b]? with
    | some (.cells c _) => seg c off (n * size)
    | _ => none) else none
  | .str s => if n = s.size ∧ size = 1 then some (s.toList.map fun b => AVal.int .u8 b.toNat) else none
  | _ => none
def allU8 : List AVal → Bool
  | [] => true
  | .int .u8 _ :: l => allU8 l
  | .symi .u8 _ :: l => allU8 l
  | _ => false
def bytesStr (P : Program) (ng : Cx) (src dst : TypeId) (x : AVal) (H : List Blk) : Option AVal :=
  match P.underlying src, P.underlying dst with
  | some (.slice e), some .string => match P.underlying e with
    | some (.int .u8) => match x with
      | .nilslice => some (.str .empty)
      | .slice _ _ len _ _ => match cellsA 1 len x H with
        | some l => match intsOf l with
          | some ns => some (.str ⟨(ns.map fun n => UInt8.ofNat n.toNat).toArray⟩)
          | none => match allU8 l with
            | true => symS ng (.text l)
            | false => none
        | none => none
      | .row i => match ng.rstr i with
        | some (s, cl) => match decide (cl = [some .u8]) with
          | true => some s
          | false => none
        | none => none
      | .crow i => match ng.rstr i with
        | some (s, cl) => match decide (cl = [some .u8]) with
          | true => some s
          | false => none
        | none => none
      | .lsl b z _ off n => match H[b]? with
        | some (.lst s nb cl _) => match decide (cl = [some .u8]) && (Nat.beq z 1 && (isZ off && (sameNum n nb && lssT ng (.int .i64 0) n))) with
          | true => some s
          | false => none
        | _ => none
      | _ => none
    | _ => none
  | _, _ => none
def keyA (d : TypeDesc) (k : AVal) : Option Value :=
  match d, k with
  | .int kd, .int k n => if kd = k then some (.int k n) else none
  | .string, .str s => some (.string s)
  | .bool, .bool b => some (.bool b)
  | _, _ => none
def sameA : AVal → AVal → Bool
  | .int _ a, .int _ b => a == b
  | .str a, .str b => a == b
  | .bool a, .bool b => a == b
  | _, _ => false
def findA (d : TypeDesc) (k : AVal) : List (AVal × AVal) → Option (Option AVal)
  | [] => some none
  | (k', v) :: l => match keyA d k' with
    | some _ => match sameA k' k with
      | true => match findA d k l with
        | some none => some (some v)
        | _ => none
      | false => findA d k l
    | none => none
def lookupV (P : Program) (ty : TypeId) (x k : AVal) (ok : Bool) (H : List Blk) : Option AVal :=
  match P.underlying ty with
  | some (.map kt elem) => match P.underlying kt with
    | some d => match keyA d k with
      | some _ => match x with
        | .map b => match H[b]? with
          | some (.map l) => match findA d k l with
            | some (some v) => some (match ok with
              | true => .tuple [v, .bool true]
              | false => v)
            | some none => match zeroA P elem with
              | some z => some (match ok with
                | true => .tuple [z, .bool false]
                | false => z)
              | none => none
            | none => none
          | _ => none
        | _ => none
      | none => none
    | none => none
  | _ => none
def findU (ng : Cx) (d : TypeDesc) (k : AVal) : List (AVal × AVal) → Option (Option AVal)
  | [] => some none
  | (k', v) :: l => match keyA d k' with
    | some _ => match symS ng (.bin .eql k k') with
      | some (.bool true) => match findA d k' l with
        | some none => some (some v)
        | _ => none
      | some (.bool false) => findU ng d k l
      | _ => none
    | none => none
def isKd (d : TypeDesc) (kd : IntKind) : Bool :=
  match d with
  | .int k => decide (k = kd)
  | _ => false
def lookupU (P : Program) (ng : Cx) (ty : TypeId) (x : AVal) (kd : IntKind) (i : Nat) (ok : Bool) (H : List Blk) : Option AVal :=
  match P.underlying ty with
  | some (.map kt elem) => match P.underlying kt with
    | some d => match isKd d kd with
      | true => match x with
        | .map b => match H[b]? with
          | some (.map l) => match findU ng d (.symi kd i) l with
            | some (some v) => some (match ok with
              | true => .tuple [v, .bool true]
              | false => v)
            | some none => match zeroA P elem with
              | some z => some (match ok with
                | true => .tuple [z, .bool false]
                | false => z)
              | none => none
            | none => none
          | _ => none
        | _ => none
      | false => none
    | none => none
  | _ => none
def lookupW (P : Program) (ng : Cx) (ty : TypeId) (x k : AVal) (ok : Bool) (H : List Blk) : Option AVal :=
  match k with
  | .symi kd i => lookupU P ng ty x kd i ok H
  | k => lookupV P ty x k ok H
def readsOf : AVal → Option Nat
  | .ptr b _ => some b
  | .slice b _ len _ _ => if len = 0 then none else some b
  | .map b => some b
  | .lptr b _ _ _ => some b
  | .lsl b _ _ _ _ => some b
  | _ => none
def loadA (P : Program) (ng : Cx) (t : Tm) (op : Op) (H : List Blk) : Option (AVal × Option Nat) :=
  match op with
  | .load ty a => match ev ng t a with
    | some x => match loadR P ng ty x H with
      | some v => some (v, readsOf x)
      | none => none
    | none => none
  | .convert src dst x => match ev ng t x with
    | some a => match bytesStr P ng src dst a H with
      | some v => some (v, readsOf a)
      | none => none
    | none => none
  | .lookup ty x k ok => match ev ng t x, ev ng t k with
    | some a, some kv => match lookupW P ng ty a kv ok H with
      | some v => some (v, readsOf a)
      | none => none
    | _, _ => none
  | .entry it => match ev ng t it with
    | some (.ptr q 0) => match H[q]? with
      | some (.iter _ _ (some (k, v))) => some (.tuple [k, v], some q)
      | _ => none
    | _ => none
  | _ => none
section
variable {P : Program} {g : Inj} {ng : Cx} {t : Tm} {ρ : Operand → Value} {H : List Blk} {w : World}
theorem cell_of {w : World} {b : Nat} {C : Array Value} {e : TypeId} {fr : Nat × Nat} (h : w.heap[b]? = some (.cells C e fr)) (o : Nat) : w.cell? ⟨b, o, none⟩ = C[o]? := by
  simp [World.cell?, h]
theorem run_loadV (hH : HRel ng g H w) {ty : TypeId} {x r : AVal} {u : Value} (h : loadV P ty x H = some r) (hx : VRel g x u) :
    ∃ v, (Instr.loadAt ty u).run P w = .ok v w ∧ VRel g r v := by
  unfold loadV at h
  split at h
  · rename_i b off
    split at h
    · rename_i c e hb
      split at h
      · rename_i d hd
        cases hx with
        | ptr _ _ L hL =>
          obtain ⟨M, hM, C, fr, h1, h2, h3, h4, h5⟩ := hH.blk b _ hb (by simp)
          rw [hL] at hM; cases hM
          obtain ⟨i, hi⟩ := info_of_under hd
          have hsz := run_sizeOf' (P := P) w hi
          unfold partA at h
          split at h
          · rename_i hagg
            split at h
            · rename_i l hl
              cases h
              obtain ⟨vs, k1, _, k2, _, k4⟩ := CRel.seg h5 hl
              have hload := run_loadCells_list (P := P) w ⟨L.blk, L.dl + off, none⟩ vs (fun j v hj => by
                rw [addr_add, cell_of h1]
                have := k4 j v hj
                rw [show L.dl + off + j = L.dl + (off + j) by omega]; exact this)
              rw [k1, cellsOf_info hi] at hload
              refine ⟨.agg vs.toArray, ?_, .agg _ _ (by simpa using k2)⟩
              simp [Instr.loadAt, Instr.sureAddr, loadVar, run_isAgg w hd, hagg, hsz, hload]
            · cases h
          · rename_i hagg
            obtain ⟨v, k1, k2, _⟩ := h5 off r h
            refine ⟨v, ?_, k2⟩
            simp [Instr.loadAt, Instr.sureAddr, loadVar, run_isAgg w hd, hagg, cell_of h1, k1]
      · cases h
    · cases h
  · cases h
theorem run_rowLoad (hH : HRel ng g H w) {ty : TypeId} {r j : Nat} {ix v : AVal} {u : Value} (h : rowLoad P ng ty r ix j = some v) (hx : VRel g (.rptr r ix j) u) :
    ∃ v', (Instr.loadAt ty u).run P w = .ok v' w ∧ VRel g v v' := by
  unfold rowLoad at h
  split at h
  · rename_i cs hrat
    split at h
    · rename_i d hd
      cases hx with
      | rptr _ _ _ m X x1 x2 x3 =>
        obtain ⟨m', d1, d2, d3, d4⟩ := hH.sig.rat r ix cs X hrat x1
        have : m' = m := by rw [x2] at d1; cases d1; rfl
        subst this
        obtain ⟨C, e, fr, h1, h3, _⟩ := (hH.frz.row r X x1 (by omega)).1
        have h5 : CRel g cs C (X.off + m' * X.z) := by
          intro i a hi
          have hlt : i < X.z := by rw [← d3]; exact (List.getElem?_eq_some_iff.1 hi).1
          obtain ⟨y, y1, y2, y3⟩ := h3 m' i x3 hlt
          refine ⟨y, y1, ?_, y3⟩
          rw [← den_rel, d4 i a hi]
          exact y2 g
        obtain ⟨i, hi⟩ := info_of_under hd
        have hsz := run_sizeOf' (P := P) w hi
        unfold partA at h
        split at h
        · rename_i hagg
          split at h
          · rename_i l hl
            cases h
            obtain ⟨vs, k1, _, k2, _, k4⟩ := CRel.seg h5 hl
            have hload := run_loadCells_list (P := P) w ⟨X.blk, X.off + m' * X.z + j, none⟩ vs (fun jj v hj => by
              rw [addr_add, cell_of h1]
              have := k4 jj v hj
              rw [show X.off + m' * X.z + j + jj = X.off + m' * X.z + (j + jj) by omega]; exact this)
            rw [k1, cellsOf_info hi] at hload
            refine ⟨.agg vs.toArray, ?_, .agg _ _ (by simpa using k2)⟩
            simp [Instr.loadAt, Instr.sureAddr, loadVar, run_isAgg w hd, hagg, hsz, hload]
          · cases h
        · rename_i hagg
          obtain ⟨y, k1, k2, _⟩ := h5 j v h
          refine ⟨y, ?_, k2⟩
          simp [Instr.loadAt, Instr.sureAddr, loadVar, run_isAgg w hd, hagg, cell_of h1, k1]
    · cases h
  · cases h
theorem cellsO_spec {cl : List (Option IntKind)} {s ix : AVal} : ∀ {n : Nat} {cs : List AVal}, cellsO ng cl s ix n = some cs → cs.length = n ∧ ∀ (j : Nat) (a : AVal), cs[j]? = some a → symS ng (.sop (.cell cl j) [s, ix]) = some a
  | 0, cs, h => by simp only [cellsO, Option.some.injEq] at h; subst h; exact ⟨rfl, fun j a h => by simp at h⟩
  | n + 1, cs, h => by
    simp only [cellsO] at h
    split at h
    · rename_i l hl
      split at h
      · rename_i a ha
        cases h
        obtain ⟨h1, h2⟩ := cellsO_spec hl
        refine ⟨by simp [h1], fun j b hj => ?_⟩
        rcases Nat.lt_or_ge j l.length with h9 | h9
        · rw [List.getElem?_append_left h9] at hj; exact h2 j b hj
        · rw [List.getElem?_append_right h9] at hj
          have hj0 : j - l.length = 0 := by
            have := (List.getElem?_eq_some_iff.1 hj).1
            simp at this; omega
          rw [hj0] at hj
          simp at hj; subst hj
          have : j = n := by omega
          subst this; exact ha
      · cases h
    · cases h
theorem cellsO_rel (hg : ng.Good g.sig) {cl : List (Option IntKind)} {s ix : AVal} {cs : List AVal} {z m : Nat} {S : ByteArray} {C : Array Value} {d : Nat} (h : cellsO ng cl s ix z = some cs) (hs : den g.sig s = .str S) (hi : den g.sig ix = .int .i64 (m : Int))
    (hc : ∀ j, j < z → ∃ v, C[d + j]? = some v ∧ VRel g (rowAtD cl S m j) v ∧ v.oneCell' = true) : CRel g cs C d := by
  obtain ⟨h1, h2⟩ := cellsO_spec h
  intro j a hj
  have hlt : j < z := by rw [← h1]; exact (List.getElem?_eq_some_iff.1 hj).1
  obtain ⟨v, v1, v2, v3⟩ := hc j hlt
  obtain ⟨q, q1, q2⟩ := symS_sound hg (h2 j a hj)
  simp only [evalS, List.map, hs, hi, sopA, Option.some.injEq, Int.toNat_natCast] at q1
  subst q1
  exact ⟨v, v1, q2 v v2, v3⟩
theorem run_lstLoad (hH : HRel ng g H w) {ty : TypeId} {b z j : Nat} {ix v : AVal} {u : Value} (h : lstLoad P ng ty b z ix j H = some v) (hx : VRel g (.lptr b z ix j) u) :
    ∃ v', (Instr.loadAt ty u).run P w = .ok v' w ∧ VRel g v v' := by
  unfold lstLoad at h
  split at h
  · rename_i s n cl e hb
    split at h
    · rename_i hcond
      simp only [Bool.and_eq_true] at hcond
      obtain ⟨c1, c2, c3⟩ := hcond
      have c1 := Nat.eq_of_beq_eq_true c1
      split at h
      · rename_i cs hcs
        split at h
        · rename_i d hd
          cases hx with
          | lptr _ _ _ _ m L x1 x2 x3 x4 =>
            rcases hH.blk0 b _ hb (by simp) with ⟨s', n', cl', e', hk, _, hn0⟩ | ⟨M, hM, S, N, C, fr, b1, b2, b3, b4, b5, b6, b7, b8⟩
            · cases hk
              have := lssT_spec hH.sig c3 x2 hn0
              omega
            rw [x1] at hM; cases hM
            have hmN : m < N := by have := lssT_spec hH.sig c3 x2 b2; omega
            have h5 : CRel g cs C (L.dl + m * z) := cellsO_rel hH.sig hcs b1 x2 fun i hi => by
              obtain ⟨y, y1, y2, y3⟩ := b8 m i hmN (by omega)
              rw [c1] at y1
              exact ⟨y, y1, y2, y3⟩
            obtain ⟨i, hi⟩ := info_of_under hd
            have hsz := run_sizeOf' (P := P) w hi
            unfold partA at h
            split at h
            · rename_i hagg
              split at h
              · rename_i l hl
                cases h
                obtain ⟨vs, k1, _, k2, _, k4⟩ := CRel.seg h5 hl
                have hload := run_loadCells_list (P := P) w ⟨L.blk, L.dl + m * z + j, none⟩ vs (fun jj v hj => by
                  rw [addr_add, cell_of b4]
                  have := k4 jj v hj
                  rw [show L.dl + m * z + j + jj = L.dl + m * z + (j + jj) by omega]; exact this)
                rw [k1, cellsOf_info hi] at hload
                refine ⟨.agg vs.toArray, ?_, .agg _ _ (by simpa using k2)⟩
                simp [Instr.loadAt, Instr.sureAddr, loadVar, run_isAgg w hd, hagg, hsz, hload]
              · cases h
            · rename_i hagg
              obtain ⟨y, k1, k2, _⟩ := h5 j v h
              refine ⟨y, ?_, k2⟩
              simp [Instr.loadAt, Instr.sureAddr, loadVar, run_isAgg w hd, hagg, cell_of b4, k1]
        · cases h
      · cases h
    · cases h
  · cases h
theorem run_loadR (hH : HRel ng g H w) {ty : TypeId} {x r : AVal} {u : Value} (h : loadR P ng ty x H = some r) (hx : VRel g x u) :
    ∃ v, (Instr.loadAt ty u).run P w = .ok v w ∧ VRel g r v := by
  unfold loadR at h
  split at h
  · exact run_rowLoad hH h hx
  · exact run_lstLoad hH h hx
  · exact run_loadV hH h hx
theorem intsOf_spec : ∀ {l : List AVal} {ns : List Int}, intsOf l = some ns → l = ns.map (AVal.int .u8)
  | [], ns, h => by simp [intsOf] at h; subst h; rfl
  | a :: l, ns, h => by
    unfold intsOf at h
    split at h
    · cases h; simp_all
    · rename_i n l' he
      cases he
      split at h
      · rename_i r hr
        cases h
        simp [intsOf_spec hr]
      · cases h
    · cases h
theorem LRel.ints : ∀ {ns : List Int} {vs : List Value}, LRel g (ns.map (AVal.int .u8)) vs → vs = ns.map (Value.int .u8)
  | [], vs, h => by cases h; rfl
  | n :: ns, vs, h => by
    cases h with
    | cons _ _ _ _ h1 h2 => cases h1; simp [LRel.ints h2]
theorem foldl_push_ints : ∀ (ns : List Int) (r : ByteArray), ns.foldl (fun r n => r.push (UInt8.ofNat n.toNat)) r = ⟨r.data ++ (ns.map fun n => UInt8.ofNat n.toNat).toArray⟩
  | [], r => by simp
  | n :: ns, r => by
    simp only [List.foldl_cons]
    rw [foldl_push_ints ns]
    simp [ByteArray.push]
theorem run_cellsA (hH : HRel ng g H w) {size n : Nat} {x : AVal} {u : Value} {l : List AVal} (h : cellsA size n x H = some l) (hx : VRel g x u) (hn : x = .nilslice → n = 0) :
    ∃ vs : List Value, (∀ w', w'.heap = w.heap → (Builtin.firstCells size n u).run P w' = .ok vs.toArray w') ∧ vs.length = n * size ∧ LRel g l vs ∧ (∀ v ∈ vs, v.oneCell' = true) ∧ l.length = n * size := by
  unfold cellsA at h
  split at h
  · cases h; cases hx
    refine ⟨[], fun w' _ => by simp [Builtin.firstCells], by simp [hn rfl], .nil, by simp, by simp [hn rfl]⟩
  · rename_i b off len cap ex
    split at h
    · rename_i hpos
      cases hx with
      | slice _ _ _ _ _ o' cap' L hL h0 h1' h2' =>
        split at h
        · rename_i hz
          cases h
          refine ⟨[], fun w' _ => by simp [Builtin.firstCells, loadCells, loadCellsFrom, hz], by simp [hz], .nil, by simp, by simp [hz]⟩
        · rename_i hz
          split at h
          · rename_i c e hb
            obtain ⟨M, hM, C, fr, h1, h2, h3, h4, h5⟩ := hH.blk b _ hb (by simp)
            rw [hL] at hM; cases hM
            have ho : o' = off := by
              rcases h0 with h0 | h0
              · exact h0
              · rcases hpos with hp | hp | hp
                · exfalso; exact hz (by simp [hp])
                · omega
                · omega
            subst ho
            obtain ⟨vs, k1, k0, k2, k3, k4⟩ := CRel.seg h5 h
            refine ⟨vs, fun w' hw' => ?_, k1, k2, k3, k0⟩
            have hcell : ∀ (j : Nat) (v : Value), vs[j]? = some v → w'.cell? ((⟨L.blk, L.dl + o', none⟩ : Addr).add j) = some v := by
              intro j v hj
              rw [addr_add, cell_of (by rw [hw']; exact h1)]
              have := k4 j v hj
              rw [show L.dl + o' + j = L.dl + (o' + j) by omega]; exact this
            have := run_firstCells_some (P := P) w' size n ⟨L.blk, L.dl + o', none⟩ len cap' vs k1 hcell
            exact this
          · cases h
    · cases h
  · rename_i s
    split at h
    · rename_i hc
      obtain ⟨rfl, rfl⟩ := hc
      cases h; cases hx
      refine ⟨s.toList.map fun b => Value.int .u8 b.toNat, fun w' _ => ?_, by simp [ByteArray.toList_eq], ?_, by simp [Value.oneCell'], by simp [ByteArray.toList_eq]⟩
      · have he : s.extract 0 s.size = s := by
          apply ByteArray.ext
          simp [ByteArray.extract, ByteArray.copySlice]
        simp only [Builtin.firstCells, he, Sem.run_pure]
        congr 1
        rw [ByteArray.toList_eq]
        apply Array.ext'
        simp
      · generalize s.toList = bs
        induction bs with
        | nil => exact .nil
        | cons b bs ih => exact .cons _ _ _ _ (.int _ _) ih
    · cases h
  · cases h
theorem allU8_den (σ : Sig) : ∀ {l : List AVal}, allU8 l = true → ∃ ns : List Int, l.map (den σ) = ns.map (AVal.int .u8)
  | [], _ => ⟨[], rfl⟩
  | a :: l, h => by
    unfold allU8 at h
    split at h
    · rename_i he; cases he
    · rename_i n l' he
      cases he
      obtain ⟨ns, h1⟩ := allU8_den σ h
      exact ⟨n :: ns, by simp [den, h1]⟩
    · rename_i i l' he
      cases he
      obtain ⟨ns, h1⟩ := allU8_den σ h
      exact ⟨σ.ival i :: ns, by simp [den, h1]⟩
    · cases h
theorem rowAt_u8 {s : ByteArray} {m : Nat} (hlt : m < s.data.toList.length) : rowAtD [some .u8] s m 0 = .int .u8 (s.data.toList[m].toNat : Nat) := by
  simp only [rowAtD, rsz, csz, cellD, decK]
  rw [show m * (1 + 0) = m by omega, List.drop_eq_getElem_cons hlt]
  simp only [List.take_succ_cons, List.take_zero, deB, List.foldl_cons, List.foldl_nil, Nat.zero_mul, Nat.zero_add]
  generalize s.data.toList[m] = b
  have := UInt8.toNat_lt b
  congr 1
  simp [IntKind.wrap, IntKind.bits, IntKind.signed]
  omega
theorem run_cellsStr {src dst e : TypeId} {g : Inj} (w : World) (hs : P.underlying src = some (.slice e)) (he : P.underlying e = some (.int .u8)) (hd : P.underlying dst = some .string) {S : ByteArray} {N cap : Nat} {C : Array Value} {blk o : Nat} {t : TypeId} {fr : Nat × Nat} {ao : Option Addr}
    (hN : S.data.toList.length = N * rsz [some .u8]) (hao : 0 < N → ao = some ⟨blk, o, none⟩ ∧ w.heap[blk]? = some (.cells C t fr)) (hc : ∀ m, m < N → ∃ v, C[o + m]? = some v ∧ VRel g (rowAtD [some .u8] S m 0) v) :
    (convert src dst (.slice ao N cap)).run P w = .ok (.string S) w := by
  have hN' : S.data.toList.length = N := by simpa [rsz, csz] using hN
  rcases Nat.eq_zero_or_pos N with h0 | h0
  · subst h0
    have hS : S = .empty := by
      apply ByteArray.ext
      apply Array.eq_empty_of_size_eq_zero
      simpa using hN'
    subst hS
    cases ao with
    | none => rw [run_convert_bytes_string w src dst e none 0 cap hs he hd]; simp [Conv.bytesToString]
    | some a =>
      have hld : (loadCells a 0).run P w = .ok (([] : List Int).map (Value.int .u8)).toArray w := by simp [loadCells, loadCellsFrom]
      rw [run_convert_bytes_string w src dst e (some a) 0 cap hs he hd, run_bytesToString w a 0 cap [] hld, foldl_push_ints]
      rfl
  · obtain ⟨rfl, hb⟩ := hao h0
    have hld : (loadCells ⟨blk, o, none⟩ N).run P w = .ok ((S.data.toList.map fun b => (b.toNat : Int)).map (Value.int .u8)).toArray w := by
      have := run_firstCells_some (P := P) w 1 N ⟨blk, o, none⟩ N cap ((S.data.toList.map fun b => (b.toNat : Int)).map (Value.int .u8)) (by simp only [List.length_map]; omega) (fun j v hj => by
        rw [addr_add, cell_of hb]
        have hjl : j < S.data.toList.length := by simpa using (List.getElem?_eq_some_iff.1 hj).1
        obtain ⟨v', a1, a2⟩ := hc j (by omega)
        rw [rowAt_u8 hjl] at a2
        cases a2
        rw [a1]
        simp only [List.getElem?_map, List.getElem?_eq_getElem hjl, Option.map_some, Option.some.injEq] at hj
        rw [← hj])
      simpa [Builtin.firstCells] using this
    rw [run_convert_bytes_string w src dst e (some ⟨blk, o, none⟩) N cap hs he hd, run_bytesToString w _ N cap (S.data.toList.map fun b => (b.toNat : Int)) hld, foldl_push_ints]
    congr 2
    apply ByteArray.ext
    have : ((fun n : Int => UInt8.ofNat n.toNat) ∘ fun b : UInt8 => (b.toNat : Int)) = id := by funext b; simp
    simp [this]
theorem run_bytesStr (hH : HRel ng g H w) {src dst : TypeId} {x r : AVal} {u : Value} (h : bytesStr P ng src dst x H = some r) (hx : VRel g x u) :
    ∃ v, (convert src dst u).run P w = .ok v w ∧ VRel g r v := by
  unfold bytesStr at h
  split at h
  · rename_i e hs hd
    split at h
    · rename_i he
      split at h
      · cases h; cases hx
        exact ⟨.string .empty, by rw [run_convert_bytes_string w src dst e none 0 0 hs he hd]; simp [Conv.bytesToString], .str _⟩
      · rename_i b off len cap ex
        split at h
        · rename_i l hl
          split at h
          · rename_i ns hns
            cases h
            have := intsOf_spec hns
            subst this
            obtain ⟨vs, k1, k2, k3, _, _⟩ := run_cellsA (P := P) hH hl hx (by simp)
            have := LRel.ints k3
            subst this
            cases hx with
            | slice _ _ _ _ _ o' cap' L hL _ _ _ =>
              have hld : (loadCells ⟨L.blk, L.dl + o', none⟩ len).run P w = .ok (ns.map (Value.int .u8)).toArray w := by
                have := k1 w rfl
                simpa [Builtin.firstCells] using this
              refine ⟨.string ⟨(ns.map fun n => UInt8.ofNat n.toNat).toArray⟩, ?_, .str _⟩
              rw [run_convert_bytes_string w src dst e _ len cap' hs he hd, run_bytesToString w _ len cap' ns hld, foldl_push_ints]
              congr 3
              show (#[] : Array UInt8) ++ _ = _
              simp
          · split at h
            · rename_i hu8
              obtain ⟨q, hq1, hq2⟩ := symS_sound hH.sig h
              obtain ⟨ns, hns⟩ := allU8_den g.sig hu8
              obtain ⟨vs, k1, k2, k3, _, _⟩ := run_cellsA (P := P) hH hl hx (by simp)
              have k3' := k3.dens
              rw [hns] at k3'
              have := LRel.ints k3'
              subst this
              cases hx with
              | slice _ _ _ _ _ o' cap' L hL _ _ _ =>
                have hld : (loadCells ⟨L.blk, L.dl + o', none⟩ len).run P w = .ok (ns.map (Value.int .u8)).toArray w := by
                  have := k1 w rfl
                  simpa [Builtin.firstCells] using this
                refine ⟨.string ⟨(ns.map fun n => UInt8.ofNat n.toNat).toArray⟩, ?_, hq2 _ ?_⟩
                · rw [run_convert_bytes_string w src dst e _ len cap' hs he hd, run_bytesToString w _ len cap' ns hld, foldl_push_ints]
                  congr 3
                  show (#[] : Array UInt8) ++ _ = _
                  simp
                · simp only [evalS, Option.some.injEq] at hq1
                  have e1 : (l.map fun a => byteS (den g.sig a)) = ns.map fun n => UInt8.ofNat n.toNat := by
                    have : (l.map fun a => byteS (den g.sig a)) = (l.map (den g.sig)).map byteS := by simp
                    rw [this, hns, List.map_map]
                    rfl
                  rw [e1] at hq1
                  rw [← hq1]
                  exact .str _
            · cases h
        · cases h
      · rename_i i
        split at h
        · rename_i s cl hr
          split at h
          · rename_i hcl
            cases h
            simp only [decide_eq_true_eq] at hcl
            subst hcl
            cases hx with
            | row _ X ao cap h1 h2 h3 =>
              obtain ⟨z1, S, z2, z3, z4⟩ := hH.sig.rstr i _ _ X hr h1
              have hz : X.z = 1 := z1.symm
              refine ⟨.string S, ?_, by rw [← den_rel, z2]; exact .str S⟩
              rcases Nat.eq_zero_or_pos X.len with h0 | h0
              · exact run_cellsStr (g := g) (C := #[]) (blk := 0) (o := 0) (t := 0) (fr := (0, 0)) w hs he hd z3 (fun hp => absurd hp (by omega)) (fun m hm => absurd hm (by omega))
              · obtain ⟨C, e', fr, c1, c2, _⟩ := (hH.frz.row i X h1 h0).1
                refine run_cellsStr (g := g) w hs he hd z3 (fun _ => ⟨h3 h0, c1⟩) fun m hm => ?_
                obtain ⟨v, v1, v2, _⟩ := c2 m 0 hm (by omega)
                rw [hz, Nat.mul_one, Nat.add_zero] at v1
                exact ⟨v, v1, by rw [← z4 m 0 hm (by omega)]; exact v2 g⟩
          · cases h
        · cases h
      · rename_i i
        split at h
        · rename_i s cl hr
          split at h
          · rename_i hcl
            cases h
            simp only [decide_eq_true_eq] at hcl
            subst hcl
            cases hx with
            | crow _ X ao h1 h3 =>
              obtain ⟨z1, S, z2, z3, z4⟩ := hH.sig.rstr i _ _ X hr h1
              have hz : X.z = 1 := z1.symm
              refine ⟨.string S, ?_, by rw [← den_rel, z2]; exact .str S⟩
              rcases Nat.eq_zero_or_pos X.len with h0 | h0
              · exact run_cellsStr (g := g) (C := #[]) (blk := 0) (o := 0) (t := 0) (fr := (0, 0)) w hs he hd z3 (fun hp => absurd hp (by omega)) (fun m hm => absurd hm (by omega))
              · obtain ⟨C, e', fr, c1, c2, _⟩ := (hH.frz.row i X h1 h0).1
                refine run_cellsStr (g := g) w hs he hd z3 (fun _ => ⟨h3 h0, c1⟩) fun m hm => ?_
                obtain ⟨v, v1, v2, _⟩ := c2 m 0 hm (by omega)
                rw [hz, Nat.mul_one, Nat.add_zero] at v1
                exact ⟨v, v1, by rw [← z4 m 0 hm (by omega)]; exact v2 g⟩
          · cases h
        · cases h
      · rename_i b z ap off n
        split at h
        · rename_i s nb cl e' hb
          split at h
          · rename_i hcond
            cases h
            simp only [Bool.and_eq_true, decide_eq_true_eq] at hcond
            obtain ⟨rfl, c1, c2, c3, _⟩ := hcond
            have c1 := Nat.eq_of_beq_eq_true c1
            subst c1
            have c3 := sameNum_eq c3
            subst c3
            cases hx with
            | lsl _ _ _ _ _ o m cap ao h1 h2 h3 h4 h5 =>
              rw [isZ_spec c2] at h1
              simp only [den, AVal.int.injEq, true_and] at h1
              have ho : o = 0 := by omega
              subst ho
              rcases hH.blk0 b _ hb (by simp) with ⟨s', n', cl', e'', hk, hs0, hn0⟩ | ⟨L, hL, S, N, C, fr, b1, b2, b3, b4, b5, b6, b7, b8⟩
              · cases hk
                have hm0 : m = 0 := by
                  rw [h2] at hn0
                  simp only [AVal.int.injEq, true_and] at hn0
                  omega
                subst hm0
                refine ⟨.string .empty, ?_, by rw [← den_rel, hs0]; exact .str _⟩
                exact run_cellsStr (g := g) (C := #[]) (blk := 0) (o := 0) (t := 0) (fr := (0, 0)) w hs he hd (by simp) (fun hp => absurd hp (by omega)) (fun m hm => absurd hm (by omega))
              · have hN : N = m := by
                  rw [h2] at b2
                  simp only [AVal.int.injEq, true_and] at b2
                  omega
                subst hN
                refine ⟨.string S, ?_, by rw [← den_rel, b1]; exact .str S⟩
                refine run_cellsStr (g := g) (C := C) (blk := L.blk) (o := L.dl) (t := e') (fr := fr) w hs he hd b3 (fun hp => ?_) fun m hm => ?_
                · obtain ⟨L', k1, k2, k3⟩ := h5 hp
                  rw [hL] at k1; cases k1
                  exact ⟨by rw [k2]; simp, b4⟩
                · obtain ⟨v, v1, v2, _⟩ := b8 m 0 hm (by simp)
                  exact ⟨v, by simpa using v1, v2⟩
          · cases h
        · cases h
      · cases h
    · cases h
  · cases h
theorem keyA_spec {d : TypeDesc} {k : AVal} {u : Value} (h : keyA d k = some u) : MapKept.IsKey d u ∧ ∀ (v : Value), VRel g k v → v = u := by
  unfold keyA at h
  split at h
  · split at h
    · rename_i hk; cases h; subst hk; exact ⟨rfl, fun v hv => by cases hv; rfl⟩
    · cases h
  · cases h; exact ⟨trivial, fun v hv => by cases hv; rfl⟩
  · cases h; exact ⟨trivial, fun v hv => by cases hv; rfl⟩
  · cases h
theorem sameA_spec {d : TypeDesc} {k k' : AVal} {u u' : Value} (h : keyA d k = some u) (h' : keyA d k' = some u') : sameA k k' = true ↔ u = u' := by
  cases d with
  | int kd =>
    cases k <;> simp only [keyA] at h <;> first | cases h | skip
    cases k' <;> simp only [keyA] at h' <;> first | cases h' | skip
    split at h
    · split at h'
      · cases h; cases h'; subst_vars; simp [sameA]
      · cases h'
    · cases h
  | string =>
    cases k <;> simp only [keyA] at h <;> first | cases h | skip
    cases k' <;> simp only [keyA] at h' <;> first | cases h' | skip
    simp [sameA, MapKept.bytes_beq]
  | bool =>
    cases k <;> simp only [keyA] at h <;> first | cases h | skip
    cases k' <;> simp only [keyA] at h' <;> first | cases h' | skip
    simp [sameA]
  | _ => simp [keyA] at h
theorem findA_spec {d : TypeDesc} {k : AVal} {u : Value} (hk : keyA d k = some u) : ∀ {l : List (AVal × AVal)} {m : List MapEntry} {r : Option AVal}, findA d k l = some r → MRel g l m →
    (∀ x ∈ m, MapKept.IsKey d x.key) ∧ (∀ x ∈ m, x.key = u → ∃ v, r = some v ∧ VRel g v x.val) ∧ (∀ v, r = some v → ∃ x ∈ m, x.key = u) := by
  intro l m r h hm
  induction hm generalizing r with
  | nil =>
    simp only [findA] at h
    cases h
    exact ⟨by simp, by simp, by simp⟩
  | cons k' v e l m h1 h2 h3 ih =>
    simp only [findA] at h
    split at h
    · rename_i u' hu'
      obtain ⟨i1, i2⟩ := keyA_spec (g := g) hu'
      have i3 := i2 _ h1
      have hs := sameA_spec hu' hk
      split at h
      · rename_i hsame
        have huu := hs.1 hsame
        split at h
        · rename_i hf
          cases h
          obtain ⟨j1, j2, j3⟩ := ih hf
          refine ⟨?_, ?_, ?_⟩
          · intro x hx
            rcases List.mem_cons.1 hx with rfl | hx
            · rw [i3]; exact i1
            · exact j1 x hx
          · intro x hx hxu
            rcases List.mem_cons.1 hx with rfl | hx
            · exact ⟨v, rfl, h2⟩
            · obtain ⟨v', hv', _⟩ := j2 x hx hxu; cases hv'
          · intro _ _; exact ⟨e, by simp, by rw [i3, huu]⟩
        · cases h
      · rename_i hsame
        obtain ⟨j1, j2, j3⟩ := ih h
        refine ⟨?_, ?_, ?_⟩
        · intro x hx
          rcases List.mem_cons.1 hx with rfl | hx
          · rw [i3]; exact i1
          · exact j1 x hx
        · intro x hx hxu
          rcases List.mem_cons.1 hx with rfl | hx
          · exact absurd (hs.2 (by rw [← i3, hxu])) (by simp [hsame])
          · exact j2 x hx hxu
        · intro v' hv'
          obtain ⟨x, hx, hxu⟩ := j3 v' hv'
          exact ⟨x, by simp [hx], hxu⟩
    · cases h
theorem findA_run {d : TypeDesc} {k : AVal} {u : Value} (hk : keyA d k = some u) {l : List (AVal × AVal)} {m es : List MapEntry} {r : Option AVal} (h : findA d k l = some r) (hm : MRel g l m) (hp : es.Perm m) :
    (r = none ∧ Instr.findNow d u es 0 = some none) ∨ ∃ v j x, r = some v ∧ Instr.findNow d u es 0 = some (some (j, x)) ∧ VRel g v x := by
  obtain ⟨j1, j2, j3⟩ := findA_spec hk h hm
  rcases MapKept.findNow_spec (keyA_spec (g := g) hk).1 es 0 (fun x hx => j1 x (hp.mem_iff.1 hx)) with ⟨h1, h2⟩ | ⟨j, e, h1, h2, h3⟩
  · refine .inl ⟨?_, h1⟩
    cases r with
    | none => rfl
    | some v =>
      obtain ⟨x, hx, hxu⟩ := j3 v rfl
      exact absurd hxu (h2 x (hp.mem_iff.2 hx))
  · obtain ⟨v, hv, hr⟩ := j2 e (hp.mem_iff.1 (List.mem_of_getElem? h2)) h3
    exact .inr ⟨v, _, e.val, hv, h1, hr⟩
theorem run_lookupV (hH : HRel ng g H w) {ty : TypeId} {x k r : AVal} {ok : Bool} {u q : Value} (h : lookupV P ty x k ok H = some r) (hx : VRel g x u) (hk : VRel g k q) :
    ∃ v, (Instr.lookup ty u q ok).run P w = .ok v w ∧ VRel g r v := by
  unfold lookupV at h
  split at h
  · rename_i kt elem hm
    split at h
    · rename_i d hd
      split at h
      · rename_i kv hkv
        obtain ⟨i1, i2⟩ := keyA_spec (g := g) hkv
        have hq := i2 _ hk
        subst hq
        split at h
        · rename_i b
          cases hx with
          | map _ L hL =>
          split at h
          · rename_i l hb
            obtain ⟨M, hM, es, cl, es', h1, h2, h3, _⟩ := hH.blk b _ hb (by simp)
            rw [hL] at hM; cases hM
            split at h
            · rename_i v hf
              rcases findA_run hkv hf h3 h2 with ⟨h9, _⟩ | ⟨v', j, y, hv', hrun, hr⟩
              · cases h9
              · cases hv'
                cases h
                cases ok
                · exact ⟨y, by simp [Instr.lookup, run_underlying hm, MapKept.run_getObj_map h1, MapKept.run_checkKey hd i1, MapKept.run_findKey hd hrun, Result.andThen], hr⟩
                · exact ⟨.tuple #[y, .bool true], by simp [Instr.lookup, run_underlying hm, MapKept.run_getObj_map h1, MapKept.run_checkKey hd i1, MapKept.run_findKey hd hrun, Result.andThen], .tuple _ _ (.cons _ _ _ _ hr (.cons _ _ _ _ (.bool _) .nil))⟩
            · rename_i hf
              split at h
              · rename_i z hz
                obtain ⟨i, zv, hi, hzv, hzr⟩ := zeroA_spec hz
                have hzero : (zeroValue elem).run P w = .ok zv w := by simp [zeroValue, typeInfo, hi, hzv]
                rcases findA_run hkv hf h3 h2 with ⟨_, hrun⟩ | ⟨v', j, y, hv', _⟩
                · cases h
                  cases ok
                  · exact ⟨zv, by simp [Instr.lookup, run_underlying hm, MapKept.run_getObj_map h1, MapKept.run_checkKey hd i1, MapKept.run_findKey hd hrun, Result.andThen, hzero], hzr g⟩
                  · exact ⟨.tuple #[zv, .bool false], by simp [Instr.lookup, run_underlying hm, MapKept.run_getObj_map h1, MapKept.run_checkKey hd i1, MapKept.run_findKey hd hrun, Result.andThen, hzero], .tuple _ _ (.cons _ _ _ _ (hzr g) (.cons _ _ _ _ (.bool _) .nil))⟩
                · cases hv'
              · cases h
            · cases h
          · cases h
        · cases h
      · cases h
    · cases h
  · cases h
theorem findU_spec {d : TypeDesc} {kd : IntKind} {i : Nat} (hg : ng.Good g.sig) (hd : isKd d kd = true) : ∀ {l : List (AVal × AVal)} {r : Option AVal}, findU ng d (.symi kd i) l = some r → findA d (.int kd (g.sig.ival i)) l = some r
  | [], r, h => h
  | (k', v) :: l, r, h => by
    simp only [findU] at h
    simp only [findA]
    have hd' : d = .int kd := by
      unfold isKd at hd
      split at hd
      · rw [of_decide_eq_true hd]
      · cases hd
    split at h
    · rename_i u hu
      have hk' : ∃ n, k' = .int kd n := by
        unfold keyA at hu
        rw [hd'] at hu
        split at hu
        · rename_i kd' k2 n he1
          cases he1
          split at hu
          · rename_i hk; exact ⟨n, by rw [hk]⟩
          · cases hu
        · rename_i he1; cases he1
        · rename_i he1; cases he1
        · cases hu
      obtain ⟨n, rfl⟩ := hk'
      have hev : ∀ b, symS ng (.bin .eql (.symi kd i) (.int kd n)) = some (.bool b) → (g.sig.ival i == n) = b := by
        intro b hs
        obtain ⟨q, h1, h2⟩ := symS_sound hg hs
        simp only [evalS, den, binS, intA, if_true, Option.some.injEq] at h1
        subst h1
        have := h2 _ (.bool _)
        generalize hv : Value.bool (g.sig.ival i == n) = vv at this
        cases this
        simpa using hv
      split at h
      · rename_i hs
        have := hev _ hs
        simp only [beq_iff_eq] at this
        split at h
        · rename_i hf
          cases h
          simp only [sameA, this, BEq.rfl]
          rw [hf]
        · cases h
      · rename_i hs
        have := hev _ hs
        have hne : (n == g.sig.ival i) = false := by
          cases hb : (n == g.sig.ival i) with
          | false => rfl
          | true => simp only [beq_iff_eq] at hb; subst hb; simp at this
        simp only [sameA, hne]
        exact findU_spec hg hd h
      · cases h
    · cases h
theorem lookupW_V (hg : ng.Good g.sig) {ty : TypeId} {x k r : AVal} {ok : Bool} (h : lookupW P ng ty x k ok H = some r) : lookupV P ty x (den g.sig k) ok H = some r ∨ lookupV P ty x k ok H = some r := by
  unfold lookupW at h
  split at h
  · rename_i kd i
    left
    unfold lookupU at h
    split at h
    · rename_i kt elem hm
      split at h
      · rename_i d hd
        split at h
        · rename_i hkd
          have hka : keyA d (.int kd (g.sig.ival i)) = some (.int kd (g.sig.ival i)) := by
            unfold isKd at hkd
            split at hkd
            · have := of_decide_eq_true hkd
              subst this
              simp [keyA]
            · cases hkd
          show lookupV P ty x (.int kd (g.sig.ival i)) ok H = some r
          split at h
          · rename_i b
            split at h
            · rename_i l hb
              split at h
              · rename_i v hf
                have := findU_spec hg hkd hf
                unfold lookupV
                rw [hm]
                simp only
                rw [hd]
                simp only
                rw [hka]
                simp only
                rw [hb]
                simp only
                rw [this]
                exact h
              · rename_i hf
                have := findU_spec hg hkd hf
                unfold lookupV
                rw [hm]
                simp only
                rw [hd]
                simp only
                rw [hka]
                simp only
                rw [hb]
                simp only
                rw [this]
                exact h
              · cases h
            · cases h
          · cases h
        · cases h
      · cases h
    · cases h
  · exact .inr h
theorem run_lookupW (hH : HRel ng g H w) {ty : TypeId} {x k r : AVal} {ok : Bool} {u q : Value} (h : lookupW P ng ty x k ok H = some r) (hx : VRel g x u) (hk : VRel g k q) :
    ∃ v, (Instr.lookup ty u q ok).run P w = .ok v w ∧ VRel g r v := by
  rcases lookupW_V hH.sig h with h | h
  · exact run_lookupV hH h hx (den_rel.2 hk)
  · exact run_lookupV hH h hx hk
theorem loadA_sound (hH : HRel ng g H w) (hρ : ERel g ng t ρ) {o : Oper} {r : AVal} {b : Option Nat} (h : loadA P ng t o.op H = some (r, b)) :
    ∃ v, (execOp ρ o).run P w = .ok (.value v) w ∧ VRel g r v := by
  obtain ⟨dst, op, type, pos, after, guard⟩ := o
  simp only at h
  unfold loadA at h
  split at h
  · rename_i ty a
    split at h
    · rename_i x hx
      split at h
      · rename_i v hv
        cases h
        obtain ⟨u, h1, h2⟩ := run_loadR (P := P) hH hv (hρ a _ hx)
        exact ⟨u, by simp [execOp, h1], h2⟩
      · cases h
    · cases h
  · rename_i src dst x
    split at h
    · rename_i a ha
      split at h
      · rename_i v hv
        cases h
        obtain ⟨u, h1, h2⟩ := run_bytesStr (P := P) hH hv (hρ x _ ha)
        exact ⟨u, by simp [execOp, h1], h2⟩
      · cases h
    · cases h
  · rename_i ty x k ok
    split at h
    · rename_i a kv ha hkv
      split at h
      · rename_i v hv
        cases h
        obtain ⟨u, h1, h2⟩ := run_lookupW (P := P) hH hv (hρ x _ ha) (hρ k _ hkv)
        exact ⟨u, by simp [execOp, h1], h2⟩
      · cases h
    · cases h
  · rename_i it
    split at h
    · rename_i q hq
      split at h
      · rename_i x l k v hb
        cases h
        obtain ⟨L, hL, X, seen, es', kd, k0, k1, k2, k3, k4⟩ := hH.blk q _ hb (by simp)
        obtain ⟨e, s0, m1, m2, m3, m4⟩ := k4 k v rfl
        obtain ⟨_, f1, _⟩ := hH.frz.mp x X k0
        have hr := hρ it _ hq
        have hh : ρ it = .pointer (some ⟨L.blk, 0, none⟩) := by
          generalize ρ it = u at hr
          cases hr with
          | ptr _ _ M hM => rw [hL] at hM; cases hM; rw [kd]
        subst m2
        have := run_entry_at (P := P) w L.blk X.blk X.cl s0 X.es X.cl e k1 f1.1 m1 f1.2.1
        refine ⟨.tuple #[e.key, e.val], ?_, .tuple _ _ (.cons _ _ _ _ m3 (.cons _ _ _ _ m4 .nil))⟩
        simp [execOp, hh, this]
      · cases h
    · cases h
  · cases h
theorem cellsA_congr {size n : Nat} {x : AVal} {l : List AVal} {H H' : List Blk} (h : cellsA size n x H = some l) (hh : ∀ b off len cap ex, x = .slice b off len cap ex → ¬ n * size = 0 → H'[b]? = H[b]?) : cellsA size n x H' = some l := by
  unfold cellsA at h ⊢
  split at h
  · exact h
  · rename_i b off len cap ex
    split at h
    · rename_i hp
      simp only [if_pos hp]
      split at h
      · rename_i hz; rw [if_pos hz]; exact h
      · rename_i hz; rw [if_neg hz, hh b off len cap ex rfl hz]; exact h
    · cases h
  · exact h
  · cases h
theorem loadA_congr {op : Op} {v : AVal} {b : Option Nat} {H H' : List Blk} (h : loadA P ng t op H = some (v, b)) (hb : ∀ x, b = some x → H'[x]? = H[x]?) : loadA P ng t op H' = some (v, b) := by
  unfold loadA at h ⊢
  split at h
  · split at h
    · rename_i x hx
      split at h
      · rename_i u hu
        cases h
        unfold loadR at hu
        split at hu
        · simp only [loadR, hu]
        · rename_i b z ix j
          have := hb b rfl
          unfold lstLoad at hu
          simp only [loadR, lstLoad, this]
          rw [hu]
        · rename_i hne
          unfold loadV at hu
          split at hu
          · rename_i b off _
            have := hb b rfl
            simp only [loadR, loadV, this]
            rw [hu]
          · cases hu
      · cases h
    · cases h
  · rename_i src dst xx
    split at h
    · rename_i a ha
      split at h
      · rename_i u hu
        cases h
        have : bytesStr P ng src dst a H' = some v := by
          unfold bytesStr at hu ⊢
          split at hu
          · rename_i e h1 h2
            split at hu
            · rename_i h3
              split at hu
              · exact hu
              · rename_i b off len cap ex
                split at hu
                · rename_i l hl
                  have := cellsA_congr (H' := H') hl (fun b' off' len' cap' ex' he hz => by
                    cases he
                    exact hb b (by simp only [readsOf]; rw [if_neg (by intro h0; apply hz; rw [h0])]))
                  simp only [this]; exact hu
                · cases hu
              · exact hu
              · exact hu
              · rename_i b z ap off n
                have := hb b rfl
                simp only [this]; exact hu
              · cases hu
            · cases hu
          · cases hu
        simp only [this]
      · cases h
    · cases h
  · rename_i ty x k ok
    split at h
    · rename_i a kv ha hkv
      split at h
      · rename_i u hu
        cases h
        have : lookupW P ng ty a kv ok H' = some v := by
          unfold lookupW at hu ⊢
          split at hu
          · unfold lookupU at hu ⊢
            split at hu
            · rename_i kt elem h1
              split at hu
              · rename_i d h2
                split at hu
                · rename_i q
                  split at hu
                  · rename_i b
                    have := hb b rfl
                    simp only [this]; exact hu
                  · cases hu
                · cases hu
              · cases hu
            · cases hu
          · unfold lookupV at hu ⊢
            split at hu
            · rename_i kt elem h1
              split at hu
              · rename_i d h2
                split at hu
                · rename_i q h3
                  split at hu
                  · rename_i b
                    have := hb b rfl
                    simp only [this]; exact hu
                  · cases hu
                · cases hu
              · cases hu
            · cases hu
        simp only [this]
      · cases h
    · cases h
  · split at h
    · rename_i q hq
      split at h
      · rename_i x l k v' hb'
        cases h
        have := hb q rfl
        simp only [this, hb']
      · cases h
    · cases h
  · cases h
theorem loadA_live {op : Op} {v : AVal} {x : Nat} {H : List Blk} (h : loadA P ng t op H = some (v, some x)) : ∃ k, H[x]? = some k ∧ k ≠ .gone := by
  unfold loadA at h
  split at h
  · split at h
    · rename_i y hy
      split at h
      · rename_i u hu
        injection h with h
        injection h with h1 h2
        unfold loadR at hu
        split at hu
        · simp [readsOf] at h2
        · simp only [readsOf, Option.some.injEq] at h2
          subst h2
          unfold lstLoad at hu
          split at hu
          · rename_i s n cl e hc; exact ⟨_, hc, by simp⟩
          · cases hu
        · unfold loadV at hu
          split at hu
          · rename_i b off
            simp only [readsOf, Option.some.injEq] at h2
            subst h2
            split at hu
            · rename_i c e hc; exact ⟨_, hc, by simp⟩
            · cases hu
          · cases hu
      · cases h
    · cases h
  · split at h
    · rename_i a ha
      split at h
      · rename_i u hu
        injection h with h
        injection h with h1 h2
        unfold bytesStr at hu
        split at hu
        · split at hu
          · split at hu
            · simp [readsOf] at h2
            · rename_i b off len cap ex
              simp only [readsOf] at h2
              split at h2
              · cases h2
              · rename_i hlen
                cases h2
                split at hu
                · rename_i l hl
                  unfold cellsA at hl
                  simp only at hl
                  split at hl
                  · rw [if_neg (by simpa using hlen)] at hl
                    split at hl
                    · rename_i c e hc; exact ⟨_, hc, by simp⟩
                    · cases hl
                  · cases hl
                · cases hu
            · simp [readsOf] at h2
            · simp [readsOf] at h2
            · simp only [readsOf, Option.some.injEq] at h2
              subst h2
              split at hu
              · rename_i s nb cl e' hc; exact ⟨_, hc, by simp⟩
              · cases hu
            · cases hu
          · cases hu
        · cases hu
      · cases h
    · cases h
  · split at h
    · rename_i a kv ha hkv
      split at h
      · rename_i u hu
        injection h with h
        injection h with h1 h2
        unfold lookupW at hu
        split at hu
        · unfold lookupU at hu
          split at hu
          · split at hu
            · split at hu
              · split at hu
                · rename_i b
                  simp only [readsOf, Option.some.injEq] at h2
                  subst h2
                  split at hu
                  · rename_i l hc; exact ⟨_, hc, by simp⟩
                  · cases hu
                · cases hu
              · cases hu
            · cases hu
          · cases hu
        · unfold lookupV at hu
          split at hu
          · split at hu
            · split at hu
              · split at hu
                · rename_i b
                  simp only [readsOf, Option.some.injEq] at h2
                  subst h2
                  split at hu
                  · rename_i l hc; exact ⟨_, hc, by simp⟩
                  · cases hu
                · cases hu
              · cases hu
            · cases hu
          · cases hu
      · cases h
    · cases h
  · split at h
    · split at h
      · rename_i hb
        cases h
        exact ⟨_, hb, by simp⟩
      · cases h
    · cases h
  · cases h
theorem readsOf_dom {a : AVal} {u : Value} {x : Nat} (h : readsOf a = some x) (hr : VRel g a u) (hn : ∀ b z ap off n, a ≠ .lsl b z ap off n := by intros; simp) : ∃ L, g x = some L := by
  cases hr
  case lsl => exact absurd rfl (hn _ _ _ _ _)
  all_goals simp only [readsOf] at h
  all_goals first
    | (cases h; exact ⟨_, by assumption⟩)
    | (split at h
       · cases h
       · cases h; exact ⟨_, by assumption⟩)
    | cases h
theorem loadA_dom (hρ : ERel g ng t ρ) {op : Op} {v : AVal} {x : Nat} {H : List Blk} (h : loadA P ng t op H = some (v, some x)) : ∃ L, g x = some L := by
  unfold loadA at h
  split at h
  · split at h
    · rename_i y hy
      split at h
      · rename_i u hu
        injection h with h
        injection h with h1 h2
        exact readsOf_dom h2 (hρ _ _ hy) (by rintro b z ap off n rfl; simp [loadR, loadV] at hu)
      · cases h
    · cases h
  · split at h
    · rename_i a ha
      split at h
      · rename_i u hu
        injection h with h
        injection h with h1 h2
        by_cases hn : ∃ b z ap off n, a = .lsl b z ap off n
        · obtain ⟨b, z, ap, off, n, rfl⟩ := hn
          simp only [readsOf, Option.some.injEq] at h2
          subst h2
          unfold bytesStr at hu
          split at hu
          · split at hu
            · simp only at hu
              split at hu
              · split at hu
                · rename_i hc
                  simp only [Bool.and_eq_true] at hc
                  have hx := hρ _ _ ha
                  generalize ρ _ = u' at hx
                  cases hx with
                  | lsl _ _ _ _ _ o m cap ao k1 k2 k3 k4 k5 =>
                    have := lssT_spec hρ.sig hc.2.2.2.2 rfl k2
                    obtain ⟨L, l1, _⟩ := k5 (by omega)
                    exact ⟨L, l1⟩
                · cases hu
              · cases hu
            · cases hu
          · cases hu
        · exact readsOf_dom h2 (hρ _ _ ha) (fun b z ap off n e => hn ⟨b, z, ap, off, n, e⟩)
      · cases h
    · cases h
  · split at h
    · rename_i a kv ha hkv
      split at h
      · rename_i u hu
        injection h with h
        injection h with h1 h2
        refine readsOf_dom h2 (hρ _ _ ha) ?_
        rintro b z ap off n rfl
        unfold lookupW at hu
        split at hu
        · unfold lookupU at hu
          simp only at hu
          split at hu
          · split at hu
            · split at hu <;> cases hu
            · cases hu
          · cases hu
        · unfold lookupV at hu
          simp only at hu
          split at hu
          · split at hu
            · split at hu <;> cases hu
            · cases hu
          · cases hu
      · cases h
    · cases h
  · split at h
    · rename_i q hq
      split at h
      · cases h
        exact readsOf_dom (a := .ptr x 0) rfl (hρ _ _ hq)
      · cases h
    · cases h
  · cases h
end
end Go.Ev
namespace Go.Ev
def repL (l : List AVal) : Nat → List AVal
  | 0 => []
  | n + 1 => l ++ repL l n
def allScalar : List AVal → Bool
  | [] => true
  | a :: l => scalar a && allScalar l
inductive Mk where
  | ptr
  | slice (len cap : Nat) (ex : Option Nat)
def Mk.val (m : Mk) (id : Nat) : AVal :=
  match m with
  | .ptr => .ptr id 0
  | .slice len cap ex => .slice id 0 len cap ex
def freshA (P : Program) (ng : Cx) (t : Tm) (op : Op) : Option (List AVal × TypeId × Mk) :=
  match op with
  | .alloc e => match zeroA P e with
    | some z => match allScalar (acells z) with
      | true => some (acells z, e, .ptr)
      | false => none
    | none => none
  | .box e x => match ev ng t x with
    | some a => match allScalar (acells a) with
      | true => some (acells a, e, .ptr)
      | false => none
    | none => none
  | .buildSlice ty n parts => match P.underlying ty with
    | some (.slice e) => match P.info? e, zeroA P e, evP ng t parts.toList with
      | some ie, some z, some l =>
        if n * ie.size ≤ 16777216 ∧ (acells z).length = ie.size then
          match fillA (fun i => some (i * ie.size, ie.size)) (repL (acells z) n) l with
          | some c => match allScalar c with
            | true => some (c, e, .slice n n none)
            | false => none
          | none => none
        else none
      | _, _, _ => none
    | _ => none
  | .makeSlice ty l c => match P.underlying ty, ev ng t l, ev ng t c with
    | some (.slice e), some (.int _ l), some (.int _ c) => match P.info? e, zeroA P e with
      | some ie, some z =>
        if (0 ≤ l ∧ l ≤ c) ∧ (ie.bytes : Int) * c ≤ 281474976710656 ∧ c ≤ 9223372036854775807 ∧ (acells z).length = ie.size then
          match allScalar (acells z) with
          | true => some (repL (acells z) c.toNat, e, .slice l.toNat c.toNat none)
          | false => none
        else none
      | _, _ => none
    | _, _, _ => none
  | .convert src dst x => match P.underlying src, P.underlying dst with
    | some .string, some (.slice e) => match P.underlying e, ev ng t x with
      | some (.int .u8), some (.str s) => some (s.toList.map fun b => AVal.int .u8 b.toNat, e, .slice s.size s.size (some 1))
      | some (.int .u8), some (.syms i) => match strCells ng i with
        | some l => some (l, e, .slice l.length l.length (some 1))
        | none => none
      | _, _ => none
    | _, _ => none
  | _ => none
theorem bytesRow_one {s : ByteArray} {cap : Nat} : ∀ v, v ∈ (bytesRow s cap).toList → v.oneCell' = true := by
  intro v hv
  simp only [bytesRow, Array.toList_append, List.mem_append, Array.toList_map, List.mem_map, Array.toList_replicate] at hv
  rcases hv with ⟨b, _, rfl⟩ | hv
  · rfl
  · rw [List.eq_of_mem_replicate hv]; rfl
theorem allScalar_rel {g : Inj} : ∀ {l : List AVal} {m : List Value}, allScalar l = true → LRel g l m → ∀ v ∈ m, v.oneCell' = true
  | [], _, _, hr => by cases hr; simp
  | a :: l, _, h, hr => by
    cases hr with
    | cons _ v _ m hv hr =>
    simp only [allScalar, Bool.and_eq_true] at h
    intro u hu
    rcases List.mem_cons.1 hu with rfl | hu
    · exact hv.scalar h.1
    · exact allScalar_rel h.2 hr u hu
theorem repL_length (l : List AVal) : ∀ n, (repL l n).length = n * l.length
  | 0 => by simp [repL]
  | n + 1 => by simp [repL, repL_length l n, Nat.add_mul, Nat.add_comm]
theorem repL_get (l : List AVal) : ∀ (n i : Nat), i < n * l.length → (repL l n)[i]? = l[i % l.length]?
  | 0, i, h => by simp at h
  | n + 1, i, h => by
    simp only [repL]
    by_cases hi : i < l.length
    · rw [List.getElem?_append_left hi, Nat.mod_eq_of_lt hi]
    · rw [List.getElem?_append_right (by omega)]
      have h1 : i - l.length < n * l.length := by
        rw [Nat.add_mul] at h; omega
      rw [repL_get l n _ h1]
      congr 1
      have := Nat.mod_eq_sub_mod (a := i) (b := l.length) (by omega)
      exact this.symm
theorem repL_rel {g : Inj} {l : List AVal} {C : Array Value} (h : LRel g l C.toList) (n k : Nat) (hk : k = n * l.length) :
    LRel g (repL l n) ((Array.range k).map (C[· % C.size]!)).toList := by
  have hlen := h.length
  refine LRel.of_get (by rw [repL_length]; simp [hk]) ?_
  intro i a hi
  have hlt : i < n * l.length := by rw [← repL_length]; exact (List.getElem?_eq_some_iff.1 hi).1
  rw [repL_get l n i hlt] at hi
  obtain ⟨v, h1, h2⟩ := h.get _ _ hi
  refine ⟨v, ?_, h2⟩
  have hpos : 0 < l.length := by
    rcases Nat.eq_zero_or_pos l.length with h0 | h0
    · rw [h0] at hlt; simp at hlt
    · exact h0
  have hs : C.size = l.length := by simp at hlen; exact hlen.symm
  have hm : i % l.length < C.size := by rw [hs]; exact Nat.mod_lt _ hpos
  simp only [Array.toList_map, Array.toList_range, List.getElem?_map, hk, List.getElem?_range hlt, Option.map_some, hs]
  congr 1
  rw [getElem!_pos C _ hm]
  have h3 : C[i % l.length]? = some v := by simpa using h1
  rw [Array.getElem?_eq_getElem hm] at h3
  exact Option.some.inj h3
theorem scalar_repL {l : List AVal} (h : allScalar l = true) : ∀ n, allScalar (repL l n) = true
  | 0 => rfl
  | n + 1 => by
    simp only [repL]
    have key : ∀ (a b : List AVal), allScalar a = true → allScalar b = true → allScalar (a ++ b) = true := by
      intro a
      induction a with
      | nil => intro b _ h; simpa using h
      | cons x a ih => intro b h1 h2; simp only [allScalar, Bool.and_eq_true, List.cons_append] at h1 ⊢; exact ⟨h1.1, ih b h1.2 h2⟩
    exact key _ _ h (scalar_repL h n)
section
variable {P : Program} {g : Inj} {ng : Cx} {t : Tm} {ρ : Operand → Value} {H : List Blk} {w : World}
structure Fresh (P : Program) (g : Inj) (ρ : Operand → Value) (w : World) (o : Oper) (c : List AVal) (e : TypeId) (m : Mk) (v : Value) (C : Array Value) (fr : Nat × Nat) (w0 : World) : Prop where
  run : (execOp ρ o).run P w = .ok (.value v) (w0.alloc (.cells C e fr))
  heap : w0.heap = w.heap
  os : w0.os = w.os
  tape : w0.tape = w.tape
  output : w0.output = w.output
  fr : FrOk fr C
  len : c.length ≤ C.size
  rel : CRel g c C 0
  val : ∀ g' id, g' id = some (⟨w.heap.size, 0, C.size⟩ : Loc) → VRel g' (m.val id) v
theorem freshA_sound (hρ : ERel g ng t ρ) {o : Oper} {c : List AVal} {e : TypeId} {m : Mk} (h : freshA P ng t o.op = some (c, e, m)) : ∃ v C fr w0, Fresh P g ρ w o c e m v C fr w0 := by
  obtain ⟨dt, op, type, pos, after, guard⟩ := o
  simp only at h
  unfold freshA at h
  have ptr : ∀ (sz : Nat) (g' : Inj) (id : Nat), g' id = some (⟨w.heap.size, 0, sz⟩ : Loc) → VRel g' ((Mk.ptr).val id) (.pointer (some ⟨w.heap.size, 0, none⟩)) := by
    intro sz g' id hg'
    simpa [Mk.val] using VRel.ptr id 0 _ hg'
  have slc : ∀ (sz n k : Nat) (g' : Inj) (id : Nat), g' id = some (⟨w.heap.size, 0, sz⟩ : Loc) → VRel g' ((Mk.slice n k none).val id) (.slice (some ⟨w.heap.size, 0, none⟩) n k) := by
    intro sz n k g' id hg'
    simpa [Mk.val] using VRel.slice id 0 n k none 0 k _ hg' (.inl rfl) (fun _ => rfl) (by simp)
  split at h
  · rename_i el
    split at h
    · rename_i z hz
      obtain ⟨i, zv, hi, hzv, hzr⟩ := zeroA_spec hz
      split at h
      · rename_i hs
        cases h
        have hr := (hzr g).cells
        exact ⟨_, zv.cells, (0, 0), w, by simp [execOp, Instr.alloc, zeroValue, typeInfo, hi, hzv, newVar, newRow], rfl, rfl, rfl, rfl, FrOk.zero (allScalar_rel hs hr), by have := hr.length; simp at this; omega, CRel.of_list hr (allScalar_rel hs hr), ptr _⟩
      · cases h
    · cases h
  · rename_i el x
    split at h
    · rename_i a ha
      split at h
      · rename_i hs
        cases h
        have hr := (hρ x _ ha).cells
        exact ⟨_, (ρ x).cells, (0, 0), w, by simp [execOp, Instr.box, newVar, newRow], rfl, rfl, rfl, rfl, FrOk.zero (allScalar_rel hs hr), by have := hr.length; simp at this; omega, CRel.of_list hr (allScalar_rel hs hr), ptr _⟩
      · cases h
    · cases h
  · rename_i ty n parts
    split at h
    · rename_i el hu
      split at h
      · rename_i ie z l hie hz hl
        split at h
        · rename_i hc
          obtain ⟨hc1, hc2⟩ := hc
          split at h
          · rename_i cs hf
            split at h
            · rename_i hs
              cases h
              obtain ⟨i, zv, hi, hzv, hzr⟩ := zeroA_spec hz
              rw [hie] at hi; cases hi
              obtain ⟨i1, i2⟩ := evP_rel hρ _ _ hl
              have hrep := repL_rel (hzr g).cells n (n * ie.size) (by rw [hc2])
              obtain ⟨R, hR, hRr⟩ := fillA_rel (g := g) (fun i => some (i * ie.size, ie.size)) (parts' := (parts.map fun (i, x) => (i, ρ x)).toList) hf (by simpa using i1) (by simpa using i2) hrep
              refine ⟨_, R, (0, 0), w, ?_, rfl, rfl, rfl, rfl, FrOk.zero (allScalar_rel hs hRr), by have := hRr.length; simp at this; omega, CRel.of_list hRr (allScalar_rel hs hRr), slc _ _ _⟩
              have hsm : ¬ (2 ^ 24 < n * ie.size) := by omega
              by_cases h0 : n * ie.size = 0
              · have hR' : Instr.fill (fun i => some (i * ie.size, ie.size)) (Array.map (fun x => (#[] : Array Value)[x % 0]!) (Array.range 0)) (parts.map fun (i, x) => (i, ρ x)).toList = some R := by
                  rw [h0] at hR
                  simpa [Array.range_zero'] using hR
                simp only [Array.range_zero'] at hR'
                simp [execOp, Instr.buildSlice, run_underlying hu, run_sizeOf' w hie, h0, Array.range_zero'] at hR' ⊢
                rw [hR']
                simp [newRow]
              · simp only [execOp, Sem.run_bind, run_buildSlice w ty e n _ R ie zv hu hie hzv (by omega) h0 hR, Result.andThen_ok]
                rfl
            · cases h
          · cases h
        · cases h
      · cases h
    · cases h
  · rename_i ty l c
    split at h
    · rename_i el kl l' kc c' hu hl hc
      split at h
      · rename_i ie z hie hz
        split at h
        · rename_i hcond
          obtain ⟨⟨c1, c2⟩, c3, c4, c5⟩ := hcond
          split at h
          · rename_i hs
            cases h
            obtain ⟨i, zv, hi, hzv, hzr⟩ := zeroA_spec hz
            rw [hie] at hi; cases hi
            have h1 := hρ l _ hl
            have h2 := hρ c _ hc
            have hrep := repL_rel (hzr g).cells c'.toNat (c'.toNat * ie.size) (by rw [c5])
            have hrun := run_make (P := P) w ty e ie zv hu hie hzv kl kc l' c' c1 c2 c3 c4
            cases hh1 : ρ l <;> rw [hh1] at h1 <;> cases h1
            cases hh2 : ρ c <;> rw [hh2] at h2 <;> cases h2
            refine ⟨_, madeCells zv.cells (c'.toNat * ie.size), (0, 0), w, ?_, rfl, rfl, rfl, rfl, FrOk.zero (allScalar_rel (scalar_repL hs _) hrep), by rw [repL_length, size_madeCells, c5]; exact Nat.le_refl _, CRel.of_list hrep (allScalar_rel (scalar_repL hs _) hrep), slc _ _ _⟩
            simp [execOp, hh1, hh2, hrun]
          · cases h
        · cases h
      · cases h
    · cases h
  · rename_i src dst x
    split at h
    · rename_i el hs hd
      have gen : ∀ (s : ByteArray) (cs : List AVal) (n : Nat), cs.length = s.size → n = s.size → (∀ (k : Nat) (a : AVal), cs[k]? = some a → ∃ b : UInt8, s.data.toList[k]? = some b ∧ VRel g a (.int .u8 b.toNat)) → P.underlying el = some (.int .u8) → ρ x = .string s →
          ∃ v C fr w0, Fresh P g ρ w ⟨dt, .convert src dst x, type, pos, after, guard⟩ cs el (.slice n n (some 1)) v C fr w0 := by
        intro s cs n hcs hn hcell he hh
        subst hn
        have hrun := run_bytes_of_string (P := P) w src dst el s hs hd he
        have hge := grownCap_ge w s.size 0 el
        have hsz : (bytesRow s (grownCap w s.size 0 el)).size = grownCap w s.size 0 el := by
          have : s.data.size = s.size := rfl
          simp [bytesRow, this]; omega
        refine ⟨.slice (some ⟨w.heap.size, 0, none⟩) s.size (grownCap w s.size 0 el), bytesRow s (grownCap w s.size 0 el), ((bytesRow s (grownCap w s.size 0 el)).size, (bytesRow s (grownCap w s.size 0 el)).size + 1), w.drew, by simp [execOp, hh, hrun], rfl, rfl, rfl, rfl, FrOk.behind bytesRow_one, ?_, ?_, ?_⟩
        · rw [hsz, hcs]; exact hge
        · intro i a hi
          obtain ⟨b, hb, hr⟩ := hcell i a hi
          refine ⟨.int .u8 b.toNat, ?_, hr, rfl⟩
          have hlt : i < s.data.size := by have := (List.getElem?_eq_some_iff.1 hb).1; simpa using this
          have hb' : s.data[i] = b := by
            have := (List.getElem?_eq_some_iff.1 hb).2; simpa using this
          have hlt' : i < s.size := hlt
          simp [bytesRow, Array.getElem?_append, hlt']
          rw [hb']
        · intro g' id hg'
          rw [hsz] at hg'
          simpa [Mk.val] using VRel.slice id 0 s.size s.size (some 1) 0 (grownCap w s.size 0 el) _ hg' (.inl rfl) (by simp) (fun z hz => by cases hz; exact ⟨hge, by simp⟩)
      split at h
      · rename_i s he hx
        cases h
        have h1 := hρ x _ hx
        cases hh : ρ x <;> rw [hh] at h1 <;> cases h1
        refine gen s (s.toList.map fun b => AVal.int .u8 b.toNat) s.size (by simp [ByteArray.toList_eq]) rfl (fun k a ha => ?_) he hh
        simp only [List.getElem?_map, Option.map_eq_some_iff] at ha
        obtain ⟨b, hb, rfl⟩ := ha
        rw [ByteArray.toList_eq] at hb
        exact ⟨b, hb, .int _ _⟩
      · rename_i i he hx
        split at h
        · rename_i l hl
          cases h
          have h1 := hρ x _ hx
          cases hh : ρ x <;> rw [hh] at h1 <;> cases h1
          obtain ⟨c1, c2⟩ := strCells_spec hρ.sig hl
          exact gen (g.sig.sval i) _ _ c1 c1 c2 he hh
        · cases h
      · cases h
    · cases h
  · cases h
def storeV (P : Program) (ty : TypeId) (a v : AVal) (hp : Hp) : Option Hp :=
  match a with
  | .ptr b off => match hp.heap[b]? with
    | some (.cells c e) => match P.info? ty with
      | some i =>
        if (acells v).length = i.size ∧ off + (acells v).length ≤ c.length then
          match allScalar (acells v) with
          | true => some ⟨hp.heap.set b (.cells (setsA c off (acells v)) e), b :: hp.log⟩
          | false => none
        else none
      | none => none
    | _ => none
  | _ => none
theorem foldl_one : ∀ (us : List Value) (i off : Nat) (C : Array Value), (∀ u ∈ us, u.oneCell' = true) → (∀ v, v ∈ C.toList → v.oneCell' = true) → ∀ v, v ∈ ((us.zipIdx i).foldl (fun cs (x : Value × Nat) => cs.setIfInBounds (off + x.2) x.1) C).toList → v.oneCell' = true
  | [], _, _, _, _, h, v, hv => h v hv
  | u :: us, i, off, C, hu, h, v, hv => by
    simp only [List.zipIdx_cons, List.foldl_cons] at hv
    refine foldl_one us (i + 1) off _ (fun u hu' => hu u (List.mem_cons_of_mem _ hu')) (fun v hv => ?_) v hv
    rw [Array.toList_setIfInBounds] at hv
    rcases List.mem_or_eq_of_mem_set hv with h1 | h1
    · exact h v h1
    · subst h1; exact hu _ (List.mem_cons_self ..)
theorem BRel.sets {g : Inj} {w' : World} {c : List AVal} {e : TypeId} {L : Loc} {C : Array Value} {fr : Nat × Nat} {vs : List AVal} {us : List Value} {off : Nat}
    (h2 : C.size = L.dl + L.n) (h3 : FrOk fr C) (h4 : c.length ≤ L.n) (h5 : CRel g c C L.dl) (hr : LRel g vs us) (h1 : ∀ u ∈ us, u.oneCell' = true)
    (hle : off + vs.length ≤ c.length)
    (hw : w'.heap[L.blk]? = some (.cells ((us.zipIdx 0).foldl (fun cs (x : Value × Nat) => cs.setIfInBounds (L.dl + off + x.2) x.1) C) e fr)) : BRel g w' (.cells (setsA c off vs) e) L := by
  have := CRel.sets (d := L.dl) off 0 hr h1 h5 (by omega)
  refine ⟨_, fr, hw, by rw [foldl_size]; exact h2, ⟨by rw [foldl_size]; exact h3.not, by rw [foldl_size]; exact h3.eq, foldl_one us 0 _ C h1 h3.one⟩, by rw [setsA_length]; exact h4, this⟩
theorem storeV_sound {hp hp' : Hp} (hH : HRel ng g hp.heap w) {ty : TypeId} {a v : AVal} {ua uv : Value} (h : storeV P ty a v hp = some hp') (ha : VRel g a ua) (hv : VRel g v uv) :
    ∃ w', (Instr.storeAt ty ua uv).run P w = .ok () w' ∧ HRel ng g hp'.heap w' ∧ Ext g hp.heap w g hp'.heap w' := by
  unfold storeV at h
  split at h
  · rename_i b off
    split at h
    · rename_i c e hb
      split at h
      · rename_i i hi
        split at h
        · rename_i hc
          split at h
          · rename_i hs
            cases h
            cases ha with
            | ptr _ _ L hL =>
              obtain ⟨M, hM, C, fr, h1, h2, h3, h4, h5⟩ := hH.blk b _ hb (by simp)
              rw [hL] at hM; cases hM
              have hr := hv.cells
              have hlen := hr.length
              have hone := allScalar_rel hs hr
              have hle : L.dl + off + 0 + uv.cells.toList.length ≤ C.size := by omega
              obtain ⟨w', k1, k2, k3⟩ := storeCells_ok (P := P) L.blk (L.dl + off) e fr uv.cells.toList 0 C w h1 h3.1 hle hone
              have hsz : uv.cells.size = i.size := by simp at hlen; omega
              have hB := BRel.sets (g := g) (e := e) h2 h3 h4 h5 hr hone (by omega) k3
              obtain ⟨r1, r2⟩ := hH.write hb hL k2 hB
              refine ⟨w', ?_, r1, r2⟩
              simp only [Instr.storeAt, Instr.sureAddr, storeVar, Sem.run_bind, Sem.run_pure, Result.andThen_ok, run_sizeOf' w hi, hsz]
              simp [k1]
          · cases h
        · cases h
      · cases h
    · cases h
  · cases h
end
end Go.Ev
namespace Go.Ev
set_option linter.unusedVariables false
set_option linter.unusedSimpArgs false
set_option linter.unnecessarySimpa false
def lenV : AVal → Option Nat
  | .slice _ _ n _ _ => some n
  | .nilslice => some 0
  | .str s => some s.size
  | _ => none
def srcLen (ng : Cx) (x : AVal) : Option Nat :=
  match x with
  | .row r => match ng.rlen r with
    | some a => match factV ng a with
      | .int .i64 n => match n with
        | .ofNat k => some k
        | _ => none
      | _ => none
    | none => none
  | x => lenV x
def rowCells (ng : Cx) (r size : Nat) : Nat → Nat → Option (List AVal)
  | 0, _ => some []
  | n + 1, j => match ng.rat r (.int .i64 j) with
    | some cs => if cs.length = size then match rowCells ng r size n (j + 1) with
      | some l => some (cs ++ l)
      | none => none
      else none
    | none => none
def srcCells (ng : Cx) (size n : Nat) (x : AVal) (H : List Blk) : Option (List AVal) :=
  match x with
  | .row r => rowCells ng r size n 0
  | x => cellsA size n x H
def copyA (P : Program) (ng : Cx) (ts : List TypeId) (args : List AVal) (hp : Hp) : Option (AVal × Hp) :=
  match ts, args with
  | t :: _, [d, x] => match P.underlying t with
    | some (.slice e) => match P.info? e, srcLen ng x, lenV d with
      | some ie, some xl, some dl => match srcCells ng ie.size (Nat.min xl dl) x hp.heap with
        | some l => match d with
          | .nilslice => some (.int .i64 (Nat.min xl dl), hp)
          | .slice b off _ _ _ =>
            if Nat.min xl dl = 0 then some (.int .i64 (Nat.min xl dl), hp) else match hp.heap[b]? with
            | some (.cells c e') => if off + l.length ≤ c.length then some (.int .i64 (Nat.min xl dl), ⟨hp.heap.set b (.cells (setsA c off l) e'), b :: hp.log⟩) else none
            | _ => none
          | _ => none
        | none => none
      | _, _, _ => none
    | _ => none
  | _, _ => none
def appendTo (e : TypeId) (size bytes xl : Nat) (l : List AVal) (s : AVal) (hp : Hp) : Option (AVal × Hp) :=
  match s with
  | .nilslice =>
    if xl = 0 then some (.nilslice, hp)
    else if xl ≤ 9223372036854775807 ∧ xl * bytes ≤ 140737488355328 then
      some (.slice hp.heap.length 0 xl xl (some size), ⟨hp.heap ++ [.cells l e], hp.log⟩)
    else none
  | .slice b off len cap ex =>
    if len + xl ≤ cap then
      if xl = 0 then some (.slice b off len cap ex, hp) else match hp.heap[b]? with
      | some (.cells c e') => if off + len * size + l.length ≤ c.length then some (.slice b off (len + xl) cap ex, ⟨hp.heap.set b (.cells (setsA c (off + len * size) l) e'), b :: hp.log⟩) else none
      | _ => none
    else if len + xl ≤ 9223372036854775807 ∧ (len + xl) * bytes ≤ 140737488355328 then
      match cellsA size len (.slice b off len cap ex) hp.heap with
      | some old => match ex with
        | none => some (.slice hp.heap.length 0 (len + xl) (len + xl) (some size), ⟨hp.heap ++ [.cells (old ++ l) e], hp.log⟩)
        | some z => match hp.heap[b]? with
          | some (.cells _ e') => if z = size ∧ e' = e ∧ len ≤ cap then
              some (.slice hp.heap.length 0 (len + xl) (len + xl) (some size), ⟨hp.heap.set b .gone ++ [.cells (old ++ l) e], b :: hp.log⟩) else none
          | _ => none
      | none => none
    else none
  | _ => none
def okSrc : TypeDesc → Bool
  | .slice _ => true
  | .string => true
  | _ => false
def appendA (P : Program) (ts : List TypeId) (args : List AVal) (hp : Hp) : Option (AVal × Hp) :=
  match ts, args with
  | [t, xt], [s, x] => match P.underlying t, P.underlying xt with
    | some (.slice e), some dx => match P.info? e, zeroA P e, lenV x with
      | some ie, some z, some xl =>
        if okSrc dx = true ∧ (acells z).length = ie.size ∧ 0 < ie.size ∧ allScalar (acells z) = true then match cellsA ie.size xl x hp.heap with
          | some l => appendTo e ie.size ie.bytes xl l s hp
          | none => none
        else none
      | _, _, _ => none
    | _, _ => none
  | _, _ => none
def appendZ (P : Program) (ts : List TypeId) (args : List AVal) (hp : Hp) : Option (AVal × Hp) :=
  match ts, args with
  | [t, xt], [.slice b off len cap none, .int _ n] => match P.underlying t, P.underlying xt with
    | some (.slice e), some (.int _) => match P.info? e, zeroA P e with
      | some ie, some z =>
        if (0 ≤ n ∧ n ≤ 9223372036854775807) ∧ cap < len + n.toNat ∧ len + n.toNat ≤ 9223372036854775807 ∧ (len + n.toNat) * ie.bytes ≤ 140737488355328 ∧ (acells z).length = ie.size ∧ 0 < ie.size ∧ allScalar (acells z) = true then
          match cellsA ie.size len (.slice b off len cap none) hp.heap with
          | some old => some (.slice hp.heap.length 0 (len + n.toNat) (len + n.toNat) (some ie.size), ⟨hp.heap ++ [.cells (old ++ repL (acells z) n.toNat) e], hp.log⟩)
          | none => none
        else none
      | _, _ => none
    | _, _ => none
  | _, _ => none
section
variable {P : Program} {g : Inj} {ng : Cx} {t : Tm} {ρ : Operand → Value} {H : List Blk} {w : World}
theorem lenV_spec {x : AVal} {u : Value} {n : Nat} (h : lenV x = some n) (hx : VRel g x u) : Builtin.lenOf u = pure n := by
  unfold lenV at h
  split at h <;> first | (cases h; cases hx; rfl) | cases h
theorem lenV_nil {x : AVal} {n : Nat} (h : lenV x = some n) (hx : x = .nilslice) : n = 0 := by
  subst hx; simp [lenV] at h; exact h.symm
theorem srcLen_spec (hg : ng.Good g.sig) {x : AVal} {u : Value} {n : Nat} (h : srcLen ng x = some n) (hx : VRel g x u) : Builtin.lenOf u = pure n := by
  unfold srcLen at h
  split at h
  · rename_i r
    split at h
    · rename_i a ha
      cases hx with
      | row _ X ao cap h1 h2 h3 =>
        have hd := hg.rlen r a X ha h1
        have hv : VRel g a (.int .i64 X.len) := by rw [← den_rel, hd]; exact .int _ _
        have hf := factV_rel hg hv
        split at h
        · rename_i m hm
          split at h
          · rename_i k
            cases h
            rw [hm] at hf
            have : (X.len : Int) = Int.ofNat n := by cases hf; rfl
            have : X.len = n := by exact Int.ofNat.inj this
            subst this
            rfl
          · cases h
        · cases h
    · cases h
  · exact lenV_spec h hx
theorem srcLen_nil {x : AVal} {n : Nat} (h : srcLen ng x = some n) (hx : x = .nilslice) : n = 0 := by
  subst hx; simp [srcLen, lenV] at h; exact h.symm
theorem rowCells_spec (hH : HRel ng g H w) {r size : Nat} {X : Fz} (hX : g.sig.ext r = some X) {C : Array Value}
    (hC : ∀ m j, m < X.len → j < X.z → ∃ v, C[X.off + m * X.z + j]? = some v ∧ (∀ g, VRel g (X.val m j) v) ∧ v.oneCell' = true) : ∀ (n s : Nat) (l : List AVal), rowCells ng r size n s = some l →
    ∃ vs : List Value, vs.length = n * size ∧ LRel g l vs ∧ (∀ v ∈ vs, v.oneCell' = true) ∧ l.length = n * size ∧ (∀ (j : Nat) (v : Value), vs[j]? = some v → C[X.off + s * size + j]? = some v) ∧ (0 < n → s < X.len)
  | 0, s, l, h => by
    simp only [rowCells] at h; cases h
    exact ⟨[], by simp, .nil, by simp, by simp, by simp, by omega⟩
  | n + 1, s, l, h => by
    simp only [rowCells] at h
    split at h
    · rename_i cs hrat
      split at h
      · rename_i hlen
        split at h
        · rename_i l' hl'
          cases h
          obtain ⟨vs', v1, v2, v3, v4, v5, _⟩ := rowCells_spec hH hX hC n (s + 1) l' hl'
          obtain ⟨m, d1, d2, d3, d4⟩ := hH.sig.rat r _ cs X hrat hX
          have hm : s = m := by
            simp only [den, AVal.int.injEq, true_and] at d1
            omega
          subst hm
          have h5 : CRel g cs C (X.off + s * X.z) := by
            intro i a hi
            have hlt : i < X.z := by rw [← d3]; exact (List.getElem?_eq_some_iff.1 hi).1
            obtain ⟨y, y1, y2, y3⟩ := hC s i d2 hlt
            refine ⟨y, y1, ?_, y3⟩
            rw [← den_rel, d4 i a hi]
            exact y2 g
          have hseg : seg cs 0 size = some cs := by
            unfold seg
            rw [if_pos (by omega)]
            simp [← hlen]
          obtain ⟨us, u1, u0, u2, u3, u4⟩ := CRel.seg h5 hseg
          have hz : X.z = size := by rw [← d3, hlen]
          refine ⟨us ++ vs', by rw [List.length_append, u1, v1, Nat.add_mul]; omega, u2.append v2, ?_, by rw [List.length_append, hlen, v4, Nat.add_mul]; omega, ?_, fun _ => d2⟩
          · intro v hv
            rcases List.mem_append.1 hv with hv | hv
            · exact u3 v hv
            · exact v3 v hv
          · intro j v hj
            rcases Nat.lt_or_ge j us.length with h9 | h9
            · rw [List.getElem?_append_left h9] at hj
              have := u4 j v hj
              rw [hz] at this
              rw [show X.off + s * size + j = X.off + s * size + (0 + j) by omega]; exact this
            · rw [List.getElem?_append_right h9] at hj
              have := v5 _ v hj
              rw [u1] at this h9
              rw [show X.off + (s + 1) * size + (j - size) = X.off + s * size + j by rw [Nat.add_mul]; omega] at this
              exact this
        · cases h
      · cases h
    · cases h
theorem run_srcCells (hH : HRel ng g H w) {size n : Nat} {x : AVal} {u : Value} {l : List AVal} (h : srcCells ng size n x H = some l) (hx : VRel g x u) (hn : x = .nilslice → n = 0) :
    ∃ vs : List Value, (∀ w', w'.heap = w.heap → (Builtin.firstCells size n u).run P w' = .ok vs.toArray w') ∧ vs.length = n * size ∧ LRel g l vs ∧ (∀ v ∈ vs, v.oneCell' = true) ∧ l.length = n * size := by
  unfold srcCells at h
  split at h
  · rename_i r
    cases hx with
    | row _ X ao cap h1 h2 h3 =>
      rcases Nat.eq_zero_or_pos n with h9 | h9
      · subst h9
        simp only [rowCells] at h; cases h
        refine ⟨[], fun w' _ => ?_, by simp, .nil, by simp, by simp⟩
        cases ao <;> simp [Builtin.firstCells, loadCells, loadCellsFrom]
      · have hlen : 0 < X.len := by
          obtain ⟨n', rfl⟩ : ∃ n', n = n' + 1 := ⟨n - 1, by omega⟩
          simp only [rowCells] at h
          split at h
          · rename_i cs hrat
            obtain ⟨m, d1, d2, _⟩ := hH.sig.rat r _ cs X hrat h1
            omega
          · cases h
        have ha := h3 hlen
        subst ha
        obtain ⟨C, e, fr, c1, c2, _⟩ := (hH.frz.row r X h1 hlen).1
        obtain ⟨vs, v1, v2, v3, v4, v5, _⟩ := rowCells_spec hH h1 c2 n 0 l h
        refine ⟨vs, fun w' hw' => ?_, v1, v2, v3, v4⟩
        have hcell : ∀ (j : Nat) (v : Value), vs[j]? = some v → w'.cell? ((⟨X.blk, X.off, none⟩ : Addr).add j) = some v := by
          intro j v hj
          rw [addr_add, cell_of (by rw [hw']; exact c1)]
          have := v5 j v hj
          rw [show X.off + j = X.off + 0 * size + j by omega]; exact this
        exact run_firstCells_some (P := P) w' size n ⟨X.blk, X.off, none⟩ X.len cap vs v1 hcell
  · exact run_cellsA hH h hx hn
structure After (P : Program) (g : Inj) (ng : Cx) (hp hp' : Hp) (w w' : World) (g' : Inj) : Prop where
  rel : HRel ng g' hp'.heap w'
  ext : Ext g hp.heap w g' hp'.heap w'
theorem copyA_sound {hp hp' : Hp} (hH : HRel ng g hp.heap w) {ts : Array TypeId} {ty : TypeId} {l : List AVal} {m : Array Value} {r : AVal} (h : copyA P ng ts.toList l hp = some (r, hp')) (hl : LRel g l m.toList) :
    ∃ v w', (Builtin.copy_ ts ty m).run P w = .ok v w' ∧ VRel g r v ∧ After P g ng hp hp' w w' g := by
  unfold copyA at h
  split at h
  · rename_i tt rest d x e1
    obtain ⟨ts⟩ := ts
    obtain ⟨m⟩ := m
    simp at e1; subst e1
    cases hl with
    | cons _ du _ _ hd hl => cases hl with
      | cons _ xu _ _ hx hl =>
        cases hl
        split at h
        · rename_i e hu
          split at h
          · rename_i ie xl dl hie hxl hdl
            split at h
            · rename_i cs hcs
              have hsz := run_sizeOf' (P := P) w hie
              have hlx := srcLen_spec hH.sig hxl hx
              have hn0 : x = .nilslice → Nat.min xl dl = 0 := fun hh => by rw [srcLen_nil hxl hh]; exact Nat.zero_min _
              obtain ⟨vs, k1, k2, k3, k4, k5⟩ := run_srcCells (P := P) hH hcs hx hn0
              have kw := k1 w rfl
              split at h
              · cases h; cases hd
                simp only [lenV, Option.some.injEq] at hdl
                subst hdl
                refine ⟨.int .i64 (Nat.min xl 0 : Nat), w, ?_, .int _ _, hH, Ext.refl _ _ _⟩
                simp only [Nat.min_zero] at kw
                simp [Builtin.copy_, run_underlying hu, hlx, hsz, kw, goInt]
              · rename_i b off len cap ex
                simp only [lenV, Option.some.injEq] at hdl
                subst hdl
                cases hd with
                | slice _ _ _ _ _ o' cap' L hL h0 h1' h2' =>
                  split at h
                  · rename_i hn
                    cases h
                    refine ⟨.int .i64 (Nat.min xl len : Nat), w, ?_, .int _ _, hH, Ext.refl _ _ _⟩
                    have hv0 : vs = [] := List.eq_nil_of_length_eq_zero (by rw [k2, hn]; simp)
                    subst hv0
                    simp [Builtin.copy_, run_underlying hu, hlx, hsz, kw, goInt, storeCells]
                  · rename_i hn
                    split at h
                    · rename_i c e' hb
                      split at h
                      · rename_i hle
                        cases h
                        obtain ⟨M, hM, C, fr, h1, h2, h3, h4, h5⟩ := hH.blk b _ hb (by simp)
                        rw [hL] at hM; cases hM
                        have hpos : 0 < len := by
                          rcases Nat.eq_zero_or_pos len with h9 | h9
                          · subst h9; exact absurd (Nat.min_zero xl) hn
                          · exact h9
                        have ho : o' = off := by rcases h0 with h0 | h0; exact h0; omega
                        subst ho
                        have hlen := k3.length
                        obtain ⟨w', j1, j2, j3⟩ := storeCells_ok (P := P) L.blk (L.dl + o') e' fr vs 0 C w h1 h3.1 (by omega) k4
                        have hB := BRel.sets (g := g) (e := e') h2 h3 h4 h5 k3 k4 hle j3
                        obtain ⟨r1, r2⟩ := hH.write hb hL j2 hB
                        refine ⟨.int .i64 (Nat.min xl len : Nat), w', ?_, .int _ _, r1, r2⟩
                        simp [Builtin.copy_, run_underlying hu, hlx, hsz, kw, goInt, j1]
                      · cases h
                    · cases h
              · cases h
            · cases h
          · cases h
        · cases h
  · cases h
theorem run_append_room' (tt xt ty e : TypeId) (dx : TypeDesc) (i : TypeInfo) (ht : P.underlying tt = some (.slice e)) (hx : P.underlying xt = some dx) (hd : okSrc dx = true) (hi : P.info? e = some i)
    (a : Addr) (sLen sCap n : Nat) (x : Value) (news : List Value) (hlen : Builtin.lenOf x = pure n) (hnew : (Builtin.firstCells i.size n x).run P w = .ok news.toArray w) (hroom : sLen + n ≤ sCap) :
    (Builtin.append_ #[tt, xt] ty #[.slice (some a) sLen sCap, x]).run P w = ((storeCells (a.add (sLen * i.size)) news).run P w).andThen fun _ w' => .ok (.slice (some a) (sLen + n) sCap) w' := by
  cases dx <;> first | (simp [okSrc] at hd; done) | simp [Builtin.append_, run_underlying ht, run_underlying hx, run_sizeOf' w hi, hlen, hroom, hnew]
theorem run_append_grow' (tt xt ty e : TypeId) (dx : TypeDesc) (i : TypeInfo) (z : Value) (ht : P.underlying tt = some (.slice e)) (hx : P.underlying xt = some dx) (hd : okSrc dx = true) (hi : P.info? e = some i) (hz : i.zero = some z)
    (base : Option Addr) (sLen sCap n : Nat) (x : Value) (olds news : List Value) (hlen : Builtin.lenOf x = pure n) (hnew : (Builtin.firstCells i.size n x).run P w.drew = .ok news.toArray w.drew)
    (hold : (Builtin.firstCells i.size sLen (.slice base sLen sCap)).run P w.drew = .ok olds.toArray w.drew)
    (hg : sCap < sLen + n) (h63 : sLen + n ≤ 9223372036854775807) (hfit : Builtin.nextslicecap (sLen + n) sCap * i.bytes ≤ 281474976710656) :
    (Builtin.append_ #[tt, xt] ty #[.slice base sLen sCap, x]).run P w =
      .ok (.slice (some ⟨w.heap.size, 0, none⟩) (sLen + n) (grownCap w (sLen + n) sCap e))
        (w.drew.alloc (.cells (olds.toArray ++ news.toArray ++ Builtin.zeroCells z.cells (grownCap w (sLen + n) sCap e - (sLen + n))) e)) := by
  have hn : ¬ (sLen + n ≤ sCap) := by omega
  have h63' : ¬ (9223372036854775807 < ((sLen : Int) + (n : Int))) := by omega
  have h48' : ¬ (281474976710656 < Builtin.nextslicecap (sLen + n) sCap * i.bytes) := by omega
  cases dx <;> first
    | (simp [okSrc] at hd; done)
    | (simp [Builtin.append_, run_underlying ht, run_underlying hx, sizeOf, typeInfo, zeroValue, hi, hz, hlen, hn, h63', h48', Question.forced, hnew, hold, newRow, grownCap]
       congr 2
       apply Array.ext'
       simp [List.append_assoc])
theorem run_append_zeros (tt xt ty e : TypeId) {kk : IntKind} (i : TypeInfo) (z : Value) (ht : P.underlying tt = some (.slice e)) (hx : P.underlying xt = some (.int kk)) (hi : P.info? e = some i) (hz : i.zero = some z)
    (a : Addr) (sLen sCap : Nat) (n : Int) (k : IntKind) (olds : List Value) (hold : (Builtin.firstCells i.size sLen (.slice (some a) sLen sCap)).run P w.drew = .ok olds.toArray w.drew)
    (h0 : 0 ≤ n) (h1 : n ≤ 9223372036854775807) (hg : sCap < sLen + n.toNat) (h63 : sLen + n.toNat ≤ 9223372036854775807) (hfit : Builtin.nextslicecap (sLen + n.toNat) sCap * i.bytes ≤ 281474976710656) (hs : 0 < i.size) (h48 : n.toNat * i.bytes ≤ 281474976710656) :
    (Builtin.append_ #[tt, xt] ty #[.slice (some a) sLen sCap, .int k n]).run P w =
      .ok (.slice (some ⟨w.heap.size, 0, none⟩) (sLen + n.toNat) (grownCap w (sLen + n.toNat) sCap e))
        (w.drew.alloc (.cells (olds.toArray ++ Builtin.zeroCells z.cells n.toNat ++ Builtin.zeroCells z.cells (grownCap w (sLen + n.toNat) sCap e - (sLen + n.toNat))) e)) := by
  obtain ⟨n, rfl⟩ := Int.eq_ofNat_of_zero_le h0
  simp only [Int.toNat_natCast] at *
  have hn : ¬ (sLen + n ≤ sCap) := by omega
  have hw : IntKind.i64.wrap (n : Int) = n := by rw [IntKind.wrap_i64]; omega
  have h63' : ¬ (9223372036854775807 < ((sLen : Int) + (n : Int))) := by omega
  have h48' : ¬ (281474976710656 < Builtin.nextslicecap (sLen + n) sCap * i.bytes) := by omega
  have h48i : ¬ (281474976710656 < (n : Int) * (i.bytes : Int)) := by
    rw [← Int.natCast_mul]
    omega
  have hneg : ¬ ((n : Int) < 0) := by omega
  have hns : n * i.size = 0 → Builtin.zeroCells z.cells n = #[] := by
    intro h
    have : n = 0 := by
      rcases Nat.mul_eq_zero.1 h with h | h
      · exact h
      · omega
    subst this
    simp [Builtin.zeroCells]
  by_cases hz0 : n * i.size = 0
  · have hz1 := hns hz0
    simp [Builtin.append_, run_underlying ht, run_underlying hx, sizeOf, typeInfo, zeroValue, hi, hz, asInt, asIntOf, hw, hn, hneg, hz0, hz1, h63', h48', h48i, Question.forced, hold, newRow, grownCap]
  · simp [Builtin.append_, run_underlying ht, run_underlying hx, sizeOf, typeInfo, zeroValue, hi, hz, asInt, asIntOf, hw, hn, hneg, hz0, h63', h48', h48i, Question.forced, hold, newRow, grownCap]
theorem zeroCells_one {z : Array Value} {n : Nat} (h : ∀ v, v ∈ z.toList → v.oneCell' = true) : ∀ v, v ∈ (Builtin.zeroCells z n).toList → v.oneCell' = true := by
  intro v hv
  simp only [Builtin.zeroCells, Array.toList_map, List.mem_map] at hv
  obtain ⟨i, hi, rfl⟩ := hv
  have hlt : i < n * z.size := by simpa using hi
  have hz : 0 < z.size := by
    rcases Nat.eq_zero_or_pos z.size with h0 | h0
    · rw [h0] at hlt; simp at hlt
    · exact h0
  have hm : i % z.size < z.size := Nat.mod_lt _ hz
  rw [getElem!_pos z _ hm]
  exact h _ (by simp)
theorem grown_rel {hp : Hp} (hH : HRel ng g hp.heap w) {e : TypeId} {z : Value} {size need sCap : Nat} {new : List AVal} {vs : List Value} (hr : LRel g new vs) (h1 : ∀ v ∈ vs, v.oneCell' = true)
    (hl : new.length = need * size) (hz : z.cells.size = size) (hz1 : ∀ v, v ∈ z.cells.toList → v.oneCell' = true) {H' : List Blk} (hH' : HRel ng g H' w) (hlen : H'.length = hp.heap.length) :
    let C := vs.toArray ++ Builtin.zeroCells z.cells (grownCap w need sCap e - need)
    C.size = grownCap w need sCap e * size ∧
    HRel ng (upd g hp.heap.length ⟨w.heap.size, 0, C.size⟩) (H' ++ [.cells new e]) (w.drew.alloc (.cells C e)) ∧
    Ext g H' w (upd g hp.heap.length ⟨w.heap.size, 0, C.size⟩) (H' ++ [.cells new e]) (w.drew.alloc (.cells C e)) := by
  intro C
  have hge := grownCap_ge w need sCap e
  have hvl := hr.length
  have hC : C.size = grownCap w need sCap e * size := by
    simp only [C, Array.size_append, List.size_toArray, size_zeroCells, hz, ← hvl, hl, ← Nat.add_mul]
    congr 1; omega
  have hid : g hp.heap.length = none := by
    cases hg : g hp.heap.length with
    | none => rfl
    | some M => have := (hH.dom _ M hg).1; omega
  have hcr : CRel g new C 0 := by
    intro j a hj
    obtain ⟨v, k1, k2⟩ := hr.get j a hj
    refine ⟨v, ?_, k2, h1 v (List.mem_of_getElem? k1)⟩
    have hlt : j < vs.length := (List.getElem?_eq_some_iff.1 k1).1
    have : (0 + j) = j := by omega
    rw [this]
    simp only [C]
    rw [Array.getElem?_append_left (by simpa using hlt)]
    simpa using k1
  have hng : ng.n ≤ hp.heap.length := by
    rcases Nat.lt_or_ge hp.heap.length ng.n with h9 | h9
    · obtain ⟨L, hL, _⟩ := hH.glob _ h9
      rw [hid] at hL; cases hL
    · exact h9
  have := HRel.alloc hH' (w0 := w.drew) (H' := H' ++ [.cells new e]) hid hng (c := new) (e := e) (C := C) (fr := (0, 0)) rfl rfl rfl rfl (by rw [← hlen]; simp) (by
      intro j hj
      rw [← hlen] at hj
      rcases Nat.lt_or_ge j H'.length with h9 | h9
      · rw [List.getElem?_append_left h9]
      · rw [List.getElem?_append_right h9, List.getElem?_eq_none h9]
        have : j - H'.length ≠ 0 := by omega
        simp [this]) (by simp) (.inl (by omega)) (FrOk.zero (by
        intro v hv
        simp only [C, Array.toList_append, List.mem_append] at hv
        rcases hv with hv | hv
        · exact h1 v hv
        · exact zeroCells_one hz1 v hv)) (by
      rw [hC, hl]; exact Nat.mul_le_mul_right _ hge) hcr
  exact ⟨hC, this.1, this.2 (by omega)⟩
theorem live_drop {H : List Blk} {b j : Nat} (h : Live (H.set b .gone) j) : Live H j ∧ j ≠ b := by
  obtain ⟨k, hk, hne⟩ := h
  rw [List.getElem?_set] at hk
  split at hk
  · split at hk
    · cases hk; exact absurd rfl hne
    · cases hk
  · rename_i hbj; exact ⟨⟨k, hk, hne⟩, fun e => hbj e.symm⟩
theorem HRel.drop {b : Nat} (h : HRel ng g H w) : HRel ng g (H.set b .gone) w := by
  have hlive : ∀ j, Live (H.set b .gone) j → Live H j := by
    intro j ⟨k, hk, hne⟩
    rw [List.getElem?_set] at hk
    split at hk
    · split at hk
      · cases hk; exact absurd rfl hne
      · cases hk
    · exact ⟨k, hk, hne⟩
  refine ⟨fun i L hi => by have := h.dom i L hi; exact ⟨by simpa using this.1, this.2⟩, fun i j L M hi hj hb li lj => h.inj i j L M hi hj hb (hlive i li) (hlive j lj), ?_, h.glob, h.sig, h.frz.to rfl rfl (by simp) fun b hb q2 => ⟨rfl, fun j L hj lj => q2 j L hj (hlive j lj)⟩⟩
  intro i k hi hk
  rw [List.getElem?_set] at hi
  split at hi
  · split at hi
    · cases hi; exact absurd rfl hk
    · cases hi
  · exact h.blk0 i k hi hk
theorem Ext.drop {b : Nat} : Ext g H w g (H.set b .gone) w where
  sub := Sub.refl g
  new := fun i L h h' => by rw [h] at h'; cases h'
  newm := fun i L h h' => by rw [h] at h'; cases h'
  len := by simp
  live := fun j _ ⟨k, hk, hne⟩ => by
    rw [List.getElem?_set] at hk
    split at hk
    · split at hk
      · cases hk; exact absurd rfl hne
      · cases hk
    · exact ⟨k, hk, hne⟩
  size := Nat.le_refl _
  frame := fun _ _ _ => rfl
  os := rfl
  tape := rfl
  output := rfl
theorem newSlice {need sCap size b n : Nat} (g : Inj) (id : Nat) (hge : need ≤ sCap) (hn : n = sCap * size) :
    VRel (upd g id ⟨b, 0, n⟩) (.slice id 0 need need (some size)) (.slice (some ⟨b, 0, none⟩) need sCap) := by
  have := VRel.slice (g := upd g id ⟨b, 0, n⟩) id 0 need need (some size) 0 sCap ⟨b, 0, n⟩ (upd_same _ _ _) (.inl rfl) (by simp) (fun z hz => by cases hz; exact ⟨hge, by simp [hn]⟩)
  simpa using this
theorem appendZ_sound {hp hp' : Hp} (hH : HRel ng g hp.heap w) {ts : Array TypeId} {ty : TypeId} {l : List AVal} {m : Array Value} {r : AVal} (h : appendZ P ts.toList l hp = some (r, hp')) (hl : LRel g l m.toList) :
    ∃ v w' g', (Builtin.append_ ts ty m).run P w = .ok v w' ∧ VRel g' r v ∧ After P g ng hp hp' w w' g' := by
  unfold appendZ at h
  split at h
  · rename_i tt xt b off len cap kn n e1
    obtain ⟨ts⟩ := ts
    obtain ⟨m⟩ := m
    simp at e1
    subst e1
    simp only at hl
    cases hl with
    | cons _ u _ _ hu hl =>
    cases hl with
    | cons _ u2 _ _ hu2 hl =>
    cases hl
    cases hu2
    split at h
    · rename_i e kk ht hx
      split at h
      · rename_i ie z hie hz
        split at h
        · rename_i hc
          obtain ⟨⟨c0, c1⟩, c2, c3, c4, c5, c6, c7⟩ := hc
          split at h
          · rename_i old hold
            cases h
            obtain ⟨i', zv, hi', hzv, hzr⟩ := zeroA_spec hz
            rw [hie] at hi'; cases hi'
            have hzs : zv.cells.size = ie.size := by have := (hzr g).cells.length; simp at this; omega
            have hz1 : ∀ v, v ∈ zv.cells.toList → v.oneCell' = true := allScalar_rel c7 (hzr g).cells
            obtain ⟨ovs, k1, k2, k3, k4, k5⟩ := run_cellsA (P := P) hH hold hu (by simp)
            cases hu with
            | slice _ _ _ _ _ o' cap' L hL q0 q1 q2 =>
            have hcap := q1 rfl
            subst hcap
            have hzc : LRel g (repL (acells z) n.toNat) (Builtin.zeroCells zv.cells n.toNat).toList := repL_rel (hzr g).cells n.toNat (n.toNat * zv.cells.size) (by rw [hzs, c5])
            have hzc1 : ∀ v ∈ (Builtin.zeroCells zv.cells n.toNat).toList, v.oneCell' = true := zeroCells_one hz1
            have hall : LRel g (old ++ repL (acells z) n.toNat) (ovs ++ (Builtin.zeroCells zv.cells n.toNat).toList) := k3.append hzc
            have hall1 : ∀ v ∈ ovs ++ (Builtin.zeroCells zv.cells n.toNat).toList, v.oneCell' = true := by
              intro v hv
              rcases List.mem_append.1 hv with hv | hv
              · exact k4 v hv
              · exact hzc1 v hv
            have halll : (old ++ repL (acells z) n.toNat).length = (len + n.toNat) * ie.size := by rw [List.length_append, k5, repL_length, c5, Nat.add_mul]
            obtain ⟨g1, g2, g3⟩ := grown_rel (hp := hp) hH (e := e) (z := zv) (size := ie.size) (need := len + n.toNat) (sCap := cap') hall hall1 halll hzs hz1 hH rfl
            have hrun := run_append_zeros (P := P) (w := w) tt xt ty e ie zv ht hx hie hzv ⟨L.blk, L.dl + o', none⟩ len cap' n kn ovs (k1 w.drew rfl) c0 c1 c2 c3 (growslice_fits c2 c4) (by omega)
              (Nat.le_trans (Nat.mul_le_mul_right _ (Nat.le_add_left _ _)) (Nat.le_trans c4 (by decide)))
            have e1 : ovs.toArray ++ Builtin.zeroCells zv.cells n.toNat = (ovs ++ (Builtin.zeroCells zv.cells n.toNat).toList).toArray := by simp
            rw [e1] at hrun
            exact ⟨_, _, _, hrun, newSlice g hp.heap.length (grownCap_ge w (len + n.toNat) cap' e) g1, g2, g3⟩
          · cases h
        · cases h
      · cases h
    · cases h
  · cases h
theorem appendTo_sound {hp hp' : Hp} (hH : HRel ng g hp.heap w) {tt xt ty e : TypeId} {dx : TypeDesc} {ie : TypeInfo} {z : AVal} {xl : Nat} {l : List AVal} {s r : AVal} {su xu : Value} {news : List Value}
    (ht : P.underlying tt = some (.slice e)) (hx : P.underlying xt = some dx) (hd : okSrc dx = true) (hi : P.info? e = some ie) (hz : zeroA P e = some z) (hzl : (acells z).length = ie.size) (_hpos : 0 < ie.size) (hsc : allScalar (acells z) = true)
    (hlen : Builtin.lenOf xu = pure xl) (hnew : ∀ w', w'.heap = w.heap → (Builtin.firstCells ie.size xl xu).run P w' = .ok news.toArray w') (hnl : news.length = xl * ie.size) (hnr : LRel g l news) (h1n : ∀ v ∈ news, v.oneCell' = true)
    (hll : l.length = xl * ie.size) (h : appendTo e ie.size ie.bytes xl l s hp = some (r, hp')) (hs : VRel g s su) :
    ∃ v w' g', (Builtin.append_ #[tt, xt] ty #[su, xu]).run P w = .ok v w' ∧ VRel g' r v ∧ After P g ng hp hp' w w' g' := by
  obtain ⟨i', zv, hi', hzv, hzr⟩ := zeroA_spec hz
  rw [hi] at hi'; cases hi'
  have hzs : zv.cells.size = ie.size := by have := (hzr g).cells.length; simp at this; omega
  have hz1 : ∀ v, v ∈ zv.cells.toList → v.oneCell' = true := allScalar_rel hsc (hzr g).cells
  unfold appendTo at h
  split at h
  · cases hs
    split at h
    · rename_i h0
      subst h0
      cases h
      have hn0 : news = [] := List.eq_nil_of_length_eq_zero (by rw [hnl]; simp)
      subst hn0
      refine ⟨.slice none 0 0, w, g, ?_, .nilslice, hH, Ext.refl _ _ _⟩
      have := hnew w rfl
      cases dx <;> first | (simp [okSrc] at hd; done) | simp [Builtin.append_, run_underlying ht, run_underlying hx, run_sizeOf' w hi, hlen, this]
    · rename_i h0
      split at h
      · rename_i hc
        cases h
        have hrun := run_append_grow' (P := P) (w := w) tt xt ty e dx ie zv ht hx hd hi hzv none 0 0 xl xu [] news hlen (hnew w.drew rfl) (by simp [Builtin.firstCells]) (by omega) (by omega)
          (growslice_fits (by omega) (by simpa using hc.2))
        simp only [Nat.zero_add] at hrun
        rw [show (#[] : Array Value) ++ news.toArray = news.toArray by simp] at hrun
        have hg := grown_rel (hp := hp) hH (e := e) (z := zv) (size := ie.size) (need := xl) (sCap := 0) hnr h1n hll hzs hz1 hH rfl
        obtain ⟨g1, g2, g3⟩ := hg
        exact ⟨_, _, _, hrun, newSlice g hp.heap.length (grownCap_ge w xl 0 e) g1, g2, g3⟩
      · cases h
  · rename_i b off len cap ex
    cases hs with
    | slice _ _ _ _ _ o' cap' L hL h0 h1' h2' =>
      split at h
      · rename_i hroom
        have hroom' : len + xl ≤ cap' := by
          cases ex with
          | none => rw [h1' rfl]; exact hroom
          | some zz => have := (h2' zz rfl).1; omega
        have hrun := run_append_room' (P := P) (w := w) tt xt ty e dx ie ht hx hd hi ⟨L.blk, L.dl + o', none⟩ len cap' xl xu news hlen (hnew w rfl) hroom'
        split at h
        · rename_i hx0
          subst hx0
          cases h
          have hn0 : news = [] := List.eq_nil_of_length_eq_zero (by rw [hnl]; simp)
          subst hn0
          exact ⟨_, w, g, by rw [hrun]; simp [storeCells], .slice _ _ _ _ _ _ _ L hL h0 h1' h2', hH, Ext.refl _ _ _⟩
        · rename_i hx0
          split at h
          · rename_i c e' hb
            split at h
            · rename_i hle
              cases h
              obtain ⟨M, hM, C, fr, h1, h2, h3, h4, h5⟩ := hH.blk b _ hb (by simp)
              rw [hL] at hM; cases hM
              have ho : o' = off := by rcases h0 with h0 | h0; exact h0; omega
              subst ho
              obtain ⟨w', j1, j2, j3⟩ := storeCells_ok (P := P) L.blk (L.dl + (o' + len * ie.size)) e' fr news 0 C w h1 h3.1 (by omega) h1n
              have hB := BRel.sets (g := g) (e := e') h2 h3 h4 h5 hnr h1n hle j3
              obtain ⟨r1, r2⟩ := hH.write hb hL j2 hB
              refine ⟨.slice (some ⟨L.blk, L.dl + o', none⟩) (len + xl) cap', w', g, ?_, ?_, r1, r2⟩
              · rw [hrun, addr_add, show L.dl + o' + len * ie.size = L.dl + (o' + len * ie.size) by omega, j1]; rfl
              · exact .slice _ _ _ _ _ _ _ L hL (.inl rfl) h1' h2'
            · cases h
          · cases h
      · rename_i hroom
        split at h
        · rename_i hc
          split at h
          · rename_i old hold
            obtain ⟨ovs, k1, k2, k3, k4, k5⟩ := run_cellsA (P := P) hH hold (.slice b off len cap ex o' cap' L hL h0 h1' h2') (by simp)
            have hall : LRel g (old ++ l) (ovs ++ news) := k3.append hnr
            have hall1 : ∀ v ∈ ovs ++ news, v.oneCell' = true := by
              intro v hv
              rcases List.mem_append.1 hv with hv | hv
              · exact k4 v hv
              · exact h1n v hv
            have halll : (old ++ l).length = (len + xl) * ie.size := by rw [List.length_append, k5, hll, Nat.add_mul]
            have grow : cap' < len + xl → ∀ {H' : List Blk} (hH' : HRel ng g H' w) (hlen' : H'.length = hp.heap.length) (hE : Ext g hp.heap w g H' w) (lg : List Nat),
                ∃ v w' g', (Builtin.append_ #[tt, xt] ty #[.slice (some ⟨L.blk, L.dl + o', none⟩) len cap', xu]).run P w = .ok v w' ∧ VRel g' (.slice hp.heap.length 0 (len + xl) (len + xl) (some ie.size)) v ∧
                  After P g ng hp ⟨H' ++ [.cells (old ++ l) e], lg⟩ w w' g' := by
              intro hgr H' hH' hlen' hE lg
              have hrun := run_append_grow' (P := P) (w := w) tt xt ty e dx ie zv ht hx hd hi hzv (some ⟨L.blk, L.dl + o', none⟩) len cap' xl xu ovs news hlen (hnew w.drew rfl) (k1 w.drew rfl) hgr (by omega)
                (growslice_fits hgr hc.2)
              obtain ⟨g1, g2, g3⟩ := grown_rel (hp := hp) hH (e := e) (z := zv) (size := ie.size) (need := len + xl) (sCap := cap') hall hall1 halll hzs hz1 hH' hlen'
              have e1 : ovs.toArray ++ news.toArray = (ovs ++ news).toArray := by simp
              rw [e1] at hrun
              exact ⟨_, _, _, hrun, newSlice g hp.heap.length (grownCap_ge w (len + xl) cap' e) g1, g2, hE.trans hH g3⟩
            split at h
            · cases h
              exact grow (by have := h1' rfl; omega) hH rfl (Ext.refl _ _ _) _
            · rename_i zz
              split at h
              · rename_i c e' hb
                split at h
                · rename_i hcc
                  obtain ⟨rfl, rfl, hlc⟩ := hcc
                  cases h
                  obtain ⟨hcap, hfit⟩ := h2' _ rfl
                  by_cases hgr : cap' < len + xl
                  · exact grow hgr (HRel.drop hH) (by simp) Ext.drop _
                  · have hroom' : len + xl ≤ cap' := by omega
                    have hrun := run_append_room' (P := P) (w := w) tt xt ty e' dx ie ht hx hd hi ⟨L.blk, L.dl + o', none⟩ len cap' xl xu news hlen (hnew w rfl) hroom'
                    obtain ⟨M, hM, C, fr, h1, h2, h3, h4, h5⟩ := hH.blk b _ hb (by simp)
                    rw [hL] at hM; cases hM
                    have hmul : (len + xl) * ie.size ≤ cap' * ie.size := Nat.mul_le_mul_right _ hroom'
                    rw [Nat.add_mul] at hmul
                    obtain ⟨w', j1, j2, j3⟩ := storeCells_ok (P := P) L.blk (L.dl + (o' + len * ie.size)) e' fr news 0 C w h1 h3.1 (by omega) h1n
                    have hbl : b < hp.heap.length := (List.getElem?_eq_some_iff.1 hb).1
                    have hlb : Live hp.heap b := ⟨_, hb, by simp⟩
                    have hid : g hp.heap.length = none := by
                      cases hg : g hp.heap.length with
                      | none => rfl
                      | some M => have := (hH.dom _ M hg).1; omega
                    let L2 : Loc := ⟨L.blk, L.dl + o', L.n - o'⟩
                    have hsub := upd_sub L2 hid
                    have hon : o' ≤ L.n := by omega
                    have hcr : CRel g (old ++ l) ((news.zipIdx 0).foldl (fun cs (x : Value × Nat) => cs.setIfInBounds (L.dl + (o' + len * ie.size) + x.2) x.1) C) (L.dl + o') := by
                      have hold' : CRel g (old ++ List.replicate l.length AVal.nilptr) C (L.dl + o') ∨ True := .inr trivial
                      clear hold'
                      intro j a hj
                      have hC0 : ∀ (j : Nat) (v : Value), ovs[j]? = some v → C[L.dl + o' + j]? = some v := by
                        intro j v hv
                        have hjl : j < ovs.length := (List.getElem?_eq_some_iff.1 hv).1
                        by_cases hlz : len * ie.size = 0
                        · rw [k2, hlz] at hjl; omega
                        · have := k1 w rfl
                          have hoff : o' = off := by
                            rcases h0 with h0 | h0
                            · exact h0
                            · exfalso; apply hlz; rw [h0.1]; simp
                          subst hoff
                          have hold2 := hold
                          simp only [cellsA] at hold2
                          by_cases hp' : len = 0 ∨ 0 < len ∨ 0 < cap
                          · rw [if_pos hp', if_neg hlz, hb] at hold2
                            simp only at hold2
                            obtain ⟨vs', q1, _, q3, _, q5⟩ := CRel.seg h5 hold2
                            have hq := (run_loadCells_list (P := P) w ⟨L.blk, L.dl + o', none⟩ vs' (fun j v hj => by
                              rw [addr_add, cell_of h1]
                              rw [show L.dl + o' + j = L.dl + (o' + j) by omega]; exact q5 j v hj))
                            rw [q1] at hq
                            simp only [Builtin.firstCells] at this
                            rw [this] at hq
                            injection hq with hq _
                            have hq' : ovs = vs' := by simpa using hq
                            subst hq'
                            rw [show L.dl + o' + j = L.dl + (o' + j) by omega]; exact q5 j v hv
                          · rw [if_neg hp'] at hold2; cases hold2
                      by_cases hjo : j < old.length
                      · rw [List.getElem?_append_left hjo] at hj
                        obtain ⟨v, q1, q2⟩ := k3.get j a hj
                        refine ⟨v, ?_, q2, k4 v (List.mem_of_getElem? q1)⟩
                        rw [foldl_low _ _ _ (by intro x hx; rw [k5] at hjo; omega)]
                        exact hC0 j v q1
                      · rw [List.getElem?_append_right (by omega)] at hj
                        obtain ⟨v, q1, q2⟩ := hnr.get _ a hj
                        refine ⟨v, ?_, q2, h1n v (List.mem_of_getElem? q1)⟩
                        have := foldl_high news 0 (L.dl + (o' + len * ie.size)) C (by omega) (j - old.length) v q1
                        rw [k5] at this hjo
                        rw [show L.dl + (o' + len * ie.size) + 0 + (j - len * ie.size) = L.dl + o' + j by omega] at this
                        exact this
                    have hother : ∀ k, k ≠ L.blk → w'.heap[k]? = w.heap[k]? := j2.other
                    have hH2 := HRel.drop (b := b) hH
                    refine ⟨.slice (some ⟨L.blk, L.dl + o', none⟩) (len + xl) cap', w', upd g hp.heap.length L2, ?_, ?_, ?_, ?_⟩
                    · rw [hrun, addr_add, show L.dl + o' + len * ie.size = L.dl + (o' + len * ie.size) by omega, j1]; rfl
                    · have := VRel.slice (g := upd g hp.heap.length L2) hp.heap.length 0 (len + xl) (len + xl) (some ie.size) 0 cap' L2 (upd_same _ _ _) (.inl rfl) (by simp)
                        (fun zz hz => by cases hz; exact ⟨hroom', by simp only [L2]; omega⟩)
                      simpa [L2] using this
                    · have hlive : ∀ j, j ≠ hp.heap.length → Live (hp.heap.set b .gone ++ [.cells (old ++ l) e']) j → Live (hp.heap.set b .gone) j := by
                        intro j hj ⟨k, hk, hne⟩
                        rcases Nat.lt_or_ge j (hp.heap.set b .gone).length with h9 | h9
                        · rw [List.getElem?_append_left h9] at hk; exact ⟨k, hk, hne⟩
                        · rw [List.getElem?_append_right h9] at hk
                          have h8 := (List.getElem?_eq_some_iff.1 hk).1
                          simp at h8 h9
                          omega
                      have hlive2 : ∀ j, Live (hp.heap.set b .gone) j → Live hp.heap j ∧ j ≠ b := fun j h => live_drop h
                      constructor
                      · intro i M hM
                        by_cases hii : i = hp.heap.length
                        · subst hii; rw [upd_same] at hM; cases hM
                          exact ⟨by simp, by rw [j2.size]; exact (hH.dom b L hL).2⟩
                        · rw [upd_other g _ hii] at hM
                          have := hH.dom i M hM
                          exact ⟨by simp; omega, by rw [j2.size]; exact this.2⟩
                      · intro i j M N hi' hj' hbk li lj
                        by_cases hii : i = hp.heap.length
                        · by_cases hjj : j = hp.heap.length
                          · rw [hii, hjj]
                          · subst hii
                            rw [upd_same] at hi'; cases hi'
                            rw [upd_other g _ hjj] at hj'
                            obtain ⟨q1, q2⟩ := hlive2 j (hlive j hjj lj)
                            exact absurd (hH.inj j b N L hj' hL hbk.symm q1 hlb) q2
                        · by_cases hjj : j = hp.heap.length
                          · subst hjj
                            rw [upd_same] at hj'; cases hj'
                            rw [upd_other g _ hii] at hi'
                            obtain ⟨q1, q2⟩ := hlive2 i (hlive i hii li)
                            exact absurd (hH.inj i b M L hi' hL hbk q1 hlb) q2
                          · rw [upd_other g _ hii] at hi'
                            rw [upd_other g _ hjj] at hj'
                            exact hH.inj i j M N hi' hj' hbk (hlive2 i (hlive i hii li)).1 (hlive2 j (hlive j hjj lj)).1
                      · intro i k hik hk
                        by_cases hii : i = hp.heap.length
                        · subst hii
                          have hgl : (hp.heap.set b .gone).length = hp.heap.length := by simp
                          rw [← hgl] at hik
                          simp only [List.getElem?_concat_length, Option.some.injEq] at hik
                          subst hik
                          refine .inr ⟨L2, upd_same _ _ _, _, fr, j3, by rw [foldl_size]; simp only [L2]; omega, ⟨by rw [foldl_size]; exact h3.not, by rw [foldl_size]; exact h3.eq, foldl_one news 0 _ C h1n h3.one⟩, by rw [halll, Nat.add_mul]; simp only [L2]; omega, ?_⟩
                          intro j a hj
                          obtain ⟨v, q1, q2, q3⟩ := hcr j a hj
                          exact ⟨v, q1, q2.mono hsub, q3⟩
                        · have hlv := hlive i hii ⟨k, hik, hk⟩
                          have hil : i < (hp.heap.set b .gone).length := by obtain ⟨k', hk', _⟩ := hlv; exact (List.getElem?_eq_some_iff.1 hk').1
                          rw [List.getElem?_append_left hil] at hik
                          rcases hH2.blk0 i k hik hk with hz | ⟨M, hM, hB⟩
                          · exact .inl (hz.mono rfl)
                          refine .inr ⟨M, by rw [upd_other g _ hii]; exact hM, (hB.of_same (hother _ ?_)).mono hsub⟩
                          intro he
                          obtain ⟨q1, q2⟩ := hlive2 i hlv
                          exact q2 (hH.inj i b M L hM hL he q1 hlb)
                      · intro i hi'
                        obtain ⟨M, hM, q1, q2⟩ := hH.glob i hi'
                        exact ⟨M, hsub _ _ hM, q1, q2⟩
                      · exact hH.sig
                      · refine hH.frz.to rfl rfl (by simp) fun b' hb' q2 => ⟨hother _ fun he => q2 b L hL hlb he.symm, fun j M hj lj he => ?_⟩
                        by_cases hjj : j = hp.heap.length
                        · subst hjj
                          rw [upd_same] at hj; cases hj
                          exact q2 b L hL hlb he
                        · rw [upd_other g _ hjj] at hj
                          exact q2 j M hj (hlive2 j (hlive j hjj lj)).1 he
                    · constructor
                      · exact hsub
                      · intro i M hi' hn
                        by_cases hii : i = hp.heap.length
                        · subst hii; rw [upd_same] at hi'; cases hi'
                          exact ⟨Nat.le_refl _, .inr ⟨b, L, hL, rfl, hlb⟩⟩
                        · rw [upd_other g _ hii, hn] at hi'; cases hi'
                      · intro i X hi' hn; rw [show (upd g _ _).mp = g.mp from rfl, hn] at hi'; cases hi'
                      · simp
                      · intro i hi' ⟨k, hk, hne⟩
                        rw [List.getElem?_append_left (by simpa using hi')] at hk
                        exact (live_drop ⟨k, hk, hne⟩).1
                      · rw [j2.size]; exact Nat.le_refl _
                      · intro k hk hno; exact hother k fun he => hno b L hL hlb he.symm
                      · exact j2.os
                      · exact j2.tape
                      · exact j2.output
                · cases h
              · cases h
          · cases h
        · cases h
  · cases h
end
end Go.Ev
namespace Go.Ev
set_option linter.unusedVariables false
set_option linter.unusedSimpArgs false
theorem cellD_append : ∀ (cl : List (Option IntKind)) (j : Nat) (A B : List UInt8), rsz cl ≤ A.length → cellD cl j (A ++ B) = cellD cl j A
  | [], j, A, B, h => rfl
  | c :: cl, 0, A, B, h => by
    simp only [rsz] at h
    simp only [cellD]
    rw [List.take_append_of_le_length (by omega)]
  | c :: cl, j + 1, A, B, h => by
    simp only [rsz] at h
    simp only [cellD]
    rw [List.drop_append_of_le_length (by omega)]
    exact cellD_append cl j _ B (by simp; omega)
theorem rowAtD_append {cl : List (Option IntKind)} {S T : ByteArray} {N : Nat} (h : S.data.toList.length = N * rsz cl) (m j : Nat) :
    rowAtD cl (S ++ T) m j = if m < N then rowAtD cl S m j else rowAtD cl T (m - N) j := by
  have e : (S ++ T).data.toList = S.data.toList ++ T.data.toList := by simp [ByteArray.data_append]
  unfold rowAtD
  rw [e]
  split
  · rename_i hm
    have h1 : (m + 1) * rsz cl ≤ N * rsz cl := Nat.mul_le_mul_right _ hm
    rw [Nat.add_mul, Nat.one_mul] at h1
    rw [List.drop_append_of_le_length (by omega)]
    exact cellD_append cl j _ _ (by rw [List.length_drop]; omega)
  · rename_i hm
    have h1 : N * rsz cl ≤ m * rsz cl := Nat.mul_le_mul_right _ (by omega)
    rw [List.drop_append, List.drop_eq_nil_of_le (by omega), List.nil_append, h, ← Nat.sub_mul]
structure RowsV (g : Inj) (cl : List (Option IntKind)) (S : ByteArray) (N : Nat) (vs : List Value) : Prop where
  size : S.data.toList.length = N * rsz cl
  len : vs.length = N * cl.length
  cell : ∀ m j, m < N → j < cl.length → ∃ v, vs[m * cl.length + j]? = some v ∧ VRel g (rowAtD cl S m j) v ∧ v.oneCell' = true
theorem RowsV.nil {g : Inj} {cl : List (Option IntKind)} : RowsV g cl .empty 0 [] := ⟨by simp, by simp, fun m j h => by omega⟩
theorem RowsV.mono {g g' : Inj} {cl : List (Option IntKind)} {S : ByteArray} {N : Nat} {vs : List Value} (hs : Sub g g') (h : RowsV g cl S N vs) : RowsV g' cl S N vs :=
  ⟨h.size, h.len, fun m j hm hj => let ⟨v, a, b, c⟩ := h.cell m j hm hj; ⟨v, a, b.mono hs, c⟩⟩
theorem RowsV.append {g : Inj} {cl : List (Option IntKind)} {S T : ByteArray} {N K : Nat} {vs us : List Value} (h : RowsV g cl S N vs) (h' : RowsV g cl T K us) : RowsV g cl (S ++ T) (N + K) (vs ++ us) := by
  refine ⟨?_, by rw [List.length_append, h.len, h'.len, Nat.add_mul], fun m j hm hj => ?_⟩
  · have e : (S ++ T).data.toList = S.data.toList ++ T.data.toList := by simp [ByteArray.data_append]
    rw [e, List.length_append, h.size, h'.size, Nat.add_mul]
  · rw [rowAtD_append h.size]
    by_cases hlt : m < N
    · rw [if_pos hlt]
      obtain ⟨v, a, b, c⟩ := h.cell m j hlt hj
      refine ⟨v, ?_, b, c⟩
      have := (List.getElem?_eq_some_iff.1 a).1
      rw [List.getElem?_append_left this]; exact a
    · rw [if_neg hlt]
      obtain ⟨v, a, b, c⟩ := h'.cell (m - N) j (by omega) hj
      refine ⟨v, ?_, b, c⟩
      have h1 : N * cl.length ≤ m * cl.length := Nat.mul_le_mul_right _ (by omega)
      rw [List.getElem?_append_right (by rw [h.len]; omega), h.len]
      rw [show m * cl.length + j - N * cl.length = (m - N) * cl.length + j by rw [Nat.sub_mul]; omega]
      exact a
theorem RowsV.one {g : Inj} {cl : List (Option IntKind)} {S : ByteArray} {N : Nat} {vs : List Value} (h : RowsV g cl S N vs) : ∀ v ∈ vs, v.oneCell' = true := by
  intro v hv
  obtain ⟨i, hi⟩ := List.mem_iff_getElem?.1 hv
  have hlt := (List.getElem?_eq_some_iff.1 hi).1
  rw [h.len] at hlt
  have hz : 0 < cl.length := by
    rcases Nat.eq_zero_or_pos cl.length with h0 | h0
    · rw [h0] at hlt; omega
    · exact h0
  obtain ⟨u, a, _, c⟩ := h.cell (i / cl.length) (i % cl.length) (Nat.div_lt_of_lt_mul (by rw [Nat.mul_comm]; exact hlt)) (Nat.mod_lt _ hz)
  rw [show i / cl.length * cl.length + i % cl.length = i by rw [Nat.mul_comm]; exact Nat.div_add_mod i cl.length, hi] at a
  cases a; exact c
section
variable {P : Program} {g : Inj} {ng : Cx} {t : Tm} {ρ : Operand → Value} {H : List Blk} {w w' : World}
theorem fresh_id (hH : HRel ng g H w) : g H.length = none := by
  cases hg : g H.length with
  | none => rfl
  | some M => have := (hH.dom _ M hg).1; omega
theorem HRel.retip (hH : HRel ng g H w) {b : Nat} {L L2 : Loc} {k' : Blk} (hlb : Live H b) (hL : g b = some L) (hblk : L2.blk = L.blk) (hw : Wr L.blk w w') (hB : BRel (upd g H.length L2) w' k' L2) :
    HRel ng (upd g H.length L2) (H.set b .gone ++ [k']) w' ∧ Ext g H w (upd g H.length L2) (H.set b .gone ++ [k']) w' := by
  have hid := fresh_id hH
  have hsub := upd_sub L2 hid
  have hbl : b < H.length := (hH.dom b L hL).1
  have hother : ∀ k, k ≠ L.blk → w'.heap[k]? = w.heap[k]? := hw.other
  have hH2 := HRel.drop (b := b) hH
  have hlive : ∀ j, j ≠ H.length → Live (H.set b .gone ++ [k']) j → Live (H.set b .gone) j := by
    intro j hj ⟨k, hk, hne⟩
    rcases Nat.lt_or_ge j (H.set b .gone).length with h9 | h9
    · rw [List.getElem?_append_left h9] at hk; exact ⟨k, hk, hne⟩
    · rw [List.getElem?_append_right h9] at hk
      have h8 := (List.getElem?_eq_some_iff.1 hk).1
      simp at h8 h9
      omega
  have hlive2 : ∀ j, Live (H.set b .gone) j → Live H j ∧ j ≠ b := fun j h => live_drop h
  constructor
  · constructor
    · intro i M hM
      by_cases hii : i = H.length
      · subst hii; rw [upd_same] at hM; cases hM
        exact ⟨by simp, by rw [hw.size, hblk]; exact (hH.dom b L hL).2⟩
      · rw [upd_other g _ hii] at hM
        have := hH.dom i M hM
        exact ⟨by simp; omega, by rw [hw.size]; exact this.2⟩
    · intro i j M N hi' hj' hbk li lj
      by_cases hii : i = H.length
      · by_cases hjj : j = H.length
        · rw [hii, hjj]
        · subst hii
          rw [upd_same] at hi'; cases hi'
          rw [upd_other g _ hjj] at hj'
          obtain ⟨q1, q2⟩ := hlive2 j (hlive j hjj lj)
          exact absurd (hH.inj j b N L hj' hL (by rw [← hbk, hblk]) q1 hlb) q2
      · by_cases hjj : j = H.length
        · subst hjj
          rw [upd_same] at hj'; cases hj'
          rw [upd_other g _ hii] at hi'
          obtain ⟨q1, q2⟩ := hlive2 i (hlive i hii li)
          exact absurd (hH.inj i b M L hi' hL (by rw [hbk, hblk]) q1 hlb) q2
        · rw [upd_other g _ hii] at hi'
          rw [upd_other g _ hjj] at hj'
          exact hH.inj i j M N hi' hj' hbk (hlive2 i (hlive i hii li)).1 (hlive2 j (hlive j hjj lj)).1
    · intro i k hik hk
      by_cases hii : i = H.length
      · subst hii
        have hgl : (H.set b .gone).length = H.length := by simp
        rw [← hgl] at hik
        simp only [List.getElem?_concat_length, Option.some.injEq] at hik
        subst hik
        exact .inr ⟨L2, upd_same _ _ _, hB⟩
      · have hlv := hlive i hii ⟨k, hik, hk⟩
        have hil : i < (H.set b .gone).length := by obtain ⟨k', hk', _⟩ := hlv; exact (List.getElem?_eq_some_iff.1 hk').1
        rw [List.getElem?_append_left hil] at hik
        rcases hH2.blk0 i k hik hk with hz | ⟨M, hM, hB⟩
        · exact .inl (hz.mono rfl)
        refine .inr ⟨M, by rw [upd_other g _ hii]; exact hM, (hB.of_same (hother _ ?_)).mono hsub⟩
        intro he
        obtain ⟨q1, q2⟩ := hlive2 i hlv
        exact q2 (hH.inj i b M L hM hL he q1 hlb)
    · intro i hi'
      obtain ⟨M, hM, q1, q2⟩ := hH.glob i hi'
      exact ⟨M, hsub _ _ hM, q1, q2⟩
    · exact hH.sig
    · refine hH.frz.to rfl rfl (by simp) fun b' hb' q2 => ⟨hother _ fun he => q2 b L hL hlb he.symm, fun j M hj lj he => ?_⟩
      by_cases hjj : j = H.length
      · subst hjj
        rw [upd_same] at hj; cases hj
        exact q2 b L hL hlb (by rw [← he, hblk])
      · rw [upd_other g _ hjj] at hj
        exact q2 j M hj (hlive2 j (hlive j hjj lj)).1 he
  · constructor
    · exact hsub
    · intro i M hi' hn
      by_cases hii : i = H.length
      · subst hii; rw [upd_same] at hi'; cases hi'
        exact ⟨Nat.le_refl _, .inr ⟨b, L, hL, hblk.symm, hlb⟩⟩
      · rw [upd_other g _ hii, hn] at hi'; cases hi'
    · intro i X hi' hn; rw [show (upd g _ _).mp = g.mp from rfl, hn] at hi'; cases hi'
    · simp
    · intro i hi' ⟨k, hk, hne⟩
      rw [List.getElem?_append_left (by simpa using hi')] at hk
      exact (live_drop ⟨k, hk, hne⟩).1
    · rw [hw.size]; exact Nat.le_refl _
    · intro k hk hno; exact hother k fun he => hno b L hL hlb he.symm
    · exact hw.os
    · exact hw.tape
    · exact hw.output
theorem HRel.newLst {H' : List Blk} (hH : HRel ng g H w) (hH' : HRel ng g H' w) (hlen : H'.length = H.length) {c n : AVal} {cl : List (Option IntKind)} {e : TypeId} {C : Array Value} {S : ByteArray} {N : Nat} {vs : List Value} (hc : den g.sig c = .str S) (hn : den g.sig n = .int .i64 (N : Int))
    (hr : RowsV g cl S N vs) (hC : ∀ (i : Nat) (v : Value), vs[i]? = some v → C[i]? = some v) (h1 : ∀ v, v ∈ C.toList → v.oneCell' = true) :
    HRel ng (upd g H.length ⟨w.heap.size, 0, C.size⟩) (H' ++ [.lst c n cl e]) (w.drew.alloc (.cells C e)) ∧
    Ext g H' w (upd g H.length ⟨w.heap.size, 0, C.size⟩) (H' ++ [.lst c n cl e]) (w.drew.alloc (.cells C e)) := by
  have hid := fresh_id hH
  have hng : ng.n ≤ H.length := by
    rcases Nat.lt_or_ge H.length ng.n with h9 | h9
    · obtain ⟨L, hL, _⟩ := hH.glob _ h9
      rw [hid] at hL; cases hL
    · exact h9
  have := HRel.allocK hH' (w0 := w.drew) (H' := H' ++ [.lst c n cl e]) hid hng (k := .lst c n cl e) (O := .cells C e (0, 0)) (n := C.size) rfl rfl rfl rfl (by rw [← hlen]; simp) (by
      intro j hj
      rw [← hlen] at hj
      rcases Nat.lt_or_ge j H'.length with h9 | h9
      · rw [List.getElem?_append_left h9]
      · rw [List.getElem?_append_right h9, List.getElem?_eq_none h9]
        have : j - H'.length ≠ 0 := by omega
        simp [this]) (by simp) (.inl (by omega)) (fun hnew => ?_)
  · exact ⟨this.1, this.2 (by omega)⟩
  · refine ⟨S, N, C, (0, 0), hc, hn, hr.size, hnew, by simp, FrOk.zero h1, ?_, fun m j hm hj => ?_⟩
    · show N * cl.length ≤ C.size
      rcases Nat.eq_zero_or_pos vs.length with h0 | h0
      · rw [← hr.len, h0]; exact Nat.zero_le _
      · have hlast : vs[vs.length - 1]? = some vs[vs.length - 1] := by simp
        have := (Array.getElem?_eq_some_iff.1 (hC _ _ hlast)).1
        rw [← hr.len]; omega
    · obtain ⟨v, a, b, c⟩ := hr.cell m j hm hj
      refine ⟨v, ?_, b.mono (upd_sub _ hid), c⟩
      rw [show (0 : Nat) + m * cl.length + j = m * cl.length + j by omega]
      exact hC _ _ a
end
end Go.Ev
namespace Go.Ev
set_option linter.unusedVariables false
set_option linter.unusedSimpArgs false
def lstOf (e : Nat) : List (Nat × List (Option IntKind)) → Option (List (Option IntKind))
  | [] => none
  | p :: l => match Nat.beq p.1 e with
    | true => some p.2
    | false => lstOf e l
def okC (ng : Cx) (c : Option IntKind) (a : AVal) : Bool :=
  match c with
  | some k => match a with
    | .int k' n => decide (k = k') && (k.wrap n == n)
    | .symi k' i => decide (k = k') && (match ng.kd i with
      | some k'' => decide (k = k'')
      | none => false)
    | _ => false
  | none => match a with
    | .bool _ => true
    | .symb _ => true
    | _ => false
def okCs (ng : Cx) : List (Option IntKind) → List AVal → Bool
  | [], [] => true
  | c :: cl, a :: l => okC ng c a && okCs ng cl l
  | _, _ => false
def repC (cl : List (Option IntKind)) : Nat → List (Option IntKind)
  | 0 => []
  | n + 1 => cl ++ repC cl n
def isByteC (cl : List (Option IntKind)) : Bool :=
  match cl with
  | [some .u8] => true
  | _ => false
def srcL (ng : Cx) (cl : List (Option IntKind)) (x : AVal) (H : List Blk) : Option (AVal × AVal) :=
  match x with
  | .nilslice => some (.str .empty, .int .i64 0)
  | .lsl b z _ off n => match isZ n with
    | true => some (.str .empty, .int .i64 0)
    | false => match H[b]? with
      | some (.lst s nb cl' _) => match decide (cl' = cl) && (Nat.beq z cl.length && (isZ off && sameNum n nb)) with
        | true => some (s, n)
        | false => none
      | _ => none
  | .slice b off len cap ex => match cellsA cl.length len (.slice b off len cap ex) H with
    | some l => match okCs ng (repC cl len) l with
      | true => match symS ng (.sop (.row (repC cl len)) l) with
        | some s => some (s, .int .i64 len)
        | none => none
      | false => none
    | none => none
  | .str s => match isByteC cl with
    | true => some (.str s, .int .i64 s.size)
    | false => none
  | .syms i => match isByteC cl with
    | true => match lenS ng i with
      | some n => some (.syms i, factV ng n)
      | none => none
    | false => none
  | _ => none
def emptyS : AVal → Bool
  | .str s => Nat.beq s.size 0
  | _ => false
def catL (ng : Cx) (a b : AVal) : Option AVal :=
  match emptyS a with
  | true => some b
  | false => match emptyS b with
    | true => some a
    | false => symS ng (.sop .cat [a, b])
def addL (ng : Cx) (K : Nat) (a b : AVal) : Option AVal :=
  match (match isZ a with
    | true => some b
    | false => match isZ b with
      | true => some a
      | false => match litI64 a, litI64 b with
        | some x, some y => some (.int .i64 (x + y))
        | _, _ => match kdI ng a && (kdI ng b || leqT ng b (.int .i64 9223372036854775807)) with
          | true => symS ng (.bin .add a b)
          | false => none) with
  | some r => match leqT ng (.int .i64 0) r && leqT ng r (.int .i64 K) with
    | true => some r
    | false => none
  | none => none
def dstL (ng : Cx) (cl : List (Option IntKind)) (e : TypeId) (s : AVal) (H : List Blk) : Option (AVal × AVal × Option Nat) :=
  match s with
  | .nilslice => some (.str .empty, .int .i64 0, none)
  | .crow i => match ng.rstr i, ng.rlen i with
    | some (c, cl'), some n => match decide (cl' = cl) with
      | true => some (c, factV ng n, none)
      | false => none
    | _, _ => none
  | .lsl b z ap off n => match isZ n with
    | true => match ap with
      | true => some (.str .empty, .int .i64 0, none)
      | false => none
    | false => match H[b]? with
      | some (.lst c nb cl' e') => match ap && (decide (cl' = cl) && (Nat.beq e' e && (Nat.beq z cl.length && (isZ off && sameNum n nb)))) with
        | true => some (c, n, some b)
        | false => none
      | _ => none
  | .slice _ _ len cap ex => match ex with
    | none => match Nat.beq len 0 && Nat.beq cap 0 with
      | true => some (.str .empty, .int .i64 0, none)
      | false => none
    | some _ => none
  | _ => none
def goneO (H : List Blk) : Option Nat → List Blk
  | some b => H.set b .gone
  | none => H
def logO (l : List Nat) : Option Nat → List Nat
  | some b => b :: l
  | none => l
def posI : AVal → Bool
  | .int .i64 n => decide (0 < n)
  | _ => false
def isCrow : AVal → Bool
  | .crow _ => true
  | _ => false
def appendL (P : Program) (ng : Cx) (ts : List TypeId) (args : List AVal) (hp : Hp) : Option (AVal × Hp) :=
  match ts, args with
  | [t, xt], [s, x] => match P.underlying t, P.underlying xt with
    | some (.slice e), some dx => match P.info? e, zeroA P e, lstOf e ng.lsts with
      | some ie, some z, some cl =>
        if okSrc dx = true ∧ (acells z).length = ie.size ∧ 0 < ie.size ∧ allScalar (acells z) = true ∧ cl.length = ie.size ∧ 0 < ie.bytes then
          match dstL ng cl e s hp.heap, srcL ng cl x hp.heap with
          | some (dc, dn, old), some (sc, sn) => match catL ng dc sc, (match !(isCrow s) || posI sn with
            | true => addL ng (140737488355328 / ie.bytes) dn sn
            | false => none) with
            | some c, some n => some (.lsl hp.heap.length ie.size true (.int .i64 0) n, ⟨goneO hp.heap old ++ [.lst c n cl e], logO hp.log old⟩)
            | _, _ => none
          | _, _ => none
        else none
      | _, _, _ => none
    | _, _ => none
  | _, _ => none
theorem beB_len : ∀ (m n : Nat), (beB m n).length = m
  | 0, n => rfl
  | m + 1, n => by simp [beB, beB_len m]
theorem deB_snoc (l : List UInt8) (b : UInt8) : deB (l ++ [b]) = deB l * 256 + b.toNat := by simp [deB]
theorem deB_beB : ∀ (m n : Nat), n < 256 ^ m → deB (beB m n) = n
  | 0, n, h => by
    simp at h; subst h; rfl
  | m + 1, n, h => by
    rw [beB, deB_snoc, deB_beB m (n / 256) (by
      rw [Nat.pow_succ] at h
      exact Nat.div_lt_of_lt_mul (by rw [Nat.mul_comm]; exact h))]
    simp
    omega
theorem wrap_csz (k : IntKind) (n : Int) : k.wrap (n % (2 ^ (8 * csz (some k)) : Nat)) = k.wrap n := by
  cases k <;> simp [IntKind.wrap, IntKind.bits, IntKind.signed, csz] <;> (try omega) <;> (split <;> split <;> omega)
theorem encK_len {ng : Cx} {σ : Sig} {c : Option IntKind} {a : AVal} (h : okC ng c a = true) : (encK c (den σ a)).length = csz c := by
  unfold okC at h
  split at h
  · split at h
    · simp [den, encK, beB_len]
    · simp [den, encK, beB_len]
    · cases h
  · split at h
    · rfl
    · rfl
    · cases h
theorem okC_spec {ng : Cx} {σ : Sig} (hg : ng.Good σ) {c : Option IntKind} {a : AVal} (h : okC ng c a = true) : (∃ k n, c = some k ∧ den σ a = .int k n ∧ k.wrap n = n) ∨ (c = none ∧ ∃ b, den σ a = .bool b) := by
  unfold okC at h
  split at h
  · rename_i k
    split at h
    · simp only [Bool.and_eq_true, decide_eq_true_eq, beq_iff_eq] at h
      obtain ⟨rfl, h⟩ := h
      exact .inl ⟨_, _, rfl, rfl, h⟩
    · rename_i k' i
      simp only [Bool.and_eq_true, decide_eq_true_eq] at h
      obtain ⟨rfl, h⟩ := h
      split at h
      · rename_i k'' hk
        simp only [decide_eq_true_eq] at h
        subst h
        exact .inl ⟨_, _, rfl, rfl, hg.kd i _ hk⟩
      · cases h
    · cases h
  · split at h
    · exact .inr ⟨rfl, _, rfl⟩
    · exact .inr ⟨rfl, _, rfl⟩
    · cases h
theorem decK_encK {ng : Cx} {σ : Sig} (hg : ng.Good σ) {c : Option IntKind} {a : AVal} (h : okC ng c a = true) : decK c (encK c (den σ a)) = den σ a := by
  rcases okC_spec hg h with ⟨k, n, rfl, hd, hw⟩ | ⟨rfl, b, hd⟩
  · rw [hd]
    simp only [encK, decK]
    congr 1
    have h0 : (0 : Int) ≤ n % (2 ^ (8 * csz (some k)) : Nat) := Int.emod_nonneg _ (by have := Nat.two_pow_pos (8 * csz (some k)); omega)
    have h1 : n % (2 ^ (8 * csz (some k)) : Nat) < (2 ^ (8 * csz (some k)) : Nat) := Int.emod_lt_of_pos _ (by have := Nat.two_pow_pos (8 * csz (some k)); omega)
    rw [deB_beB _ _ (by
      have h2 : (256 : Nat) ^ csz (some k) = 2 ^ (8 * csz (some k)) := by rw [Nat.pow_mul]
      rw [h2]; omega)]
    rw [Int.toNat_of_nonneg h0, wrap_csz, hw]
  · rw [hd]
    cases b <;> rfl
theorem rowB_len {ng : Cx} {σ : Sig} : ∀ {cl : List (Option IntKind)} {l : List AVal}, okCs ng cl l = true → (rowB cl (l.map (den σ))).length = rsz cl
  | [], [], _ => rfl
  | [], _ :: _, h => by simp [okCs] at h
  | _ :: _, [], h => by simp [okCs] at h
  | c :: cl, a :: l, h => by
    simp only [okCs, Bool.and_eq_true] at h
    simp only [List.map_cons, rowB, List.length_append, rsz]
    rw [encK_len h.1, rowB_len h.2]
theorem cellD_rowB {ng : Cx} {σ : Sig} (hg : ng.Good σ) : ∀ {cl : List (Option IntKind)} {l : List AVal} (B : List UInt8), okCs ng cl l = true → ∀ (j : Nat) (a : AVal), l[j]? = some a → cellD cl j (rowB cl (l.map (den σ)) ++ B) = den σ a
  | [], [], _, _, j, a, h => by simp at h
  | [], _ :: _, _, h, _, _, _ => by simp [okCs] at h
  | _ :: _, [], _, h, _, _, _ => by simp [okCs] at h
  | c :: cl, b :: l, B, h, j, a, hj => by
    simp only [okCs, Bool.and_eq_true] at h
    have hlen := encK_len (σ := σ) h.1
    simp only [List.map_cons, rowB, List.append_assoc]
    cases j with
    | zero =>
      simp at hj; subst hj
      simp only [cellD]
      rw [← hlen, List.take_left]
      exact decK_encK hg h.1
    | succ j =>
      simp only [cellD]
      rw [← hlen, List.drop_left]
      exact cellD_rowB hg B h.2 j a (by simpa using hj)
theorem okCs_len {ng : Cx} : ∀ {cl : List (Option IntKind)} {l : List AVal}, okCs ng cl l = true → cl.length = l.length
  | [], [], _ => rfl
  | [], _ :: _, h => by simp [okCs] at h
  | _ :: _, [], h => by simp [okCs] at h
  | c :: cl, a :: l, h => by
    simp only [okCs, Bool.and_eq_true] at h
    simp [okCs_len h.2]
theorem okCs_split {ng : Cx} : ∀ {cl cl' : List (Option IntKind)} {l : List AVal}, okCs ng (cl ++ cl') l = true → okCs ng cl (l.take cl.length) = true ∧ okCs ng cl' (l.drop cl.length) = true
  | [], cl', l, h => by simpa [okCs] using h
  | c :: cl, cl', [], h => by simp [okCs] at h
  | c :: cl, cl', a :: l, h => by
    simp only [List.cons_append, okCs, Bool.and_eq_true] at h
    obtain ⟨h1, h2⟩ := okCs_split h.2
    simp only [List.length_cons, List.take_succ_cons, List.drop_succ_cons, okCs, Bool.and_eq_true]
    exact ⟨⟨h.1, h1⟩, h2⟩
theorem rowB_append {ng : Cx} {σ : Sig} : ∀ {cl cl' : List (Option IntKind)} {l m : List AVal}, okCs ng cl l = true → rowB (cl ++ cl') ((l ++ m).map (den σ)) = rowB cl (l.map (den σ)) ++ rowB cl' (m.map (den σ))
  | [], cl', [], m, _ => by simp [rowB]
  | [], _, _ :: _, _, h => by simp [okCs] at h
  | _ :: _, _, [], _, h => by simp [okCs] at h
  | c :: cl, cl', a :: l, m, h => by
    simp only [okCs, Bool.and_eq_true] at h
    simp only [List.cons_append, List.map_cons, rowB, List.append_assoc]
    rw [rowB_append h.2]
theorem rows_of_cells {ng : Cx} {g : Inj} (hg : ng.Good g.sig) {cl : List (Option IntKind)} : ∀ {n : Nat} {l : List AVal} {vs : List Value}, okCs ng (repC cl n) l = true → LRel g l vs → (∀ v ∈ vs, v.oneCell' = true) → RowsV g cl ⟨(rowB (repC cl n) (l.map (den g.sig))).toArray⟩ n vs
  | 0, l, vs, h, hr, h1 => by
    have hl := okCs_len h
    have hv := hr.length
    simp only [repC, List.length_nil] at hl
    have hl0 : l = [] := List.eq_nil_of_length_eq_zero hl.symm
    subst hl0
    have hv0 : vs = [] := List.eq_nil_of_length_eq_zero (by simpa using hv.symm)
    subst hv0
    exact ⟨by simp [repC, rowB], by simp, fun m j hm => by omega⟩
  | n + 1, l, vs, h, hr, h1 => by
    have hl := okCs_len h
    have hv := hr.length
    simp only [repC] at h hl
    obtain ⟨k1, k2⟩ := okCs_split h
    have hll : l.take cl.length ++ l.drop cl.length = l := List.take_append_drop _ _
    have e : rowB (repC cl (n + 1)) (l.map (den g.sig)) = rowB cl ((l.take cl.length).map (den g.sig)) ++ rowB (repC cl n) ((l.drop cl.length).map (den g.sig)) := by
      rw [← rowB_append k1, hll]; rfl
    have hA : RowsV g cl ⟨(rowB cl ((l.take cl.length).map (den g.sig))).toArray⟩ 1 (vs.take cl.length) := by
      have hlen1 := okCs_len k1
      refine ⟨by show (rowB cl ((l.take cl.length).map (den g.sig))).length = _; rw [rowB_len k1, Nat.one_mul], by rw [List.length_take]; simp at hl; omega, fun m j hm hj => ?_⟩
      have hm0 : m = 0 := by omega
      subst hm0
      have hjl : j < l.length := by simp at hl; omega
      obtain ⟨v, v1, v2⟩ := hr.get j _ (List.getElem?_eq_getElem hjl)
      refine ⟨v, by rw [Nat.zero_mul, Nat.zero_add, List.getElem?_take, if_pos hj]; exact v1, ?_, h1 v (List.mem_of_getElem? v1)⟩
      have hc := cellD_rowB hg [] k1 j l[j] (by rw [List.getElem?_take, if_pos hj]; exact List.getElem?_eq_getElem hjl)
      rw [List.append_nil] at hc
      simp only [rowAtD, Nat.zero_mul, List.drop_zero]
      rw [hc]
      exact den_rel.2 v2
    have hB := rows_of_cells hg (n := n) (l := l.drop cl.length) (vs := vs.drop cl.length) k2 (hr.drop _) (fun v hv => h1 v (List.mem_of_mem_drop hv))
    have := hA.append hB
    rw [List.take_append_drop, Nat.add_comm] at this
    have e2 : (⟨(rowB (repC cl (n + 1)) (l.map (den g.sig))).toArray⟩ : ByteArray) = ⟨(rowB cl ((l.take cl.length).map (den g.sig))).toArray⟩ ++ ⟨(rowB (repC cl n) ((l.drop cl.length).map (den g.sig))).toArray⟩ := by
      rw [e]
      apply ByteArray.ext
      simp [ByteArray.data_append]
    rw [e2]; exact this
theorem rows_of_bytes {g : Inj} (s : ByteArray) : RowsV g [some .u8] s s.size (s.toList.map fun b => Value.int .u8 b.toNat) := by
  have ht : s.toList = s.data.toList := by rw [ByteArray.toList_eq]
  refine ⟨by simp [rsz, csz], by rw [ht]; simp, fun m j hm hj => ?_⟩
  have hj0 : j = 0 := by simpa using hj
  subst hj0
  have hlt : m < s.data.toList.length := by simpa using hm
  refine ⟨.int .u8 (s.data.toList[m].toNat : Nat), by rw [ht]; simp [hm], ?_, rfl⟩
  have : rowAtD [some .u8] s m 0 = .int .u8 (s.data.toList[m].toNat : Nat) := by
    simp only [rowAtD, rsz, csz, cellD, decK]
    rw [show m * (1 + 0) = m by omega, List.drop_eq_getElem_cons hlt]
    simp only [List.take_succ_cons, List.take_zero, deB, List.foldl_cons, List.foldl_nil, Nat.zero_mul, Nat.zero_add]
    generalize s.data.toList[m] = b
    have := UInt8.toNat_lt b
    congr 1
    simp [IntKind.wrap, IntKind.bits, IntKind.signed]
    omega
  rw [this]
  exact .int _ _
end Go.Ev
