/- append and copy; all that has effects, but calls. -/
import Derived.Test.YtlhaklmnjdgjgacGreatEwH
namespace Go.Ev
set_option linter.unusedVariables false
set_option linter.unusedSimpArgs false
set_option linter.unnecessarySimpa false

def lenV : AVal → Option Nat
  | .slice _ _ n _ _ => some n
  | .nilslice => some 0
  | .str s => some s.size
  | _ => none

/-- how many elements; of a row: where that is taken -/
def srcLen (ng : Cx) (x : AVal) : Option Nat :=
  match x with
  | .row r => match ng.rlen r with
    | some a => match factV ng a with
      | .int .i64 n => match n with
        | .ofNat k => some k
        | _ => none
      | _ => none
    | none => none
  | x => lenV x

/-- the cells of n elements of a row, from one on -/
def rowCells (ng : Cx) (r size : Nat) : Nat → Nat → Option (List AVal)
  | 0, _ => some []
  | n + 1, j => match ng.rat r (.int .i64 j) with
    | some cs => if cs.length = size then match rowCells ng r size n (j + 1) with
      | some l => some (cs ++ l)
      | none => none
      else none
    | none => none

def srcCells (ng : Cx) (size n : Nat) (x : AVal) (H : List Blk) : Option (List AVal) :=
  match x with
  | .row r => rowCells ng r size n 0
  | x => cellsA size n x H

def copyA (P : Program) (ng : Cx) (ts : List TypeId) (args : List AVal) (hp : Hp) : Option (AVal × Hp) :=
  match ts, args with
  | t :: _, [d, x] => match P.underlying t with
    | some (.slice e) => match P.info? e, srcLen ng x, lenV d with
      | some ie, some xl, some dl => match srcCells ng ie.size (Nat.min xl dl) x hp.heap with
        | some l => match d with
          | .nilslice => some (.int .i64 (Nat.min xl dl), hp)
          | .slice b off _ _ _ =>
            if Nat.min xl dl = 0 then some (.int .i64 (Nat.min xl dl), hp) else match hp.heap[b]? with
            | some (.cells c e') => if off + l.length ≤ c.length then some (.int .i64 (Nat.min xl dl), ⟨hp.heap.set b (.cells (setsA c off l) e'), b :: hp.log⟩) else none
            | _ => none
          | _ => none
        | none => none
      | _, _, _ => none
    | _ => none
  | _, _ => none

def appendTo (e : TypeId) (size bytes xl : Nat) (l : List AVal) (s : AVal) (hp : Hp) : Option (AVal × Hp) :=
  match s with
  | .nilslice =>
    if xl = 0 then some (.nilslice, hp)
    else if xl ≤ 9223372036854775807 ∧ xl * bytes ≤ 140737488355328 then
      some (.slice hp.heap.length 0 xl xl (some size), ⟨hp.heap ++ [.cells l e], hp.log⟩)
    else none
  | .slice b off len cap ex =>
    if len + xl ≤ cap then
      if xl = 0 then some (.slice b off len cap ex, hp) else match hp.heap[b]? with
      | some (.cells c e') => if off + len * size + l.length ≤ c.length then some (.slice b off (len + xl) cap ex, ⟨hp.heap.set b (.cells (setsA c (off + len * size) l) e'), b :: hp.log⟩) else none
      | _ => none
    else if len + xl ≤ 9223372036854775807 ∧ (len + xl) * bytes ≤ 140737488355328 then
      match cellsA size len (.slice b off len cap ex) hp.heap with
      | some old => match ex with
        | none => some (.slice hp.heap.length 0 (len + xl) (len + xl) (some size), ⟨hp.heap ++ [.cells (old ++ l) e], hp.log⟩)
        | some z => match hp.heap[b]? with
          | some (.cells _ e') => if z = size ∧ e' = e ∧ len ≤ cap then
              some (.slice hp.heap.length 0 (len + xl) (len + xl) (some size), ⟨hp.heap.set b .gone ++ [.cells (old ++ l) e], b :: hp.log⟩) else none
          | _ => none
      | none => none
    else none
  | _ => none

def okSrc : TypeDesc → Bool
  | .slice _ => true
  | .string => true
  | _ => false

def appendA (P : Program) (ts : List TypeId) (args : List AVal) (hp : Hp) : Option (AVal × Hp) :=
  match ts, args with
  | [t, xt], [s, x] => match P.underlying t, P.underlying xt with
    | some (.slice e), some dx => match P.info? e, zeroA P e, lenV x with
      | some ie, some z, some xl =>
        if okSrc dx = true ∧ (acells z).length = ie.size ∧ 0 < ie.size ∧ allScalar (acells z) = true then match cellsA ie.size xl x hp.heap with
          | some l => appendTo e ie.size ie.bytes xl l s hp
          | none => none
        else none
      | _, _, _ => none
    | _, _ => none
  | _, _ => none

/-- append of a make, where there is no room: zeros behind what is there. -/
def appendZ (P : Program) (ts : List TypeId) (args : List AVal) (hp : Hp) : Option (AVal × Hp) :=
  match ts, args with
  | [t, xt], [.slice b off len cap none, .int _ n] => match P.underlying t, P.underlying xt with
    | some (.slice e), some (.int _) => match P.info? e, zeroA P e with
      | some ie, some z =>
        if (0 ≤ n ∧ n ≤ 9223372036854775807) ∧ cap < len + n.toNat ∧ len + n.toNat ≤ 9223372036854775807 ∧ (len + n.toNat) * ie.bytes ≤ 140737488355328 ∧ (acells z).length = ie.size ∧ 0 < ie.size ∧ allScalar (acells z) = true then
          match cellsA ie.size len (.slice b off len cap none) hp.heap with
          | some old => some (.slice hp.heap.length 0 (len + n.toNat) (len + n.toNat) (some ie.size), ⟨hp.heap ++ [.cells (old ++ repL (acells z) n.toNat) e], hp.log⟩)
          | none => none
        else none
      | _, _ => none
    | _, _ => none
  | _, _ => none

section
variable {P : Program} {g : Inj} {ng : Cx} {t : Tm} {ρ : Operand → Value} {H : List Blk} {w : World}

theorem lenV_spec {x : AVal} {u : Value} {n : Nat} (h : lenV x = some n) (hx : VRel g x u) : Builtin.lenOf u = pure n := by
  unfold lenV at h
  split at h <;> first | (cases h; cases hx; rfl) | cases h

theorem lenV_nil {x : AVal} {n : Nat} (h : lenV x = some n) (hx : x = .nilslice) : n = 0 := by
  subst hx; simp [lenV] at h; exact h.symm

theorem srcLen_spec (hg : ng.Good g.sig) {x : AVal} {u : Value} {n : Nat} (h : srcLen ng x = some n) (hx : VRel g x u) : Builtin.lenOf u = pure n := by
  unfold srcLen at h
  split at h
  · rename_i r
    split at h
    · rename_i a ha
      cases hx with
      | row _ X ao cap h1 h2 h3 =>
        have hd := hg.rlen r a X ha h1
        have hv : VRel g a (.int .i64 X.len) := by rw [← den_rel, hd]; exact .int _ _
        have hf := factV_rel hg hv
        split at h
        · rename_i m hm
          split at h
          · rename_i k
            cases h
            rw [hm] at hf
            have : (X.len : Int) = Int.ofNat n := by cases hf; rfl
            have : X.len = n := by exact Int.ofNat.inj this
            subst this
            rfl
          · cases h
        · cases h
    · cases h
  · exact lenV_spec h hx

theorem srcLen_nil {x : AVal} {n : Nat} (h : srcLen ng x = some n) (hx : x = .nilslice) : n = 0 := by
  subst hx; simp [srcLen, lenV] at h; exact h.symm

theorem rowCells_spec (hH : HRel ng g H w) {r size : Nat} {X : Fz} (hX : g.sig.ext r = some X) {C : Array Value}
    (hC : ∀ m j, m < X.len → j < X.z → ∃ v, C[X.off + m * X.z + j]? = some v ∧ (∀ g, VRel g (X.val m j) v) ∧ v.oneCell' = true) : ∀ (n s : Nat) (l : List AVal), rowCells ng r size n s = some l →
    ∃ vs : List Value, vs.length = n * size ∧ LRel g l vs ∧ (∀ v ∈ vs, v.oneCell' = true) ∧ l.length = n * size ∧ (∀ (j : Nat) (v : Value), vs[j]? = some v → C[X.off + s * size + j]? = some v) ∧ (0 < n → s < X.len)
  | 0, s, l, h => by
    simp only [rowCells] at h; cases h
    exact ⟨[], by simp, .nil, by simp, by simp, by simp, by omega⟩
  | n + 1, s, l, h => by
    simp only [rowCells] at h
    split at h
    · rename_i cs hrat
      split at h
      · rename_i hlen
        split at h
        · rename_i l' hl'
          cases h
          obtain ⟨vs', v1, v2, v3, v4, v5, _⟩ := rowCells_spec hH hX hC n (s + 1) l' hl'
          obtain ⟨m, d1, d2, d3, d4⟩ := hH.sig.rat r _ cs X hrat hX
          have hm : s = m := by
            simp only [den, AVal.int.injEq, true_and] at d1
            omega
          subst hm
          have h5 : CRel g cs C (X.off + s * X.z) := by
            intro i a hi
            have hlt : i < X.z := by rw [← d3]; exact (List.getElem?_eq_some_iff.1 hi).1
            obtain ⟨y, y1, y2, y3⟩ := hC s i d2 hlt
            refine ⟨y, y1, ?_, y3⟩
            rw [← den_rel, d4 i a hi]
            exact y2 g
          have hseg : seg cs 0 size = some cs := by
            unfold seg
            rw [if_pos (by omega)]
            simp [← hlen]
          obtain ⟨us, u1, u0, u2, u3, u4⟩ := CRel.seg h5 hseg
          have hz : X.z = size := by rw [← d3, hlen]
          refine ⟨us ++ vs', by rw [List.length_append, u1, v1, Nat.add_mul]; omega, u2.append v2, ?_, by rw [List.length_append, hlen, v4, Nat.add_mul]; omega, ?_, fun _ => d2⟩
          · intro v hv
            rcases List.mem_append.1 hv with hv | hv
            · exact u3 v hv
            · exact v3 v hv
          · intro j v hj
            rcases Nat.lt_or_ge j us.length with h9 | h9
            · rw [List.getElem?_append_left h9] at hj
              have := u4 j v hj
              rw [hz] at this
              rw [show X.off + s * size + j = X.off + s * size + (0 + j) by omega]; exact this
            · rw [List.getElem?_append_right h9] at hj
              have := v5 _ v hj
              rw [u1] at this h9
              rw [show X.off + (s + 1) * size + (j - size) = X.off + s * size + j by rw [Nat.add_mul]; omega] at this
              exact this
        · cases h
      · cases h
    · cases h

theorem run_srcCells (hH : HRel ng g H w) {size n : Nat} {x : AVal} {u : Value} {l : List AVal} (h : srcCells ng size n x H = some l) (hx : VRel g x u) (hn : x = .nilslice → n = 0) :
    ∃ vs : List Value, (∀ w', w'.heap = w.heap → (Builtin.firstCells size n u).run P w' = .ok vs.toArray w') ∧ vs.length = n * size ∧ LRel g l vs ∧ (∀ v ∈ vs, v.oneCell' = true) ∧ l.length = n * size := by
  unfold srcCells at h
  split at h
  · rename_i r
    cases hx with
    | row _ X ao cap h1 h2 h3 =>
      rcases Nat.eq_zero_or_pos n with h9 | h9
      · subst h9
        simp only [rowCells] at h; cases h
        refine ⟨[], fun w' _ => ?_, by simp, .nil, by simp, by simp⟩
        cases ao <;> simp [Builtin.firstCells, loadCells, loadCellsFrom]
      · have hlen : 0 < X.len := by
          obtain ⟨n', rfl⟩ : ∃ n', n = n' + 1 := ⟨n - 1, by omega⟩
          simp only [rowCells] at h
          split at h
          · rename_i cs hrat
            obtain ⟨m, d1, d2, _⟩ := hH.sig.rat r _ cs X hrat h1
            omega
          · cases h
        have ha := h3 hlen
        subst ha
        obtain ⟨C, e, fr, c1, c2, _⟩ := (hH.frz.row r X h1 hlen).1
        obtain ⟨vs, v1, v2, v3, v4, v5, _⟩ := rowCells_spec hH h1 c2 n 0 l h
        refine ⟨vs, fun w' hw' => ?_, v1, v2, v3, v4⟩
        have hcell : ∀ (j : Nat) (v : Value), vs[j]? = some v → w'.cell? ((⟨X.blk, X.off, none⟩ : Addr).add j) = some v := by
          intro j v hj
          rw [addr_add, cell_of (by rw [hw']; exact c1)]
          have := v5 j v hj
          rw [show X.off + j = X.off + 0 * size + j by omega]; exact this
        exact run_firstCells_some (P := P) w' size n ⟨X.blk, X.off, none⟩ X.len cap vs v1 hcell
  · exact run_cellsA hH h hx hn

/-- what follows an effect -/
structure After (P : Program) (g : Inj) (ng : Cx) (hp hp' : Hp) (w w' : World) (g' : Inj) : Prop where
  rel : HRel ng g' hp'.heap w'
  ext : Ext g hp.heap w g' hp'.heap w'

theorem copyA_sound {hp hp' : Hp} (hH : HRel ng g hp.heap w) {ts : Array TypeId} {ty : TypeId} {l : List AVal} {m : Array Value} {r : AVal} (h : copyA P ng ts.toList l hp = some (r, hp')) (hl : LRel g l m.toList) :
    ∃ v w', (Builtin.copy_ ts ty m).run P w = .ok v w' ∧ VRel g r v ∧ After P g ng hp hp' w w' g := by
  unfold copyA at h
  split at h
  · rename_i tt rest d x e1
    obtain ⟨ts⟩ := ts
    obtain ⟨m⟩ := m
    simp at e1; subst e1
    cases hl with
    | cons _ du _ _ hd hl => cases hl with
      | cons _ xu _ _ hx hl =>
        cases hl
        split at h
        · rename_i e hu
          split at h
          · rename_i ie xl dl hie hxl hdl
            split at h
            · rename_i cs hcs
              have hsz := run_sizeOf' (P := P) w hie
              have hlx := srcLen_spec hH.sig hxl hx
              have hn0 : x = .nilslice → Nat.min xl dl = 0 := fun hh => by rw [srcLen_nil hxl hh]; exact Nat.zero_min _
              obtain ⟨vs, k1, k2, k3, k4, k5⟩ := run_srcCells (P := P) hH hcs hx hn0
              have kw := k1 w rfl
              split at h
              · cases h; cases hd
                simp only [lenV, Option.some.injEq] at hdl
                subst hdl
                refine ⟨.int .i64 (Nat.min xl 0 : Nat), w, ?_, .int _ _, hH, Ext.refl _ _ _⟩
                simp only [Nat.min_zero] at kw
                simp [Builtin.copy_, run_underlying hu, hlx, hsz, kw, goInt]
              · rename_i b off len cap ex
                simp only [lenV, Option.some.injEq] at hdl
                subst hdl
                cases hd with
                | slice _ _ _ _ _ o' cap' L hL h0 h1' h2' =>
                  split at h
                  · rename_i hn
                    cases h
                    refine ⟨.int .i64 (Nat.min xl len : Nat), w, ?_, .int _ _, hH, Ext.refl _ _ _⟩
                    have hv0 : vs = [] := List.eq_nil_of_length_eq_zero (by rw [k2, hn]; simp)
                    subst hv0
                    simp [Builtin.copy_, run_underlying hu, hlx, hsz, kw, goInt, storeCells]
                  · rename_i hn
                    split at h
                    · rename_i c e' hb
                      split at h
                      · rename_i hle
                        cases h
                        obtain ⟨M, hM, C, fr, h1, h2, h3, h4, h5⟩ := hH.blk b _ hb (by simp)
                        rw [hL] at hM; cases hM
                        have hpos : 0 < len := by
                          rcases Nat.eq_zero_or_pos len with h9 | h9
                          · subst h9; exact absurd (Nat.min_zero xl) hn
                          · exact h9
                        have ho : o' = off := by rcases h0 with h0 | h0; exact h0; omega
                        subst ho
                        have hlen := k3.length
                        obtain ⟨w', j1, j2, j3⟩ := storeCells_ok (P := P) L.blk (L.dl + o') e' fr vs 0 C w h1 h3.1 (by omega) k4
                        have hB := BRel.sets (g := g) (e := e') h2 h3 h4 h5 k3 k4 hle j3
                        obtain ⟨r1, r2⟩ := hH.write hb hL j2 hB
                        refine ⟨.int .i64 (Nat.min xl len : Nat), w', ?_, .int _ _, r1, r2⟩
                        simp [Builtin.copy_, run_underlying hu, hlx, hsz, kw, goInt, j1]
                      · cases h
                    · cases h
              · cases h
            · cases h
          · cases h
        · cases h
  · cases h

theorem run_append_room' (tt xt ty e : TypeId) (dx : TypeDesc) (i : TypeInfo) (ht : P.underlying tt = some (.slice e)) (hx : P.underlying xt = some dx) (hd : okSrc dx = true) (hi : P.info? e = some i)
    (a : Addr) (sLen sCap n : Nat) (x : Value) (news : List Value) (hlen : Builtin.lenOf x = pure n) (hnew : (Builtin.firstCells i.size n x).run P w = .ok news.toArray w) (hroom : sLen + n ≤ sCap) :
    (Builtin.append_ #[tt, xt] ty #[.slice (some a) sLen sCap, x]).run P w = ((storeCells (a.add (sLen * i.size)) news).run P w).andThen fun _ w' => .ok (.slice (some a) (sLen + n) sCap) w' := by
  cases dx <;> first | (simp [okSrc] at hd; done) | simp [Builtin.append_, run_underlying ht, run_underlying hx, run_sizeOf' w hi, hlen, hroom, hnew]

theorem run_append_grow' (tt xt ty e : TypeId) (dx : TypeDesc) (i : TypeInfo) (z : Value) (ht : P.underlying tt = some (.slice e)) (hx : P.underlying xt = some dx) (hd : okSrc dx = true) (hi : P.info? e = some i) (hz : i.zero = some z)
    (base : Option Addr) (sLen sCap n : Nat) (x : Value) (olds news : List Value) (hlen : Builtin.lenOf x = pure n) (hnew : (Builtin.firstCells i.size n x).run P w.drew = .ok news.toArray w.drew)
    (hold : (Builtin.firstCells i.size sLen (.slice base sLen sCap)).run P w.drew = .ok olds.toArray w.drew)
    (hg : sCap < sLen + n) (h63 : sLen + n ≤ 9223372036854775807) (hfit : Builtin.nextslicecap (sLen + n) sCap * i.bytes ≤ 281474976710656) :
    (Builtin.append_ #[tt, xt] ty #[.slice base sLen sCap, x]).run P w =
      .ok (.slice (some ⟨w.heap.size, 0, none⟩) (sLen + n) (grownCap w (sLen + n) sCap e))
        (w.drew.alloc (.cells (olds.toArray ++ news.toArray ++ Builtin.zeroCells z.cells (grownCap w (sLen + n) sCap e - (sLen + n))) e)) := by
  have hn : ¬ (sLen + n ≤ sCap) := by omega
  have h63' : ¬ (9223372036854775807 < ((sLen : Int) + (n : Int))) := by omega
  have h48' : ¬ (281474976710656 < Builtin.nextslicecap (sLen + n) sCap * i.bytes) := by omega
  cases dx <;> first
    | (simp [okSrc] at hd; done)
    | (simp [Builtin.append_, run_underlying ht, run_underlying hx, sizeOf, typeInfo, zeroValue, hi, hz, hlen, hn, h63', h48', Question.forced, hnew, hold, newRow, grownCap]
       congr 2
       apply Array.ext'
       simp [List.append_assoc])

theorem run_append_zeros (tt xt ty e : TypeId) {kk : IntKind} (i : TypeInfo) (z : Value) (ht : P.underlying tt = some (.slice e)) (hx : P.underlying xt = some (.int kk)) (hi : P.info? e = some i) (hz : i.zero = some z)
    (a : Addr) (sLen sCap : Nat) (n : Int) (k : IntKind) (olds : List Value) (hold : (Builtin.firstCells i.size sLen (.slice (some a) sLen sCap)).run P w.drew = .ok olds.toArray w.drew)
    (h0 : 0 ≤ n) (h1 : n ≤ 9223372036854775807) (hg : sCap < sLen + n.toNat) (h63 : sLen + n.toNat ≤ 9223372036854775807) (hfit : Builtin.nextslicecap (sLen + n.toNat) sCap * i.bytes ≤ 281474976710656) (hs : 0 < i.size) (h48 : n.toNat * i.bytes ≤ 281474976710656) :
    (Builtin.append_ #[tt, xt] ty #[.slice (some a) sLen sCap, .int k n]).run P w =
      .ok (.slice (some ⟨w.heap.size, 0, none⟩) (sLen + n.toNat) (grownCap w (sLen + n.toNat) sCap e))
        (w.drew.alloc (.cells (olds.toArray ++ Builtin.zeroCells z.cells n.toNat ++ Builtin.zeroCells z.cells (grownCap w (sLen + n.toNat) sCap e - (sLen + n.toNat))) e)) := by
  obtain ⟨n, rfl⟩ := Int.eq_ofNat_of_zero_le h0
  simp only [Int.toNat_natCast] at *
  have hn : ¬ (sLen + n ≤ sCap) := by omega
  have hw : IntKind.i64.wrap (n : Int) = n := by rw [IntKind.wrap_i64]; omega
  have h63' : ¬ (9223372036854775807 < ((sLen : Int) + (n : Int))) := by omega
  have h48' : ¬ (281474976710656 < Builtin.nextslicecap (sLen + n) sCap * i.bytes) := by omega
  have h48i : ¬ (281474976710656 < (n : Int) * (i.bytes : Int)) := by
    rw [← Int.natCast_mul]
    omega
  have hneg : ¬ ((n : Int) < 0) := by omega
  have hns : n * i.size = 0 → Builtin.zeroCells z.cells n = #[] := by
    intro h
    have : n = 0 := by
      rcases Nat.mul_eq_zero.1 h with h | h
      · exact h
      · omega
    subst this
    simp [Builtin.zeroCells]
  by_cases hz0 : n * i.size = 0
  · have hz1 := hns hz0
    simp [Builtin.append_, run_underlying ht, run_underlying hx, sizeOf, typeInfo, zeroValue, hi, hz, asInt, asIntOf, hw, hn, hneg, hz0, hz1, h63', h48', h48i, Question.forced, hold, newRow, grownCap]
  · simp [Builtin.append_, run_underlying ht, run_underlying hx, sizeOf, typeInfo, zeroValue, hi, hz, asInt, asIntOf, hw, hn, hneg, hz0, h63', h48', h48i, Question.forced, hold, newRow, grownCap]

theorem zeroCells_one {z : Array Value} {n : Nat} (h : ∀ v, v ∈ z.toList → v.oneCell' = true) : ∀ v, v ∈ (Builtin.zeroCells z n).toList → v.oneCell' = true := by
  intro v hv
  simp only [Builtin.zeroCells, Array.toList_map, List.mem_map] at hv
  obtain ⟨i, hi, rfl⟩ := hv
  have hlt : i < n * z.size := by simpa using hi
  have hz : 0 < z.size := by
    rcases Nat.eq_zero_or_pos z.size with h0 | h0
    · rw [h0] at hlt; simp at hlt
    · exact h0
  have hm : i % z.size < z.size := Nat.mod_lt _ hz
  rw [getElem!_pos z _ hm]
  exact h _ (by simp)

theorem grown_rel {hp : Hp} (hH : HRel ng g hp.heap w) {e : TypeId} {z : Value} {size need sCap : Nat} {new : List AVal} {vs : List Value} (hr : LRel g new vs) (h1 : ∀ v ∈ vs, v.oneCell' = true)
    (hl : new.length = need * size) (hz : z.cells.size = size) (hz1 : ∀ v, v ∈ z.cells.toList → v.oneCell' = true) {H' : List Blk} (hH' : HRel ng g H' w) (hlen : H'.length = hp.heap.length) :
    let C := vs.toArray ++ Builtin.zeroCells z.cells (grownCap w need sCap e - need)
    C.size = grownCap w need sCap e * size ∧
    HRel ng (upd g hp.heap.length ⟨w.heap.size, 0, C.size⟩) (H' ++ [.cells new e]) (w.drew.alloc (.cells C e)) ∧
    Ext g H' w (upd g hp.heap.length ⟨w.heap.size, 0, C.size⟩) (H' ++ [.cells new e]) (w.drew.alloc (.cells C e)) := by
  intro C
  have hge := grownCap_ge w need sCap e
  have hvl := hr.length
  have hC : C.size = grownCap w need sCap e * size := by
    simp only [C, Array.size_append, List.size_toArray, size_zeroCells, hz, ← hvl, hl, ← Nat.add_mul]
    congr 1; omega
  have hid : g hp.heap.length = none := by
    cases hg : g hp.heap.length with
    | none => rfl
    | some M => have := (hH.dom _ M hg).1; omega
  have hcr : CRel g new C 0 := by
    intro j a hj
    obtain ⟨v, k1, k2⟩ := hr.get j a hj
    refine ⟨v, ?_, k2, h1 v (List.mem_of_getElem? k1)⟩
    have hlt : j < vs.length := (List.getElem?_eq_some_iff.1 k1).1
    have : (0 + j) = j := by omega
    rw [this]
    simp only [C]
    rw [Array.getElem?_append_left (by simpa using hlt)]
    simpa using k1
  have hng : ng.n ≤ hp.heap.length := by
    rcases Nat.lt_or_ge hp.heap.length ng.n with h9 | h9
    · obtain ⟨L, hL, _⟩ := hH.glob _ h9
      rw [hid] at hL; cases hL
    · exact h9
  have := HRel.alloc hH' (w0 := w.drew) (H' := H' ++ [.cells new e]) hid hng (c := new) (e := e) (C := C) (fr := (0, 0)) rfl rfl rfl rfl (by rw [← hlen]; simp) (by
      intro j hj
      rw [← hlen] at hj
      rcases Nat.lt_or_ge j H'.length with h9 | h9
      · rw [List.getElem?_append_left h9]
      · rw [List.getElem?_append_right h9, List.getElem?_eq_none h9]
        have : j - H'.length ≠ 0 := by omega
        simp [this]) (by simp) (.inl (by omega)) (FrOk.zero (by
        intro v hv
        simp only [C, Array.toList_append, List.mem_append] at hv
        rcases hv with hv | hv
        · exact h1 v hv
        · exact zeroCells_one hz1 v hv)) (by
      rw [hC, hl]; exact Nat.mul_le_mul_right _ hge) hcr
  exact ⟨hC, this.1, this.2 (by omega)⟩

theorem live_drop {H : List Blk} {b j : Nat} (h : Live (H.set b .gone) j) : Live H j ∧ j ≠ b := by
  obtain ⟨k, hk, hne⟩ := h
  rw [List.getElem?_set] at hk
  split at hk
  · split at hk
    · cases hk; exact absurd rfl hne
    · cases hk
  · rename_i hbj; exact ⟨⟨k, hk, hne⟩, fun e => hbj e.symm⟩

theorem HRel.drop {b : Nat} (h : HRel ng g H w) : HRel ng g (H.set b .gone) w := by
  have hlive : ∀ j, Live (H.set b .gone) j → Live H j := by
    intro j ⟨k, hk, hne⟩
    rw [List.getElem?_set] at hk
    split at hk
    · split at hk
      · cases hk; exact absurd rfl hne
      · cases hk
    · exact ⟨k, hk, hne⟩
  refine ⟨fun i L hi => by have := h.dom i L hi; exact ⟨by simpa using this.1, this.2⟩, fun i j L M hi hj hb li lj => h.inj i j L M hi hj hb (hlive i li) (hlive j lj), ?_, h.glob, h.sig, h.frz.to rfl rfl (by simp) fun b hb q2 => ⟨rfl, fun j L hj lj => q2 j L hj (hlive j lj)⟩⟩
  intro i k hi hk
  rw [List.getElem?_set] at hi
  split at hi
  · split at hi
    · cases hi; exact absurd rfl hk
    · cases hi
  · exact h.blk i k hi hk

theorem Ext.drop {b : Nat} : Ext g H w g (H.set b .gone) w where
  sub := Sub.refl g
  new := fun i L h h' => by rw [h] at h'; cases h'
  newm := fun i L h h' => by rw [h] at h'; cases h'
  len := by simp
  live := fun j _ ⟨k, hk, hne⟩ => by
    rw [List.getElem?_set] at hk
    split at hk
    · split at hk
      · cases hk; exact absurd rfl hne
      · cases hk
    · exact ⟨k, hk, hne⟩
  size := Nat.le_refl _
  frame := fun _ _ _ => rfl
  os := rfl
  tape := rfl
  output := rfl

theorem newSlice {need sCap size b n : Nat} (g : Inj) (id : Nat) (hge : need ≤ sCap) (hn : n = sCap * size) :
    VRel (upd g id ⟨b, 0, n⟩) (.slice id 0 need need (some size)) (.slice (some ⟨b, 0, none⟩) need sCap) := by
  have := VRel.slice (g := upd g id ⟨b, 0, n⟩) id 0 need need (some size) 0 sCap ⟨b, 0, n⟩ (upd_same _ _ _) (.inl rfl) (by simp) (fun z hz => by cases hz; exact ⟨hge, by simp [hn]⟩)
  simpa using this

theorem appendZ_sound {hp hp' : Hp} (hH : HRel ng g hp.heap w) {ts : Array TypeId} {ty : TypeId} {l : List AVal} {m : Array Value} {r : AVal} (h : appendZ P ts.toList l hp = some (r, hp')) (hl : LRel g l m.toList) :
    ∃ v w' g', (Builtin.append_ ts ty m).run P w = .ok v w' ∧ VRel g' r v ∧ After P g ng hp hp' w w' g' := by
  unfold appendZ at h
  split at h
  · rename_i tt xt b off len cap kn n e1
    obtain ⟨ts⟩ := ts
    obtain ⟨m⟩ := m
    simp at e1
    subst e1
    simp only at hl
    cases hl with
    | cons _ u _ _ hu hl =>
    cases hl with
    | cons _ u2 _ _ hu2 hl =>
    cases hl
    cases hu2
    split at h
    · rename_i e kk ht hx
      split at h
      · rename_i ie z hie hz
        split at h
        · rename_i hc
          obtain ⟨⟨c0, c1⟩, c2, c3, c4, c5, c6, c7⟩ := hc
          split at h
          · rename_i old hold
            cases h
            obtain ⟨i', zv, hi', hzv, hzr⟩ := zeroA_spec hz
            rw [hie] at hi'; cases hi'
            have hzs : zv.cells.size = ie.size := by have := (hzr g).cells.length; simp at this; omega
            have hz1 : ∀ v, v ∈ zv.cells.toList → v.oneCell' = true := allScalar_rel c7 (hzr g).cells
            obtain ⟨ovs, k1, k2, k3, k4, k5⟩ := run_cellsA (P := P) hH hold hu (by simp)
            cases hu with
            | slice _ _ _ _ _ o' cap' L hL q0 q1 q2 =>
            have hcap := q1 rfl
            subst hcap
            have hzc : LRel g (repL (acells z) n.toNat) (Builtin.zeroCells zv.cells n.toNat).toList := repL_rel (hzr g).cells n.toNat (n.toNat * zv.cells.size) (by rw [hzs, c5])
            have hzc1 : ∀ v ∈ (Builtin.zeroCells zv.cells n.toNat).toList, v.oneCell' = true := zeroCells_one hz1
            have hall : LRel g (old ++ repL (acells z) n.toNat) (ovs ++ (Builtin.zeroCells zv.cells n.toNat).toList) := k3.append hzc
            have hall1 : ∀ v ∈ ovs ++ (Builtin.zeroCells zv.cells n.toNat).toList, v.oneCell' = true := by
              intro v hv
              rcases List.mem_append.1 hv with hv | hv
              · exact k4 v hv
              · exact hzc1 v hv
            have halll : (old ++ repL (acells z) n.toNat).length = (len + n.toNat) * ie.size := by rw [List.length_append, k5, repL_length, c5, Nat.add_mul]
            obtain ⟨g1, g2, g3⟩ := grown_rel (hp := hp) hH (e := e) (z := zv) (size := ie.size) (need := len + n.toNat) (sCap := cap') hall hall1 halll hzs hz1 hH rfl
            have hrun := run_append_zeros (P := P) (w := w) tt xt ty e ie zv ht hx hie hzv ⟨L.blk, L.dl + o', none⟩ len cap' n kn ovs (k1 w.drew rfl) c0 c1 c2 c3 (growslice_fits c2 c4) (by omega)
              (Nat.le_trans (Nat.mul_le_mul_right _ (Nat.le_add_left _ _)) (Nat.le_trans c4 (by decide)))
            have e1 : ovs.toArray ++ Builtin.zeroCells zv.cells n.toNat = (ovs ++ (Builtin.zeroCells zv.cells n.toNat).toList).toArray := by simp
            rw [e1] at hrun
            exact ⟨_, _, _, hrun, newSlice g hp.heap.length (grownCap_ge w (len + n.toNat) cap' e) g1, g2, g3⟩
          · cases h
        · cases h
      · cases h
    · cases h
  · cases h

theorem appendTo_sound {hp hp' : Hp} (hH : HRel ng g hp.heap w) {tt xt ty e : TypeId} {dx : TypeDesc} {ie : TypeInfo} {z : AVal} {xl : Nat} {l : List AVal} {s r : AVal} {su xu : Value} {news : List Value}
    (ht : P.underlying tt = some (.slice e)) (hx : P.underlying xt = some dx) (hd : okSrc dx = true) (hi : P.info? e = some ie) (hz : zeroA P e = some z) (hzl : (acells z).length = ie.size) (_hpos : 0 < ie.size) (hsc : allScalar (acells z) = true)
    (hlen : Builtin.lenOf xu = pure xl) (hnew : ∀ w', w'.heap = w.heap → (Builtin.firstCells ie.size xl xu).run P w' = .ok news.toArray w') (hnl : news.length = xl * ie.size) (hnr : LRel g l news) (h1n : ∀ v ∈ news, v.oneCell' = true)
    (hll : l.length = xl * ie.size) (h : appendTo e ie.size ie.bytes xl l s hp = some (r, hp')) (hs : VRel g s su) :
    ∃ v w' g', (Builtin.append_ #[tt, xt] ty #[su, xu]).run P w = .ok v w' ∧ VRel g' r v ∧ After P g ng hp hp' w w' g' := by
  obtain ⟨i', zv, hi', hzv, hzr⟩ := zeroA_spec hz
  rw [hi] at hi'; cases hi'
  have hzs : zv.cells.size = ie.size := by have := (hzr g).cells.length; simp at this; omega
  have hz1 : ∀ v, v ∈ zv.cells.toList → v.oneCell' = true := allScalar_rel hsc (hzr g).cells
  unfold appendTo at h
  split at h
  · cases hs
    split at h
    · rename_i h0
      subst h0
      cases h
      have hn0 : news = [] := List.eq_nil_of_length_eq_zero (by rw [hnl]; simp)
      subst hn0
      refine ⟨.slice none 0 0, w, g, ?_, .nilslice, hH, Ext.refl _ _ _⟩
      have := hnew w rfl
      cases dx <;> first | (simp [okSrc] at hd; done) | simp [Builtin.append_, run_underlying ht, run_underlying hx, run_sizeOf' w hi, hlen, this]
    · rename_i h0
      split at h
      · rename_i hc
        cases h
        have hrun := run_append_grow' (P := P) (w := w) tt xt ty e dx ie zv ht hx hd hi hzv none 0 0 xl xu [] news hlen (hnew w.drew rfl) (by simp [Builtin.firstCells]) (by omega) (by omega)
          (growslice_fits (by omega) (by simpa using hc.2))
        simp only [Nat.zero_add] at hrun
        rw [show (#[] : Array Value) ++ news.toArray = news.toArray by simp] at hrun
        have hg := grown_rel (hp := hp) hH (e := e) (z := zv) (size := ie.size) (need := xl) (sCap := 0) hnr h1n hll hzs hz1 hH rfl
        obtain ⟨g1, g2, g3⟩ := hg
        exact ⟨_, _, _, hrun, newSlice g hp.heap.length (grownCap_ge w xl 0 e) g1, g2, g3⟩
      · cases h
  · rename_i b off len cap ex
    cases hs with
    | slice _ _ _ _ _ o' cap' L hL h0 h1' h2' =>
      split at h
      · rename_i hroom
        have hroom' : len + xl ≤ cap' := by
          cases ex with
          | none => rw [h1' rfl]; exact hroom
          | some zz => have := (h2' zz rfl).1; omega
        have hrun := run_append_room' (P := P) (w := w) tt xt ty e dx ie ht hx hd hi ⟨L.blk, L.dl + o', none⟩ len cap' xl xu news hlen (hnew w rfl) hroom'
        split at h
        · rename_i hx0
          subst hx0
          cases h
          have hn0 : news = [] := List.eq_nil_of_length_eq_zero (by rw [hnl]; simp)
          subst hn0
          exact ⟨_, w, g, by rw [hrun]; simp [storeCells], .slice _ _ _ _ _ _ _ L hL h0 h1' h2', hH, Ext.refl _ _ _⟩
        · rename_i hx0
          split at h
          · rename_i c e' hb
            split at h
            · rename_i hle
              cases h
              obtain ⟨M, hM, C, fr, h1, h2, h3, h4, h5⟩ := hH.blk b _ hb (by simp)
              rw [hL] at hM; cases hM
              have ho : o' = off := by rcases h0 with h0 | h0; exact h0; omega
              subst ho
              obtain ⟨w', j1, j2, j3⟩ := storeCells_ok (P := P) L.blk (L.dl + (o' + len * ie.size)) e' fr news 0 C w h1 h3.1 (by omega) h1n
              have hB := BRel.sets (g := g) (e := e') h2 h3 h4 h5 hnr h1n hle j3
              obtain ⟨r1, r2⟩ := hH.write hb hL j2 hB
              refine ⟨.slice (some ⟨L.blk, L.dl + o', none⟩) (len + xl) cap', w', g, ?_, ?_, r1, r2⟩
              · rw [hrun, addr_add, show L.dl + o' + len * ie.size = L.dl + (o' + len * ie.size) by omega, j1]; rfl
              · exact .slice _ _ _ _ _ _ _ L hL (.inl rfl) h1' h2'
            · cases h
          · cases h
      · rename_i hroom
        split at h
        · rename_i hc
          split at h
          · rename_i old hold
            obtain ⟨ovs, k1, k2, k3, k4, k5⟩ := run_cellsA (P := P) hH hold (.slice b off len cap ex o' cap' L hL h0 h1' h2') (by simp)
            have hall : LRel g (old ++ l) (ovs ++ news) := k3.append hnr
            have hall1 : ∀ v ∈ ovs ++ news, v.oneCell' = true := by
              intro v hv
              rcases List.mem_append.1 hv with hv | hv
              · exact k4 v hv
              · exact h1n v hv
            have halll : (old ++ l).length = (len + xl) * ie.size := by rw [List.length_append, k5, hll, Nat.add_mul]
            have grow : cap' < len + xl → ∀ {H' : List Blk} (hH' : HRel ng g H' w) (hlen' : H'.length = hp.heap.length) (hE : Ext g hp.heap w g H' w) (lg : List Nat),
                ∃ v w' g', (Builtin.append_ #[tt, xt] ty #[.slice (some ⟨L.blk, L.dl + o', none⟩) len cap', xu]).run P w = .ok v w' ∧ VRel g' (.slice hp.heap.length 0 (len + xl) (len + xl) (some ie.size)) v ∧
                  After P g ng hp ⟨H' ++ [.cells (old ++ l) e], lg⟩ w w' g' := by
              intro hgr H' hH' hlen' hE lg
              have hrun := run_append_grow' (P := P) (w := w) tt xt ty e dx ie zv ht hx hd hi hzv (some ⟨L.blk, L.dl + o', none⟩) len cap' xl xu ovs news hlen (hnew w.drew rfl) (k1 w.drew rfl) hgr (by omega)
                (growslice_fits hgr hc.2)
              obtain ⟨g1, g2, g3⟩ := grown_rel (hp := hp) hH (e := e) (z := zv) (size := ie.size) (need := len + xl) (sCap := cap') hall hall1 halll hzs hz1 hH' hlen'
              have e1 : ovs.toArray ++ news.toArray = (ovs ++ news).toArray := by simp
              rw [e1] at hrun
              exact ⟨_, _, _, hrun, newSlice g hp.heap.length (grownCap_ge w (len + xl) cap' e) g1, g2, hE.trans hH g3⟩
            split at h
            · cases h
              exact grow (by have := h1' rfl; omega) hH rfl (Ext.refl _ _ _) _
            · rename_i zz
              split at h
              · rename_i c e' hb
                split at h
                · rename_i hcc
                  obtain ⟨rfl, rfl, hlc⟩ := hcc
                  cases h
                  obtain ⟨hcap, hfit⟩ := h2' _ rfl
                  by_cases hgr : cap' < len + xl
                  · exact grow hgr (HRel.drop hH) (by simp) Ext.drop _
                  · have hroom' : len + xl ≤ cap' := by omega
                    have hrun := run_append_room' (P := P) (w := w) tt xt ty e' dx ie ht hx hd hi ⟨L.blk, L.dl + o', none⟩ len cap' xl xu news hlen (hnew w rfl) hroom'
                    obtain ⟨M, hM, C, fr, h1, h2, h3, h4, h5⟩ := hH.blk b _ hb (by simp)
                    rw [hL] at hM; cases hM
                    have hmul : (len + xl) * ie.size ≤ cap' * ie.size := Nat.mul_le_mul_right _ hroom'
                    rw [Nat.add_mul] at hmul
                    obtain ⟨w', j1, j2, j3⟩ := storeCells_ok (P := P) L.blk (L.dl + (o' + len * ie.size)) e' fr news 0 C w h1 h3.1 (by omega) h1n
                    have hbl : b < hp.heap.length := (List.getElem?_eq_some_iff.1 hb).1
                    have hlb : Live hp.heap b := ⟨_, hb, by simp⟩
                    have hid : g hp.heap.length = none := by
                      cases hg : g hp.heap.length with
                      | none => rfl
                      | some M => have := (hH.dom _ M hg).1; omega
                    let L2 : Loc := ⟨L.blk, L.dl + o', L.n - o'⟩
                    have hsub := upd_sub L2 hid
                    have hon : o' ≤ L.n := by omega
                    -- the new block's cells
                    have hcr : CRel g (old ++ l) ((news.zipIdx 0).foldl (fun cs (x : Value × Nat) => cs.setIfInBounds (L.dl + (o' + len * ie.size) + x.2) x.1) C) (L.dl + o') := by
                      have hold' : CRel g (old ++ List.replicate l.length AVal.nilptr) C (L.dl + o') ∨ True := .inr trivial
                      clear hold'
                      intro j a hj
                      have hC0 : ∀ (j : Nat) (v : Value), ovs[j]? = some v → C[L.dl + o' + j]? = some v := by
                        intro j v hv
                        have hjl : j < ovs.length := (List.getElem?_eq_some_iff.1 hv).1
                        by_cases hlz : len * ie.size = 0
                        · rw [k2, hlz] at hjl; omega
                        · have := k1 w rfl
                          have hoff : o' = off := by
                            rcases h0 with h0 | h0
                            · exact h0
                            · exfalso; apply hlz; rw [h0.1]; simp
                          subst hoff
                          have hold2 := hold
                          simp only [cellsA] at hold2
                          by_cases hp' : len = 0 ∨ 0 < len ∨ 0 < cap
                          · rw [if_pos hp', if_neg hlz, hb] at hold2
                            simp only at hold2
                            obtain ⟨vs', q1, _, q3, _, q5⟩ := CRel.seg h5 hold2
                            have hq := (run_loadCells_list (P := P) w ⟨L.blk, L.dl + o', none⟩ vs' (fun j v hj => by
                              rw [addr_add, cell_of h1]
                              rw [show L.dl + o' + j = L.dl + (o' + j) by omega]; exact q5 j v hj))
                            rw [q1] at hq
                            simp only [Builtin.firstCells] at this
                            rw [this] at hq
                            injection hq with hq _
                            have hq' : ovs = vs' := by simpa using hq
                            subst hq'
                            rw [show L.dl + o' + j = L.dl + (o' + j) by omega]; exact q5 j v hv
                          · rw [if_neg hp'] at hold2; cases hold2
                      by_cases hjo : j < old.length
                      · rw [List.getElem?_append_left hjo] at hj
                        obtain ⟨v, q1, q2⟩ := k3.get j a hj
                        refine ⟨v, ?_, q2, k4 v (List.mem_of_getElem? q1)⟩
                        rw [foldl_low _ _ _ (by intro x hx; rw [k5] at hjo; omega)]
                        exact hC0 j v q1
                      · rw [List.getElem?_append_right (by omega)] at hj
                        obtain ⟨v, q1, q2⟩ := hnr.get _ a hj
                        refine ⟨v, ?_, q2, h1n v (List.mem_of_getElem? q1)⟩
                        have := foldl_high news 0 (L.dl + (o' + len * ie.size)) C (by omega) (j - old.length) v q1
                        rw [k5] at this hjo
                        rw [show L.dl + (o' + len * ie.size) + 0 + (j - len * ie.size) = L.dl + o' + j by omega] at this
                        exact this
                    have hother : ∀ k, k ≠ L.blk → w'.heap[k]? = w.heap[k]? := j2.other
                    have hH2 := HRel.drop (b := b) hH
                    refine ⟨.slice (some ⟨L.blk, L.dl + o', none⟩) (len + xl) cap', w', upd g hp.heap.length L2, ?_, ?_, ?_, ?_⟩
                    · rw [hrun, addr_add, show L.dl + o' + len * ie.size = L.dl + (o' + len * ie.size) by omega, j1]; rfl
                    · have := VRel.slice (g := upd g hp.heap.length L2) hp.heap.length 0 (len + xl) (len + xl) (some ie.size) 0 cap' L2 (upd_same _ _ _) (.inl rfl) (by simp)
                        (fun zz hz => by cases hz; exact ⟨hroom', by simp only [L2]; omega⟩)
                      simpa [L2] using this
                    · have hlive : ∀ j, j ≠ hp.heap.length → Live (hp.heap.set b .gone ++ [.cells (old ++ l) e']) j → Live (hp.heap.set b .gone) j := by
                        intro j hj ⟨k, hk, hne⟩
                        rcases Nat.lt_or_ge j (hp.heap.set b .gone).length with h9 | h9
                        · rw [List.getElem?_append_left h9] at hk; exact ⟨k, hk, hne⟩
                        · rw [List.getElem?_append_right h9] at hk
                          have h8 := (List.getElem?_eq_some_iff.1 hk).1
                          simp at h8 h9
                          omega
                      have hlive2 : ∀ j, Live (hp.heap.set b .gone) j → Live hp.heap j ∧ j ≠ b := fun j h => live_drop h
                      constructor
                      · intro i M hM
                        by_cases hii : i = hp.heap.length
                        · subst hii; rw [upd_same] at hM; cases hM
                          exact ⟨by simp, by rw [j2.size]; exact (hH.dom b L hL).2⟩
                        · rw [upd_other g _ hii] at hM
                          have := hH.dom i M hM
                          exact ⟨by simp; omega, by rw [j2.size]; exact this.2⟩
                      · intro i j M N hi' hj' hbk li lj
                        by_cases hii : i = hp.heap.length
                        · by_cases hjj : j = hp.heap.length
                          · rw [hii, hjj]
                          · subst hii
                            rw [upd_same] at hi'; cases hi'
                            rw [upd_other g _ hjj] at hj'
                            obtain ⟨q1, q2⟩ := hlive2 j (hlive j hjj lj)
                            exact absurd (hH.inj j b N L hj' hL hbk.symm q1 hlb) q2
                        · by_cases hjj : j = hp.heap.length
                          · subst hjj
                            rw [upd_same] at hj'; cases hj'
                            rw [upd_other g _ hii] at hi'
                            obtain ⟨q1, q2⟩ := hlive2 i (hlive i hii li)
                            exact absurd (hH.inj i b M L hi' hL hbk q1 hlb) q2
                          · rw [upd_other g _ hii] at hi'
                            rw [upd_other g _ hjj] at hj'
                            exact hH.inj i j M N hi' hj' hbk (hlive2 i (hlive i hii li)).1 (hlive2 j (hlive j hjj lj)).1
                      · intro i k hik hk
                        by_cases hii : i = hp.heap.length
                        · subst hii
                          have hgl : (hp.heap.set b .gone).length = hp.heap.length := by simp
                          rw [← hgl] at hik
                          simp only [List.getElem?_concat_length, Option.some.injEq] at hik
                          subst hik
                          refine ⟨L2, upd_same _ _ _, _, fr, j3, by rw [foldl_size]; simp only [L2]; omega, ⟨by rw [foldl_size]; exact h3.not, by rw [foldl_size]; exact h3.eq, foldl_one news 0 _ C h1n h3.one⟩, by rw [halll, Nat.add_mul]; simp only [L2]; omega, ?_⟩
                          intro j a hj
                          obtain ⟨v, q1, q2, q3⟩ := hcr j a hj
                          exact ⟨v, q1, q2.mono hsub, q3⟩
                        · have hlv := hlive i hii ⟨k, hik, hk⟩
                          have hil : i < (hp.heap.set b .gone).length := by obtain ⟨k', hk', _⟩ := hlv; exact (List.getElem?_eq_some_iff.1 hk').1
                          rw [List.getElem?_append_left hil] at hik
                          obtain ⟨M, hM, hB⟩ := hH2.blk i k hik hk
                          refine ⟨M, by rw [upd_other g _ hii]; exact hM, (hB.of_same (hother _ ?_)).mono hsub⟩
                          intro he
                          obtain ⟨q1, q2⟩ := hlive2 i hlv
                          exact q2 (hH.inj i b M L hM hL he q1 hlb)
                      · intro i hi'
                        obtain ⟨M, hM, q1, q2⟩ := hH.glob i hi'
                        exact ⟨M, hsub _ _ hM, q1, q2⟩
                      · exact hH.sig
                      · refine hH.frz.to rfl rfl (by simp) fun b' hb' q2 => ⟨hother _ fun he => q2 b L hL hlb he.symm, fun j M hj lj he => ?_⟩
                        by_cases hjj : j = hp.heap.length
                        · subst hjj
                          rw [upd_same] at hj; cases hj
                          exact q2 b L hL hlb he
                        · rw [upd_other g _ hjj] at hj
                          exact q2 j M hj (hlive2 j (hlive j hjj lj)).1 he
                    · constructor
                      · exact hsub
                      · intro i M hi' hn
                        by_cases hii : i = hp.heap.length
                        · subst hii; rw [upd_same] at hi'; cases hi'
                          exact ⟨Nat.le_refl _, .inr ⟨b, L, hL, rfl, hlb⟩⟩
                        · rw [upd_other g _ hii, hn] at hi'; cases hi'
                      · intro i X hi' hn; rw [show (upd g _ _).mp = g.mp from rfl, hn] at hi'; cases hi'
                      · simp
                      · intro i hi' ⟨k, hk, hne⟩
                        rw [List.getElem?_append_left (by simpa using hi')] at hk
                        exact (live_drop ⟨k, hk, hne⟩).1
                      · rw [j2.size]; exact Nat.le_refl _
                      · intro k hk hno; exact hother k fun he => hno b L hL hlb he.symm
                      · exact j2.os
                      · exact j2.tape
                      · exact j2.output
                · cases h
              · cases h
          · cases h
        · cases h
  · cases h
end
end Go.Ev
