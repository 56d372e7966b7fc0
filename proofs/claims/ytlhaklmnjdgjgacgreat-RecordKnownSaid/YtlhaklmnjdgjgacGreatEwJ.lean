/- One operation after the other: what a step is, and that it is the model's. -/
import Derived.Test.YtlhaklmnjdgjgacGreatEwI
namespace Go.Ev
set_option linter.unusedVariables false
set_option linter.unusedSimpArgs false
set_option linter.unnecessarySimpa false

/-- A new entry of a map. -/
def insertV (P : Program) (ty : TypeId) (m k v : AVal) (hp : Hp) : Option Hp :=
  match P.underlying ty with
  | some (.map kt _) => match P.underlying kt with
    | some d => match keyA d k, m with
      | some _, .map b => match hp.heap[b]? with
        | some (.map l) => match findA d k l with
          | some none => some ⟨hp.heap.set b (.map (l ++ [(k, v)])), b :: hp.log⟩
          | _ => none
        | _ => none
      | _, _ => none
    | none => none
  | _ => none

/-- A range over a map begins: nothing writes the map any more. -/
def rangeV (P : Program) (ty : TypeId) (b : Nat) (hp : Hp) : Option (AVal × Hp) :=
  match P.underlying ty with
  | some (.map _ _) => match hp.heap[b]? with
    | some (.map l) => some (.ptr hp.heap.length 0, ⟨hp.heap.set b .gone ++ [.iter hp.heap.length l none], b :: hp.log⟩)
    | _ => none
  | _ => none

/-- Effects that are no calls. -/
def effA (P : Program) (ng : Cx) (t : Tm) (op : Op) (hp : Hp) : Option (AVal × Hp) :=
  match op with
  | .store ty a x => match ev ng t a, ev ng t x with
    | some av, some xv => match storeV P ty av xv hp with
      | some hp' => some (undefA, hp')
      | none => none
    | _, _ => none
  | .makeMap _ none => some (.map hp.heap.length, ⟨hp.heap ++ [.map []], hp.log⟩)
  | .insert ty m k x => match ev ng t m, ev ng t k, ev ng t x with
    | some mv, some kv, some xv => match insertV P ty mv kv xv hp with
      | some hp' => some (undefA, hp')
      | none => none
    | _, _, _ => none
  | .mapUpdate ty m k x => match ev ng t m, ev ng t k, ev ng t x with
    | some mv, some kv, some xv => match insertV P ty mv kv xv hp with
      | some hp' => some (undefA, hp')
      | none => none
    | _, _, _ => none
  | .range ty x => match ev ng t x with
    | some (.map b) => rangeV P ty b hp
    | _ => none
  | .convert src dst x => match Nat.beq src dst, P.underlying src with
    | true, some (.slice e) => match P.underlying e, ev ng t x with
      | some (.int .u8), some (.slice b off len cap ex) => match hp.heap[b]? with
        | some (.cells _ _) => some (.slice b off len cap ex, ⟨hp.heap, b :: hp.log⟩)
        | _ => none
      | _, _ => none
    | _, _ => none
  | .call c => match c.callee with
    | .builtin .append => match evL ng t c.args.toList with
      | some l => match appendA P c.argTypes.toList l hp with
        | some r => some r
        | none => appendZ P c.argTypes.toList l hp
      | none => none
    | .builtin .copy => match evL ng t c.args.toList with
      | some l => copyA P ng c.argTypes.toList l hp
      | none => none
    | _ => none
  | _ => none

inductive Out where
  | val (v : AVal)
  | pan (v : AVal)

inductive Ex where
  | normal
  | exit (id : Nat)
  | ret
  | pan (v : AVal)

/-- What a loop's block holds and never changes. -/
def sameLoop (a b : LoopA) : Prop := b.t = a.t ∧ b.params = a.params ∧ b.assign = a.assign ∧ b.body = a.body ∧ b.dfr = a.dfr

/-- What was there and is not in the list of what was written is as it was. -/
structure Touch (hp hp' : Hp) : Prop where
  len : hp.heap.length ≤ hp'.heap.length
  log : ∃ pre, hp'.log = pre ++ hp.log ∧ ∀ i, i < hp.heap.length → i ∉ pre → hp'.heap[i]? = hp.heap[i]?
  live : ∀ i, i < hp.heap.length → Live hp'.heap i → Live hp.heap i
  loops : ∀ (i : Nat) (la : LoopA), i < hp.heap.length → hp'.heap[i]? = some (Blk.loop la) → ∃ l0, hp.heap[i]? = some (Blk.loop l0) ∧ sameLoop l0 la

theorem Touch.refl (hp : Hp) : Touch hp hp := ⟨Nat.le_refl _, ⟨[], by simp, fun _ _ _ => rfl⟩, fun _ _ h => h, fun _ la _ h => ⟨la, h, rfl, rfl, rfl, rfl, rfl⟩⟩
theorem Touch.trans {a b c : Hp} (h : Touch a b) (h' : Touch b c) : Touch a c := by
  obtain ⟨p, hp, h1⟩ := h.log
  obtain ⟨q, hq, h2⟩ := h'.log
  refine ⟨Nat.le_trans h.len h'.len, ⟨q ++ p, by rw [hq, hp, List.append_assoc], fun i hi hn => ?_⟩, fun i hi hl => h.live i hi (h'.live i (Nat.lt_of_lt_of_le hi h.len) hl), fun i lc hi hl => ?_⟩
  · simp only [List.mem_append, not_or] at hn
    exact (h2 i (Nat.lt_of_lt_of_le hi h.len) hn.1).trans (h1 i hi hn.2)
  · obtain ⟨lb, hb, f1, f2, f3, f4, f5⟩ := h'.loops i lc (Nat.lt_of_lt_of_le hi h.len) hl
    obtain ⟨la, ha, e1, e2, e3, e4, e5⟩ := h.loops i lb hi hb
    exact ⟨la, ha, f1.trans e1, f2.trans e2, f3.trans e3, f4.trans e4, f5.trans e5⟩

def OutRel (g : Inj) (o : Out) (e : Ending) : Prop :=
  match o with
  | .val v => ∃ u, e = .returned u ∧ VRel g v u
  | .pan v => ∃ u, e = .panicked [{ v := u, recovered := false }] ∧ VRel g v u

/-- A call, on the abstract heap: what it gives, and what the heap is then. -/
structure CallP (P : Program) (ng : Cx) (f : FuncId) (args : List AVal) (hp : Hp) (o : Out) (hp' : Hp) : Prop where
  touch : Touch hp hp'
  calls : ∀ g w args', HRel ng g hp.heap w → LRel g args args'.toList → Calls P f args' w fun e w' => ∃ g', OutRel g' o e ∧ HRel ng g' hp'.heap w' ∧ Ext g hp.heap w g' hp'.heap w'

def wantedA (ng : Cx) (ops : List Oper) (t : Tm) (o : Oper) : Option Bool :=
  match o.guard with
  | none => some true
  | some (j, want) => match ops[j]? with
    | none => some false
    | some q => match q.dst with
      | none => some false
      | some d => match t.get d with
        | none => none
        | some v => match factV ng v with
          | .bool b => some (b == want)
          | .symb _ => none
          | .junk => none
          | _ => some false

def putA (t : Tm) (d : Option Tmp) (v : AVal) : Tm :=
  match d with
  | some d => match t with
    | ⟨n, tr, df⟩ => ⟨n, tr.put d v, df⟩
  | none => t

/-- Where a method's receiver is looked for. -/
inductive PlaceA where
  | val (v : AVal)
  | var (b off : Nat)

def followA (P : Program) : List FieldStep → TypeId → PlaceA → Option (TypeId × PlaceA)
  | [], t, x => some (t, x)
  | s :: rest, _, x => match P.underlying s.struct with
    | some (.struct fields) => match fields[s.index]? with
      | some f => match P.underlying f.type, P.info? f.type with
        | some _, some i => match s.deref with
          | true => match x with
            | .val (.ptr b off) => if i.size = 0 then none else followA P rest f.type (.var b (off + f.offset))
            | _ => none
          | false => match x with
            | .var b off => if i.size = 0 then none else followA P rest f.type (.var b (off + f.offset))
            | .val (.agg cs) => match partA P f.type cs f.offset with
              | some v => followA P rest f.type (.val v)
              | none => none
            | _ => none
        | _, _ => none
      | none => none
    | _ => none

def receiverA (P : Program) (xt : TypeId) (x : PlaceA) (pr : Bool) : Option AVal :=
  match P.underlying xt with
  | some (.pointer _) => match pr, x with
    | true, .val v => some v
    | _, _ => none
  | some _ => match pr, x with
    | true, .var b off => some (.ptr b off)
    | false, .val v => some v
    | _, _ => none
  | none => none

def methodA (P : Program) : Nat → TypeId → AVal → String → Option (FuncId × AVal)
  | 0, _, _, _ => none
  | n + 1, t, v, name => match P.info? t with
    | some info => match info.methods.find? (·.name == name) with
      | some m => match followA P m.path.toList t (.val v) with
        | some (xt, x) => match m.func with
          | some (f, pr) => match receiverA P xt x pr with
            | some r => some (f, r)
            | none => none
          | none => match x with
            | .val (.iface t' v') => methodA P n t' v' name
            | _ => none
        | none => none
      | none => none
    | none => none

def enterA (P : Program) (k : FuncId) (args : List AVal) : Option (FuncId × List AVal) :=
  match P.funcs[k]? with
  | some fn => if fn.body.isSome = true ∧ ¬ (fn.name == "runtime.NumGoroutine") = true then some (k, args) else none
  | none => none

/-- Which function is called, with which arguments. -/
def resolveA (P : Program) (ng : Cx) (t : Tm) (c : Call) : Option (FuncId × List AVal) :=
  match c.callee with
  | .value f => match ev ng t f, evL ng t c.args.toList with
    | some (.func (.func k) first cap), some l => enterA P k (first ++ l ++ cap)
    | some (.func (.via ty path k pr) first _), some l => match first ++ l with
      | x :: rest => match followA P path.toList ty (.val x) with
        | some (xt, y) => match receiverA P xt y pr with
          | some r => enterA P k (r :: rest)
          | none => none
        | none => none
      | [] => none
    | some (.func (.method name) first _), some l => match first ++ l with
      | .iface ty v :: rest => match methodA P (P.types.size + Made.depth) ty v name with
        | some (k, r) => enterA P k (r :: rest)
        | none => none
      | _ => none
    | _, _ => none
  | .invoke x name => match ev ng t x, evL ng t c.args.toList with
    | some (.iface ty v), some l => match methodA P (P.types.size + Made.depth) ty v name with
      | some (k, r) => enterA P k (r :: l)
      | none => none
    | _, _ => none
  | _ => none

/-- One operation, on the abstract heap. 'id' is the slot that a new block takes. -/
inductive Step (P : Program) (ng : Cx) (ops : List Oper) (o : Oper) (t : Tm) (hp : Hp) : AVal → Hp → Prop
  | skip : wantedA ng ops t o = some false → Step P ng ops o t hp undefA hp
  | pure (v : AVal) : wantedA ng ops t o = some true → pureA P ng t o.op = some v → Step P ng ops o t hp v hp
  | load (v : AVal) (b : Option Nat) : wantedA ng ops t o = some true → loadA P ng t o.op hp.heap = some (v, b) → Step P ng ops o t hp v hp
  | fresh (c : List AVal) (e : TypeId) (m : Mk) : wantedA ng ops t o = some true → freshA P ng t o.op = some (c, e, m) → Step P ng ops o t hp (m.val hp.heap.length) ⟨hp.heap ++ [.cells c e], hp.log⟩
  | eff (v : AVal) (hp' : Hp) : wantedA ng ops t o = some true → effA P ng t o.op hp = some (v, hp') → Step P ng ops o t hp v hp'
  | call (c : Call) (f : FuncId) (args : List AVal) (v : AVal) (hp' : Hp) : wantedA ng ops t o = some true → o.op = .call c → resolveA P ng t c = some (f, args) → CallP P ng f args hp (.val v) hp' → Step P ng ops o t hp v hp'

section
variable {P : Program} {g : Inj} {ng : Cx} {t : Tm} {ρ : Operand → Value} {H : List Blk} {w : World} {hp hp' : Hp}

theorem appendA_sound (hH : HRel ng g hp.heap w) {ts : Array TypeId} {ty : TypeId} {l : List AVal} {m : Array Value} {r : AVal} (h : appendA P ts.toList l hp = some (r, hp')) (hl : LRel g l m.toList) :
    ∃ v w' g', (Builtin.append_ ts ty m).run P w = .ok v w' ∧ VRel g' r v ∧ After P g ng hp hp' w w' g' := by
  unfold appendA at h
  split at h
  · rename_i tt xt s x e1
    obtain ⟨ts⟩ := ts
    obtain ⟨m⟩ := m
    simp at e1; subst e1
    cases hl with
    | cons _ su _ _ hs hl => cases hl with
      | cons _ xu _ _ hx hl =>
        cases hl
        split at h
        · rename_i e dx hu hxu
          split at h
          · rename_i ie z xl hie hz hxl
            split at h
            · rename_i hc
              split at h
              · rename_i cs hcs
                obtain ⟨vs, k1, k2, k3, k4, k5⟩ := run_cellsA (P := P) hH hcs hx (fun hh => lenV_nil hxl hh)
                exact appendTo_sound hH hu hxu hc.1 hie hz hc.2.1 hc.2.2.1 hc.2.2.2 (lenV_spec hxl hx) k1 k2 k3 k4 k5 h hs
              · cases h
            · cases h
          · cases h
        · cases h
  · cases h

theorem nodup_push {es : Array MapEntry} {cl : Nat} {k v : Value} (h : (es.toList.map (·.born)).Nodup) (h' : ∀ e ∈ es.toList, e.born < cl) : ((es.push { key := k, val := v, born := cl }).toList.map (·.born)).Nodup := by
  simp only [Array.toList_push, List.map_append, List.map_cons, List.map_nil]
  rw [List.nodup_append]
  refine ⟨h, by simp, ?_⟩
  intro a ha b hb
  simp only [List.mem_map, List.mem_singleton] at ha hb
  obtain ⟨e, he, rfl⟩ := ha
  have := h' e he
  omega

theorem lt_push {es : Array MapEntry} {cl : Nat} {k v : Value} (h' : ∀ e ∈ es.toList, e.born < cl) : ∀ e ∈ (es.push { key := k, val := v, born := cl }).toList, e.born < cl + 1 := by
  intro e he
  simp only [Array.toList_push, List.mem_append, List.mem_singleton] at he
  rcases he with he | rfl
  · have := h' e he; omega
  · simp

theorem insertV_sound (hH : HRel ng g hp.heap w) {ty : TypeId} {m k v : AVal} {um uk uv : Value} (h : insertV P ty m k v hp = some hp') (hm : VRel g m um) (hk : VRel g k uk) (hv : VRel g v uv) :
    ∃ w', (Instr.mapUpdate ty um uk uv).run P w = .ok () w' ∧ After P g ng hp hp' w w' g := by
  unfold insertV at h
  split at h
  · rename_i kt elem hty
    split at h
    · rename_i d hd
      split at h
      · rename_i kv b hkv
        obtain ⟨i1, i2⟩ := keyA_spec (g := g) hkv
        have hq := i2 _ hk
        subst hq
        cases hm with
        | map _ L hL =>
        split at h
        · rename_i l hb
          obtain ⟨M, hM, es, cl, es', h1, h2, h3, h4, h5⟩ := hH.blk b _ hb (by simp)
          rw [hL] at hM; cases hM
          split at h
          · rename_i hf
            cases h
            rcases findA_run hkv hf h3 h2 with ⟨_, hrun⟩ | ⟨v', j, y, hv', _⟩
            · have hlt : L.blk < w.heap.size := (Array.getElem?_eq_some_iff.1 h1).1
              obtain ⟨s1, s2⟩ := MapKept.heap_set (o' := .map (es.push { key := uk, val := uv, born := cl }) (cl + 1)) h1
              have hB : BRel g { w with heap := w.heap.setIfInBounds L.blk (.map (es.push { key := uk, val := uv, born := cl }) (cl + 1)) } (.map (l ++ [(k, v)])) L :=
                ⟨_, _, es' ++ [{ key := uk, val := uv, born := cl }], s1, by simpa using h2.append_right _, h3.snoc hk hv, nodup_push h4 h5, lt_push h5⟩
              have hW : Wr L.blk w { w with heap := w.heap.setIfInBounds L.blk (.map (es.push { key := uk, val := uv, born := cl }) (cl + 1)) } := ⟨by simp, fun k' hk' => s2 k' hk', rfl, rfl, rfl⟩
              obtain ⟨r1, r2⟩ := HRel.writeK hH ⟨_, hb, by simp⟩ hL hW hB
              refine ⟨_, ?_, ⟨r1, r2⟩⟩
              simp [Instr.mapUpdate, run_underlying hty, MapKept.run_getObj_map h1, MapKept.run_checkKey hd i1, MapKept.run_findKey hd hrun, MapKept.run_setObj_map _ h1, Result.andThen]
            · cases hv'
          · cases h
        · cases h
      · cases h
    · cases h
  · cases h

theorem makeMap_after (hH : HRel ng g hp.heap w) : ∃ g', VRel g' (.map hp.heap.length) (.map (some w.heap.size)) ∧ After P g ng hp ⟨hp.heap ++ [.map []], hp.log⟩ w (w.alloc (.map #[] 0)) g' := by
  have hid : g hp.heap.length = none := by
    cases hg : g hp.heap.length with
    | none => rfl
    | some M => have := (hH.dom _ M hg).1; omega
  have hng : ng.n ≤ hp.heap.length := by
    rcases Nat.lt_or_ge hp.heap.length ng.n with h9 | h9
    · obtain ⟨L, hL, _⟩ := hH.glob _ h9
      rw [hid] at hL; cases hL
    · exact h9
  have := HRel.allocK hH (w0 := w) (H' := hp.heap ++ [.map []]) (k := .map []) (O := .map #[] 0) (n := 0) hid hng rfl rfl rfl rfl (by simp) (by
    intro j hj
    rcases Nat.lt_or_ge j hp.heap.length with h9 | h9
    · rw [List.getElem?_append_left h9]
    · rw [List.getElem?_append_right h9, List.getElem?_eq_none h9]
      have : j - hp.heap.length ≠ 0 := by omega
      simp [this]) (by simp) (.inl (Nat.le_refl _)) (fun hnew => ⟨_, _, [], hnew, by simp, .nil, by simp, by simp⟩)
  exact ⟨_, .map _ _ (upd_same _ _ _), this.1, this.2 (Nat.le_refl _)⟩

theorem rangeV_sound (hH : HRel ng g hp.heap w) {ty : TypeId} {b : Nat} {r : AVal} {u : Value} (h : rangeV P ty b hp = some (r, hp')) (hm : VRel g (.map b) u) :
    ∃ v w' g', (Instr.range ty u).run P w = .ok v w' ∧ VRel g' r v ∧ After P g ng hp hp' w w' g' := by
  unfold rangeV at h
  split at h
  · rename_i kt vt hty
    split at h
    · rename_i l hb
      cases h
      cases hm with
      | map _ L hL =>
      obtain ⟨M, hM, es, cl, es', h1, h2, h3, h4, h5⟩ := hH.blk b _ hb (by simp)
      rw [hL] at hM; cases hM
      have hlb : Live hp.heap b := ⟨_, hb, by simp⟩
      have hbl : b < hp.heap.length := (List.getElem?_eq_some_iff.1 hb).1
      have hid : g hp.heap.length = none := by
        cases hg : g hp.heap.length with
        | none => rfl
        | some M => have := (hH.dom _ M hg).1; omega
      have hmn : g.mp hp.heap.length = none := by
        cases hg : g.mp hp.heap.length with
        | none => rfl
        | some M => have := (hH.frz.mp _ M hg).1; omega
      have hLw := (hH.dom b L hL).2
      let X : Fm := ⟨L.blk, es, cl⟩
      let O : Obj := .mapIter (some L.blk) cl #[] cl
      let g' : Inj := ⟨fun j => if j = hp.heap.length then some ⟨w.heap.size, 0, 0⟩ else g j, g.sig, fun j => if j = hp.heap.length then some X else g.mp j⟩
      have gn : g' hp.heap.length = some ⟨w.heap.size, 0, 0⟩ := by simp [g']
      have go : ∀ j, j ≠ hp.heap.length → g' j = g j := fun j hj => by simp [g', hj]
      have mn : g'.mp hp.heap.length = some X := by simp [g']
      have mo : ∀ j, j ≠ hp.heap.length → g'.mp j = g.mp j := fun j hj => by simp [g', hj]
      have hsub : Sub g g' := ⟨fun i M hi => by rw [go i (by have := (hH.dom i M hi).1; omega)]; exact hi, rfl, fun i M hi => by rw [mo i (by have := (hH.frz.mp i M hi).1; omega)]; exact hi⟩
      have hold : ∀ k, k < w.heap.size → (w.alloc O).heap[k]? = w.heap[k]? := fun k hk => heap_alloc_old w _ hk
      have hnew : (w.alloc O).heap[w.heap.size]? = some O := heap_alloc_new w O
      have hsz : (w.alloc O).heap.size = w.heap.size + 1 := Array.size_push ..
      have hlen : (hp.heap.set b .gone ++ [Blk.iter hp.heap.length l none]).length = hp.heap.length + 1 := by simp
      have hat : ∀ i, i ≠ hp.heap.length → i ≠ b → (hp.heap.set b .gone ++ [Blk.iter hp.heap.length l none])[i]? = hp.heap[i]? := by
        intro i hi hib
        rcases Nat.lt_or_ge i hp.heap.length with h9 | h9
        · rw [List.getElem?_append_left (by simpa using h9), List.getElem?_set_ne (Ne.symm hib)]
        · rw [List.getElem?_eq_none (by rw [hlen]; omega), List.getElem?_eq_none h9]
      have hatb : (hp.heap.set b .gone ++ [Blk.iter hp.heap.length l none])[b]? = some .gone := by
        rw [List.getElem?_append_left (by simpa using hbl)]; simp [hbl]
      have hatn : (hp.heap.set b .gone ++ [Blk.iter hp.heap.length l none])[hp.heap.length]? = some (Blk.iter hp.heap.length l none) := by
        rw [List.getElem?_append_right (by simp)]; simp
      have hlv : ∀ i, i ≠ hp.heap.length → Live (hp.heap.set b .gone ++ [Blk.iter hp.heap.length l none]) i → i ≠ b ∧ Live hp.heap i := by
        rintro i hi ⟨k, hk, hne⟩
        have hib : i ≠ b := by rintro rfl; rw [hatb] at hk; cases hk; exact hne rfl
        exact ⟨hib, k, by rw [← hat i hi hib]; exact hk, hne⟩
      refine ⟨.pointer (some ⟨w.heap.size, 0, none⟩), w.alloc O, g', ?_, ?_, ?_, ?_⟩
      · exact run_range_map w ty kt vt L.blk es cl hty h1
      · exact .ptr _ 0 _ gn
      · constructor
        · intro i M hi
          by_cases hii : i = hp.heap.length
          · subst hii; rw [gn] at hi; cases hi; exact ⟨by rw [hlen]; omega, by rw [hsz]; exact Nat.lt_succ_self _⟩
          · rw [go i hii] at hi
            have := hH.dom i M hi
            exact ⟨by rw [hlen]; omega, by rw [hsz]; omega⟩
        · intro i j M N hi hj he li lj
          by_cases hii : i = hp.heap.length
          · by_cases hjj : j = hp.heap.length
            · rw [hii, hjj]
            · subst hii
              rw [gn] at hi; cases hi
              rw [go j hjj] at hj
              have := (hH.dom j N hj).2
              simp at he; omega
          · by_cases hjj : j = hp.heap.length
            · subst hjj
              rw [gn] at hj; cases hj
              rw [go i hii] at hi
              have := (hH.dom i M hi).2
              simp at he; omega
            · rw [go i hii] at hi
              rw [go j hjj] at hj
              exact hH.inj i j M N hi hj he (hlv i hii li).2 (hlv j hjj lj).2
        · intro i k hi hne
          by_cases hii : i = hp.heap.length
          · subst hii
            rw [hatn] at hi; cases hi
            refine ⟨_, gn, X, #[], es', rfl, mn, hnew, ?_, h3.mono hsub, fun k v e => by cases e⟩
            have e0 : leftOf X.es #[] = es := by unfold leftOf; exact Array.filter_eq_self.2 (by simp)
            rw [e0]; exact h2
          · obtain ⟨hib, _⟩ := hlv i hii ⟨k, hi, hne⟩
            rw [hat i hii hib] at hi
            obtain ⟨M, hM, hB⟩ := hH.blk i k hi hne
            exact ⟨M, by rw [go i hii]; exact hM, (hB.of_same (hold _ (hH.dom i M hM).2)).mono hsub⟩
        · intro i hi
          obtain ⟨M, hM, q1, q2⟩ := hH.glob i hi
          exact ⟨M, hsub.loc _ _ hM, q1, q2⟩
        · exact hH.sig
        · constructor
          · intro i Y hi hY
            obtain ⟨q1, q2⟩ := hH.frz.row i Y hi hY
            refine ⟨q1.of_same (hold _ q1.lt), fun j M hj lj he => ?_⟩
            by_cases hjj : j = hp.heap.length
            · subst hjj
              rw [gn] at hj; cases hj
              have := q1.lt
              simp at he; omega
            · rw [go j hjj] at hj
              exact q2 j M hj (hlv j hjj lj).2 he
          · intro i Y hi
            by_cases hii : i = hp.heap.length
            · subst hii
              rw [mn] at hi; cases hi
              refine ⟨by rw [hlen]; omega, ⟨by rw [hold _ hLw]; exact h1, h4, h5⟩, fun j M hj lj he => ?_⟩
              by_cases hjj : j = hp.heap.length
              · subst hjj
                rw [gn] at hj; cases hj
                simp [X] at he; omega
              · rw [go j hjj] at hj
                obtain ⟨k1, k2⟩ := hlv j hjj lj
                exact k1 (hH.inj j b M L hj hL he k2 hlb)
            · rw [mo i hii] at hi
              obtain ⟨q0, q1, q2⟩ := hH.frz.mp i Y hi
              refine ⟨by rw [hlen]; omega, q1.of_same (hold _ q1.lt), fun j M hj lj he => ?_⟩
              by_cases hjj : j = hp.heap.length
              · subst hjj
                rw [gn] at hj; cases hj
                have := q1.lt
                simp at he; omega
              · rw [go j hjj] at hj
                exact q2 j M hj (hlv j hjj lj).2 he
      · constructor
        · exact hsub
        · intro i M hi hn
          by_cases hii : i = hp.heap.length
          · subst hii; rw [gn] at hi; cases hi; exact ⟨Nat.le_refl _, .inl (Nat.le_refl _)⟩
          · rw [go i hii, hn] at hi; cases hi
        · intro i M hi hn
          by_cases hii : i = hp.heap.length
          · subst hii; rw [mn] at hi; cases hi; exact ⟨Nat.le_refl _, .inr ⟨b, L, hL, rfl, hlb⟩⟩
          · rw [mo i hii, hn] at hi; cases hi
        · rw [hlen]; omega
        · intro i hi hl
          exact (hlv i (by omega) hl).2
        · rw [hsz]; omega
        · intro k hk _; exact hold k hk
        · rfl
        · rfl
        · rfl
    · cases h
  · cases h

theorem freeze_at {w w' : World} {b n : Nat} {C : Array Value} {e : TypeId} {fr : Nat × Nat} (h : w.heap[b]? = some (.cells C e fr)) (hw : w' = w.freeze { block := b, off := n } 1) :
    w'.heap[b]? = some (.cells C e (if fr.1 == fr.2 then (n, n + 1) else (min fr.1 n, max fr.2 (n + 1)))) ∧ Wr b w w' := by
  subst hw
  obtain ⟨lo, hi⟩ := fr
  unfold World.freeze
  rw [if_neg (by decide)]
  refine ⟨?_, by simp, fun k hk => ?_, rfl, rfl, rfl⟩
  · simp only [Array.getElem?_modify, if_true, h, Option.map_some]
  · simp only [Array.getElem?_modify, if_neg (Ne.symm hk)]

theorem effA_sound (hH : HRel ng g hp.heap w) (hρ : ERel g ng t ρ) {o : Oper} {r : AVal} (h : effA P ng t o.op hp = some (r, hp')) :
    ∃ v w' g', ((execOp ρ o).run P w = .ok (.value v) w' ∨ ((execOp ρ o).run P w = .ok .skip w' ∧ v = undef)) ∧ VRel g' r v ∧ After P g ng hp hp' w w' g' := by
  obtain ⟨dst, op, type, pos, after, guard⟩ := o
  simp only at h
  unfold effA at h
  split at h
  · rename_i ty a x
    split at h
    · rename_i av xv ha hx
      split at h
      · rename_i hp2 hs
        cases h
        obtain ⟨w', h1, h2, h3⟩ := storeV_sound (P := P) hH hs (hρ a _ ha) (hρ x _ hx)
        exact ⟨undef, w', g, .inr ⟨by simp [execOp, h1], rfl⟩, .tuple _ _ .nil, h2, h3⟩
      · cases h
    · cases h
  · cases h
    obtain ⟨g', h1, h2⟩ := makeMap_after (P := P) hH
    exact ⟨_, _, g', .inl rfl, h1, h2⟩
  · rename_i ty m k x
    split at h
    · rename_i mv kv xv hm hk hx
      split at h
      · rename_i hp2 hs
        cases h
        obtain ⟨w', h1, h2⟩ := insertV_sound (P := P) hH hs (hρ m _ hm) (hρ k _ hk) (hρ x _ hx)
        exact ⟨undef, w', g, .inr ⟨by simp [execOp, h1], rfl⟩, .tuple _ _ .nil, h2⟩
      · cases h
    · cases h
  · rename_i ty m k x
    split at h
    · rename_i mv kv xv hm hk hx
      split at h
      · rename_i hp2 hs
        cases h
        obtain ⟨w', h1, h2⟩ := insertV_sound (P := P) hH hs (hρ m _ hm) (hρ k _ hk) (hρ x _ hx)
        exact ⟨undef, w', g, .inr ⟨by simp [execOp, h1], rfl⟩, .tuple _ _ .nil, h2⟩
      · cases h
    · cases h
  · rename_i ty x
    split at h
    · rename_i b hb
      obtain ⟨v, w', g', h1, h2, h3⟩ := rangeV_sound (P := P) hH h (hρ x _ hb)
      exact ⟨v, w', g', .inl (by simp [execOp, h1]), h2, h3⟩
    · cases h
  · rename_i src dst x
    split at h
    · rename_i e hsd hs
      have hsd := Nat.eq_of_beq_eq_true hsd
      subst hsd
      split at h
      · rename_i b off len cap ex he hx
        split at h
        · rename_i c e' hb
          cases h
          have hv := hρ x _ hx
          cases hu : ρ x <;> rw [hu] at hv <;> cases hv
          rename_i o' L hL h0 h1 h2
          obtain ⟨M, hM, C, fr, k1, k2, k3, k4, k5⟩ := hH.blk b _ hb (by simp)
          rw [hL] at hM; cases hM
          have hsh : w.shape? L.blk = some (e', C.size) := by simp [World.shape?, k1]
          obtain ⟨w', hw'⟩ : ∃ w', w' = w.freeze { block := L.blk, off := C.size } 1 := ⟨_, rfl⟩
          have hfz := freeze_at k1 hw'
          have hrun : ∀ cap0, (convert src src (.slice (some ⟨L.blk, L.dl + o', none⟩) len cap0)).run P w = .ok (.slice (some ⟨L.blk, L.dl + o', none⟩) len cap0) w' := by
            intro cap0
            rw [hw']
            simp [convert, run_underlying hs, run_underlying he, markStringish, hsh]
          obtain ⟨q1, q2⟩ := HRel.writeK hH (k' := .cells c e') ⟨_, hb, by simp⟩ hL hfz.2 ⟨C, _, hfz.1, k2, k3.freeze, k4, k5⟩
          have hset : hp.heap.set b (.cells c e') = hp.heap := by
            apply List.ext_getElem?
            intro m
            by_cases hm : m = b
            · subst hm
              rw [List.getElem?_set_self (List.getElem?_eq_some_iff.1 hb).1, hb]
            · rw [List.getElem?_set_ne (Ne.symm hm)]
          rw [hset] at q1 q2
          exact ⟨_, w', g, .inl (by simp only [execOp, hu, hrun, Sem.run_bind, Result.andThen_ok, Sem.run_pure]), .slice b off len cap ex o' _ L hL h0 h1 h2, q1, q2⟩
        · cases h
      · cases h
    · cases h
  · rename_i c
    split at h
    · rename_i hc
      split at h
      · rename_i l hl
        split at h
        · rename_i q hq
          cases h
          obtain ⟨v, w', g', h1, h2, h3⟩ := appendA_sound (P := P) (ty := type) (m := c.args.map ρ) hH hq (by simpa using evL_rel hρ _ _ hl)
          exact ⟨v, w', g', .inl (by simp [execOp, resolve, hc, invoke, builtin, h1]), h2, h3⟩
        · obtain ⟨v, w', g', h1, h2, h3⟩ := appendZ_sound (P := P) (ty := type) (m := c.args.map ρ) hH h (by simpa using evL_rel hρ _ _ hl)
          exact ⟨v, w', g', .inl (by simp [execOp, resolve, hc, invoke, builtin, h1]), h2, h3⟩
      · cases h
    · rename_i hc
      split at h
      · rename_i l hl
        obtain ⟨v, w', h1, h2, h3⟩ := copyA_sound (P := P) (ty := type) (m := c.args.map ρ) hH h (by simpa using evL_rel hρ _ _ hl)
        exact ⟨v, w', g, .inl (by simp [execOp, resolve, hc, invoke, builtin, h1]), h2, h3⟩
      · cases h
    · cases h
  · cases h

theorem set_touchK {hp : Hp} {b : Nat} {k : Blk} (hb : Live hp.heap b) (hl : ∀ la : LoopA, k = Blk.loop la → ∃ l0, hp.heap[b]? = some (Blk.loop l0) ∧ sameLoop l0 la) : Touch hp ⟨hp.heap.set b k, b :: hp.log⟩ :=
  ⟨by simp, ⟨[b], rfl, fun i _ hn => by simp at hn; exact List.getElem?_set_ne (fun e => hn e.symm)⟩, fun i _ ⟨k', hk, hne⟩ => by
    simp only [List.getElem?_set] at hk
    split at hk
    · rename_i hbi; subst hbi; exact hb
    · exact ⟨k', hk, hne⟩, fun i la hi hla => by
    simp only [List.getElem?_set] at hla
    split at hla
    · rename_i hbi
      subst hbi
      split at hla
      · exact hl la (Option.some.inj hla)
      · rename_i h9; exact absurd hi h9
    · exact ⟨la, hla, rfl, rfl, rfl, rfl, rfl⟩⟩

theorem set_touch {hp : Hp} {b : Nat} {k : Blk} {c : List AVal} {e : TypeId} (hb : hp.heap[b]? = some (.cells c e)) (hk : ∀ la : LoopA, k ≠ Blk.loop la := by intro la h; cases h) : Touch hp ⟨hp.heap.set b k, b :: hp.log⟩ := set_touchK ⟨_, hb, by simp⟩ (fun la h => absurd h (hk la))

theorem insertV_touch {ty : TypeId} {m k v : AVal} (h : insertV P ty m k v hp = some hp') : Touch hp hp' := by
  unfold insertV at h
  split at h
  · split at h
    · split at h
      · split at h
        · rename_i l hb
          split at h
          · cases h; exact set_touchK ⟨_, hb, by simp⟩ (fun la h => by cases h)
          · cases h
        · cases h
      · cases h
    · cases h
  · cases h

theorem app_touch {hp : Hp} {k : Blk} : Touch hp ⟨hp.heap ++ [k], hp.log⟩ :=
  ⟨by simp, ⟨[], rfl, fun i hi _ => List.getElem?_append_left hi⟩, fun i hi ⟨k', hk, hne⟩ => ⟨k', by simpa only [List.getElem?_append_left hi] using hk, hne⟩, fun i la hi hl => ⟨la, by simpa only [List.getElem?_append_left hi] using hl, rfl, rfl, rfl, rfl, rfl⟩⟩

theorem appendA_touch {P : Program} {ts : List TypeId} {l : List AVal} {hp hp' : Hp} {r : AVal} (h : appendA P ts l hp = some (r, hp')) : Touch hp hp' := by
  unfold appendA at h
  split at h
  · split at h
    · split at h
      · split at h
        · split at h
          · unfold appendTo at h
            split at h
            · split at h
              · cases h; exact Touch.refl _
              · split at h
                · cases h; exact app_touch
                · cases h
            · split at h
              · split at h
                · cases h; exact Touch.refl _
                · split at h
                  · split at h
                    · cases h; exact set_touch (by assumption)
                    · cases h
                  · cases h
              · split at h
                · split at h
                  · split at h
                    · cases h; exact app_touch
                    · split at h
                      · split at h
                        · cases h; exact Touch.trans (set_touch (by assumption)) app_touch
                        · cases h
                      · cases h
                  · cases h
                · cases h
            · cases h
          · cases h
        · cases h
      · cases h
    · cases h
  · cases h

theorem appendZ_touch {P : Program} {ts : List TypeId} {l : List AVal} {hp hp' : Hp} {r : AVal} (h : appendZ P ts l hp = some (r, hp')) : Touch hp hp' := by
  unfold appendZ at h
  split at h
  · split at h
    · split at h
      · split at h
        · split at h
          · cases h; exact app_touch
          · cases h
        · cases h
      · cases h
    · cases h
  · cases h

theorem effA_touch {o : Op} {r : AVal} (h : effA P ng t o hp = some (r, hp')) : Touch hp hp' := by
  unfold effA at h
  split at h
  · split at h
    · split at h
      · rename_i hs
        cases h
        unfold storeV at hs
        split at hs
        · split at hs
          · split at hs
            · split at hs
              · split at hs
                · cases hs; exact set_touch (by assumption)
                · cases hs
              · cases hs
            · cases hs
          · cases hs
        · cases hs
      · cases h
    · cases h
  · cases h; exact app_touch
  · split at h
    · split at h
      · rename_i hs; cases h; exact insertV_touch hs
      · cases h
    · cases h
  · split at h
    · split at h
      · rename_i hs; cases h; exact insertV_touch hs
      · cases h
    · cases h
  · split at h
    · unfold rangeV at h
      split at h
      · split at h
        · rename_i hb
          cases h
          exact Touch.trans (set_touchK (k := .gone) ⟨_, hb, by simp⟩ (fun la h => by cases h)) app_touch
        · cases h
      · cases h
    · cases h
  · split at h
    · split at h
      · split at h
        · cases h
          exact ⟨Nat.le_refl _, ⟨[_], rfl, fun _ _ _ => rfl⟩, fun _ _ h => h, fun _ la _ h => ⟨la, h, rfl, rfl, rfl, rfl, rfl⟩⟩
        · cases h
      · cases h
    · cases h
  · split at h
    · split at h
      · split at h
        · rename_i hq
          cases h
          exact appendA_touch hq
        · exact appendZ_touch h
      · cases h
    · split at h
      · unfold copyA at h
        split at h
        · split at h
          · split at h
            · split at h
              · split at h
                · cases h; exact Touch.refl _
                · split at h
                  · cases h; exact Touch.refl _
                  · split at h
                    · split at h
                      · cases h; exact set_touch (by assumption)
                      · cases h
                    · cases h
                · cases h
              · cases h
            · cases h
          · cases h
        · cases h
      · cases h
    · cases h
  · cases h

theorem Step.touch {ops : List Oper} {o : Oper} {v : AVal} (h : Step P ng ops o t hp v hp') : Touch hp hp' := by
  cases h with
  | skip => exact Touch.refl _
  | pure => exact Touch.refl _
  | load => exact Touch.refl _
  | fresh => exact app_touch
  | eff _ _ _ h => exact effA_touch h
  | call _ _ _ _ _ _ _ _ h => exact h.touch

theorem TRel.put {a : Act} (h : TRel g t a) (d : Option Tmp) {v : AVal} {u : Value} (hv : VRel g v u) : TRel g (putA t d v) (a.put d u) := by
  cases d with
  | none => exact h
  | some d =>
    refine ⟨by simpa [putA, Act.put] using h.1, ?_⟩
    intro i x hi
    simp only [putA] at hi
    have hlt := Tm.get_lt hi
    rcases TT.get_put _ _ _ _ _ (Tm.get_tr hi) with ⟨rfl, rfl⟩ | ⟨hdi, hi⟩
    · refine ⟨u, ?_, hv⟩
      have hlt' := Nat.lt_of_lt_of_le hlt h.1
      simp [Act.put, hlt']
    · obtain ⟨y, h1, h2⟩ := h.2 i x (Tm.get_of hi hlt)
      refine ⟨y, ?_, h2⟩
      simp only [Act.put]
      rw [Array.getElem?_setIfInBounds_ne (Ne.symm hdi)]
      exact h1

theorem wantedA_spec {ops : Array Oper} {o : Oper} {a : Act} {b : Bool} (hg0 : ng.Good g.sig) (h : wantedA ng ops.toList t o = some b) (ht : TRel g t a) : Region.wanted o (yielded ops a.tmps) = b := by
  unfold wantedA at h
  unfold Region.wanted
  split at h
  · rename_i hg; cases h; rw [hg]
  · rename_i j want hg
    rw [hg]
    simp only
    unfold yielded
    split at h
    · rename_i hj
      cases h
      have : ops[j]? = none := by simpa using hj
      simp [this]
    · rename_i q hq
      have hq' : ops[j]? = some q := by simpa using hq
      split at h
      · rename_i hd
        cases h
        simp [hq', hd]
      · rename_i d hd
        split at h
        · cases h
        · rename_i v hv
          obtain ⟨u, h1, h2⟩ := ht.2 d _ hv
          have h2 := factV_rel hg0 h2
          simp only [hq', hd, Option.bind_some, h1]
          split at h
          · rename_i bb hb
            cases h
            rw [hb] at h2
            cases h2
            cases bb <;> cases want <;> rfl
          · cases h
          · cases h
          · rename_i hne hns hnj
            cases h
            generalize factV ng v = x at h2 hne hns hnj
            cases h2 <;> first | rfl | (exact absurd rfl (hne _)) | (exact absurd rfl (hns _)) | (exact absurd rfl hnj)

theorem callFunc_run {f : FuncId} {fn : Func} (hf : P.funcs[f]? = some fn) (hb : fn.body.isSome = true) (hn : ¬ (fn.name == "runtime.NumGoroutine") = true) (args : Array Value) (w : World) :
    (callFunc f args).run P w = .ok (.enter f args) w := by
  have hb' : fn.body.isNone = false := by cases h : fn.body <;> simp [h] at hb ⊢
  simp only [callFunc, Sem.run_bind, run_program, Result.andThen_ok, hf]
  rw [if_neg hn, hb']
  simp

/-- A place of the evaluator's, in the model. -/
def PRel (g : Inj) (x : PlaceA) (y : Place) : Prop :=
  match x, y with
  | .val v, .val u => VRel g v u
  | .var b off, .var a => VRel g (.ptr b off) (.pointer (some a))
  | _, _ => False

theorem fieldPlace_run {f : Field} {i : TypeInfo} {b off : Nat} {a : Addr} (hi : P.info? f.type = some i) (h0 : ¬ i.size = 0) (ha : VRel g (.ptr b off) (.pointer (some a))) :
    ∃ a', (fieldPlace a f).run P w = .ok a' w ∧ VRel g (.ptr b (off + f.offset)) (.pointer (some a')) := by
  cases ha with
  | ptr _ _ L hL =>
    refine ⟨⟨L.blk, L.dl + (off + f.offset), none⟩, ?_, .ptr _ _ L hL⟩
    simp [fieldPlace, run_sizeOf' w hi, h0, addr_add, Nat.add_assoc]

theorem followA_run : ∀ {l : List FieldStep} {t : TypeId} {x : PlaceA} {y : Place} {t' : TypeId} {x' : PlaceA}, followA P l t x = some (t', x') → PRel g x y →
    ∃ y', (follow l t y).run P w = .ok (t', y') w ∧ PRel g x' y'
  | [], _, _, y, _, _, h, hy => by simp only [followA] at h; cases h; exact ⟨y, by simp [follow], hy⟩
  | s :: rest, t, x, y, t', x', h, hy => by
    simp only [followA] at h
    split at h
    · rename_i fields hu
      split at h
      · rename_i f hf
        split at h
        · rename_i d i hd hi
          split at h
          · rename_i hs
            split at h
            · rename_i b off
              split at h
              · cases h
              · rename_i h0
                cases y with
                | var a => exact hy.elim
                | val u =>
                  have hy' : VRel g (.ptr b off) u := hy
                  cases hy' with
                  | ptr _ _ L hL =>
                    obtain ⟨a', k1, k2⟩ := fieldPlace_run (P := P) (w := w) (f := f) hi h0 (.ptr b off L hL)
                    obtain ⟨y', k3, k4⟩ := followA_run (y := .var a') h k2
                    exact ⟨y', by simp [follow, run_underlying hu, hf, hs, Place.get, asAddr, k1, k3], k4⟩
            · cases h
          · rename_i hs
            split at h
            · rename_i b off
              split at h
              · cases h
              · rename_i h0
                cases y with
                | val a => exact hy.elim
                | var a =>
                  obtain ⟨a', k1, k2⟩ := fieldPlace_run (P := P) (w := w) (f := f) hi h0 hy
                  obtain ⟨y', k3, k4⟩ := followA_run (y := .var a') h k2
                  exact ⟨y', by simp [follow, run_underlying hu, hf, hs, k1, k3], k4⟩
            · rename_i cs
              split at h
              · rename_i v hv
                cases y with
                | var a => exact hy.elim
                | val u =>
                  have hy' : VRel g (.agg cs) u := hy
                  cases hy' with
                  | agg _ C hC =>
                    obtain ⟨u', k1, k2⟩ := run_partA (P := P) w ⟨d, hd⟩ hv hC
                    obtain ⟨y', k3, k4⟩ := followA_run (y := .val u') h k2
                    exact ⟨y', by simp [follow, run_underlying hu, hf, hs, k1, k3], k4⟩
              · cases h
            · cases h
        · cases h
      · cases h
    · cases h

theorem receiverA_run {xt : TypeId} {x : PlaceA} {y : Place} {pr : Bool} {r : AVal} (wr : Option String) (h : receiverA P xt x pr = some r) (hy : PRel g x y) :
    ∃ u, (receiverAt xt y pr wr).run P w = .ok u w ∧ VRel g r u := by
  unfold receiverA at h
  split at h
  · rename_i d hu
    split at h
    · cases h
      cases y with
      | var a => exact hy.elim
      | val u => exact ⟨u, by simp [receiverAt, run_underlying hu, Place.get], hy⟩
    · cases h
  · rename_i d hne hu
    split at h
    · cases h
      cases y with
      | val a => exact hy.elim
      | var a =>
        refine ⟨.pointer (some a), ?_, hy⟩
        cases d <;> first | exact absurd rfl (hne _) | simp [receiverAt, run_underlying hu]
    · cases h
      cases y with
      | var a => exact hy.elim
      | val u =>
        refine ⟨u, ?_, hy⟩
        cases d <;> first | exact absurd rfl (hne _) | simp [receiverAt, run_underlying hu, Place.get]
    · cases h
  · cases h

theorem methodA_run {name : String} : ∀ {n : Nat} {t : TypeId} {v r : AVal} {u : Value} {f : FuncId}, methodA P n t v name = some (f, r) → VRel g v u →
    ∃ q, (method n t u name).run P w = .ok (f, q) w ∧ VRel g r q
  | 0, _, _, _, _, _, h, _ => by simp [methodA] at h
  | n + 1, t, v, r, u, f, h, hv => by
    simp only [methodA] at h
    split at h
    · rename_i info hi
      split at h
      · rename_i m hm
        split at h
        · rename_i xt x hf
          obtain ⟨y, k1, k2⟩ := followA_run (w := w) (y := .val u) hf hv
          split at h
          · rename_i k pr hmf
            split at h
            · rename_i r' hr
              cases h
              obtain ⟨q, k3, k4⟩ := receiverA_run (w := w) (if m.path.isEmpty then some ((name.splitOn ".").getLastD name) else none) hr k2
              refine ⟨q, ?_, k4⟩
              simp only [method, Sem.run_bind, typeInfo, run_program, Result.andThen_ok, hi, hm, k1, hmf, Sem.run_pure]
              rw [k3]
              rfl
            · cases h
          · rename_i hmf
            split at h
            · rename_i t' v'
              cases y with
              | var a => exact k2.elim
              | val u' =>
                have k2' : VRel g (.iface t' v') u' := k2
                cases k2' with
                | iface _ _ q hq =>
                  obtain ⟨q', k3, k4⟩ := methodA_run h hq
                  refine ⟨q', ?_, k4⟩
                  simp only [method, Sem.run_bind, typeInfo, run_program, Result.andThen_ok, hi, hm, k1, hmf, Sem.run_pure, Place.get]
                  exact k3
            · cases h
        · cases h
      · cases h
    · cases h

theorem enterA_run {k f : FuncId} {args args' : List AVal} (h : enterA P k args = some (f, args')) (m : Array Value) : (callFunc k m).run P w = .ok (.enter f m) w ∧ args' = args := by
  unfold enterA at h
  split at h
  · rename_i fn hfn
    split at h
    · rename_i hc
      cases h
      exact ⟨callFunc_run hfn hc.1 hc.2 m w, rfl⟩
    · cases h
  · cases h

theorem callMethod_run {name : String} {ty : TypeId} {v r : AVal} {u : Value} {k f : FuncId} {rest args' : List AVal} {m : Array Value} (h : methodA P (P.types.size + Made.depth) ty v name = some (k, r)) (hv : VRel g v u)
    (he : enterA P k (r :: rest) = some (f, args')) (hm : LRel g rest m.toList) : ∃ q : Array Value, (callMethod (.iface ty u) name m).run P w = .ok (.enter f q) w ∧ LRel g args' q.toList := by
  obtain ⟨q, k1, k2⟩ := methodA_run (w := w) h hv
  obtain ⟨k3, rfl⟩ := enterA_run (w := w) he (#[q] ++ m)
  refine ⟨#[q] ++ m, ?_, by simpa using LRel.cons _ _ _ _ k2 hm⟩
  simp only [callMethod, Sem.run_bind, run_program, Result.andThen_ok, k1]
  exact k3

theorem resolveA_sound {c : Call} {type : TypeId} {f : FuncId} {args : List AVal} (hρ : ERel g ng t ρ) (h : resolveA P ng t c = some (f, args)) :
    ∃ args' : Array Value, (do let d ← resolve ρ c type; invoke d.target d.args : Sem Next).run P w = .ok (.enter f args') w ∧ LRel g args args'.toList := by
  unfold resolveA at h
  split at h
  · rename_i fo hc
    split at h
    · rename_i k first cap l hf hl
      have h1 := hρ fo _ hf
      cases hh : ρ fo <;> rw [hh] at h1 <;> cases h1
      rename_i first' cap' hfirst hcap
      obtain ⟨k1, rfl⟩ := enterA_run (w := w) h (first' ++ c.args.map ρ ++ cap')
      refine ⟨first' ++ c.args.map ρ ++ cap', ?_, ?_⟩
      · simp [resolve, hc, hh, Deferred.ofValue, invoke] at k1 ⊢
        exact k1
      · have := (hfirst.append (evL_rel hρ _ _ hl)).append hcap
        simpa using this
    · rename_i ty path k pr first cap l hf hl
      have h1 := hρ fo _ hf
      cases hh : ρ fo <;> rw [hh] at h1 <;> cases h1
      rename_i first' cap' hfirst hcap
      have hall := hfirst.append (evL_rel hρ _ _ hl)
      split at h
      · rename_i x rest hx
        rw [hx] at hall
        have e1 : first'.toList ++ c.args.toList.map ρ = (first' ++ c.args.map ρ).toList := by simp
        cases hall2 : (first'.toList ++ c.args.toList.map ρ) with
        | nil => rw [hall2] at hall; cases hall
        | cons u us =>
          rw [hall2] at hall
          cases hall with
          | cons _ _ _ _ hxu hrest =>
            split at h
            · rename_i xt y hfo
              split at h
              · rename_i r hr
                obtain ⟨y', k1, k2⟩ := followA_run (w := w) (y := .val u) hfo hxu
                obtain ⟨q, k3, k4⟩ := receiverA_run (w := w) none hr k2
                have e2 : first' ++ c.args.map ρ = (u :: us).toArray := by rw [← hall2]; simp
                obtain ⟨k5, rfl⟩ := enterA_run (w := w) h (#[q] ++ us.toArray)
                refine ⟨#[q] ++ us.toArray, ?_, by simpa using LRel.cons _ _ _ _ k4 hrest⟩
                have e3 : (u :: us).toArray.extract 1 (us.length + 1) = us.toArray := by simp
                simp only [resolve, hc, hh, Deferred.ofValue, Sem.run_bind, Sem.run_pure, Result.andThen_ok, invoke, e2]
                simp only [List.getElem?_toArray, List.getElem?_cons_zero, receiverVia, Sem.run_bind, k1, Result.andThen_ok, k3]
                simpa using k5
              · cases h
            · cases h
      · cases h
    · rename_i name first cap l hf hl
      have h1 := hρ fo _ hf
      cases hh : ρ fo <;> rw [hh] at h1 <;> cases h1
      rename_i first' cap' hfirst hcap
      have hall := hfirst.append (evL_rel hρ _ _ hl)
      split at h
      · rename_i ty v rest hx
        rw [hx] at hall
        cases hall2 : (first'.toList ++ c.args.toList.map ρ) with
        | nil => rw [hall2] at hall; cases hall
        | cons u us =>
          rw [hall2] at hall
          cases hall with
          | cons _ _ _ _ hxu hrest =>
            cases hxu with
            | iface _ _ v' hv' =>
            split at h
            · rename_i k r hm
              obtain ⟨q, k1, k2⟩ := callMethod_run (w := w) (m := us.toArray) hm hv' h (by simpa using hrest)
              have e2 : first' ++ c.args.map ρ = (Value.iface ty v' :: us).toArray := by rw [← hall2]; simp
              refine ⟨q, ?_, k2⟩
              simp only [resolve, hc, hh, Deferred.ofValue, Sem.run_bind, Sem.run_pure, Result.andThen_ok, invoke, e2]
              simpa using k1
            · cases h
      · cases h
    · cases h
  · rename_i x name hc
    split at h
    · rename_i ty v l hx hl
      split at h
      · rename_i k r hm
        have h1 := hρ x _ hx
        cases hh : ρ x <;> rw [hh] at h1 <;> cases h1
        rename_i v' hv'
        obtain ⟨q, k1, k2⟩ := callMethod_run (w := w) (m := c.args.map ρ) hm hv' h (by simpa using evL_rel hρ _ _ hl)
        refine ⟨q, ?_, k2⟩
        have e1 : (#[Value.iface ty v'] ++ c.args.map ρ)[0]? = some (.iface ty v') := by simp [Array.getElem?_append]
        have e2 : (#[Value.iface ty v'] ++ c.args.map ρ).extract 1 (#[Value.iface ty v'] ++ c.args.map ρ).size = c.args.map ρ := by
          apply Array.ext'
          simp
          exact List.take_of_length_le (by simp)
        simp only [resolve, hc, hh, Sem.run_bind, Sem.run_pure, Result.andThen_ok, invoke, e1, e2]
        exact k1
      · cases h
    · cases h
  · cases h

/-- The fence that bars nothing, in a round or not. -/
def FR (r : Option Nat) : Fence := { Fence.wide with round := r }

theorem callsIn_FR {r : Option Nat} {n : Nat} {P : Program} {f : FuncId} {args : Array Value} {w : World} {R : Ending → World → Prop} (h : Calls P f args w R) : CallsIn (FR r) n P f args w R :=
  (callsIn_wide.2 h : CallsIn Fence.wide n P f args w R)

theorem calls_FR {r : Option Nat} {n : Nat} {P : Program} {f : FuncId} {args : Array Value} {w : World} {R : Ending → World → Prop} (h : CallsIn (FR r) n P f args w R) : Calls P f args w R :=
  callsIn_wide.1 (show CallsIn Fence.wide n P f args w R from h)

theorem pure_nodefer {ops : Op} {v : AVal} (h : pureA P ng t ops = some v) (c : Call) : ops ≠ .defer c := by
  rintro rfl; simp [pureA] at h
theorem load_nodefer {ops : Op} {v : AVal × Option Nat} {H : List Blk} (h : loadA P ng t ops H = some v) (c : Call) : ops ≠ .defer c := by
  rintro rfl; simp [loadA] at h
theorem fresh_nodefer {ops : Op} {v : List AVal × TypeId × Mk} (h : freshA P ng t ops = some v) (c : Call) : ops ≠ .defer c := by
  rintro rfl; simp [freshA] at h
theorem eff_nodefer {ops : Op} {v : AVal × Hp} {hp : Hp} (h : effA P ng t ops hp = some v) (c : Call) : ops ≠ .defer c := by
  rintro rfl; simp [effA] at h

/-- A step, in the model: under whatever follows it. -/
theorem Step.wp {r : Option Nat} {ops : Array Oper} {o : Oper} {v : AVal} {a : Act} {K : Act → World → Prop} {Q : Exit → Act → World → Prop} (h : Step P ng ops.toList o t hp v hp') (hH : HRel ng g hp.heap w) (ht : TRel g t a)
    (hK : ∀ g' u w', VRel g' v u → HRel ng g' hp'.heap w' → Ext g hp.heap w g' hp'.heap w' → K (a.put o.dst u) w') :
    if Region.wanted o (yielded ops a.tmps) then o.wpIn (FR r) 0 P a w K Q else (∀ f, o.about P w a.eval = some f → (FR r).fn f) ∧ K (a.put o.dst undef) w := by
  have hρ : ERel g ng t a.eval := ⟨fun x v hv => ht.eval hH.sig hH.glob hv, hH.sig⟩
  cases h with
  | skip hw => rw [wantedA_spec hH.sig hw ht]; exact ⟨fun _ _ => trivial, hK g undef w (.tuple _ _ .nil) hH (Ext.refl _ _ _)⟩
  | pure v hw h =>
    rw [wantedA_spec hH.sig hw ht, if_pos rfl]
    obtain ⟨u, h1, h2⟩ := pureA_sound (P := P) w hρ h
    refine ⟨fun _ _ => trivial, ?_⟩
    rw [Oper.semAt_eq _ _ _ (pure_nodefer h), h1]
    exact hK g u w h2 hH (Ext.refl _ _ _)
  | load v b hw h =>
    rw [wantedA_spec hH.sig hw ht, if_pos rfl]
    obtain ⟨u, h1, h2⟩ := loadA_sound (P := P) hH hρ h
    refine ⟨fun _ _ => trivial, ?_⟩
    rw [Oper.semAt_eq _ _ _ (load_nodefer h), h1]
    exact hK g u w h2 hH (Ext.refl _ _ _)
  | fresh c e m hw h =>
    rw [wantedA_spec hH.sig hw ht, if_pos rfl]
    obtain ⟨u, C, fr, w0, hF⟩ := freshA_sound (P := P) (g := g) (w := w) hρ h
    refine ⟨fun _ _ => trivial, ?_⟩
    rw [Oper.semAt_eq _ _ _ (fresh_nodefer h), hF.run]
    have hid : g hp.heap.length = none := by
      cases hg : g hp.heap.length with
      | none => rfl
      | some M => have := (hH.dom _ M hg).1; omega
    have hng : ng.n ≤ hp.heap.length := by
      rcases Nat.lt_or_ge hp.heap.length ng.n with h9 | h9
      · obtain ⟨L, hL, _⟩ := hH.glob _ h9
        rw [hid] at hL; cases hL
      · exact h9
    have := HRel.alloc hH (H' := hp.heap ++ [.cells c e]) hid hng (c := c) (e := e) (C := C) (fr := fr) hF.heap hF.os hF.tape hF.output (by simp) (by
      intro j hj
      rcases Nat.lt_or_ge j hp.heap.length with h9 | h9
      · rw [List.getElem?_append_left h9]
      · rw [List.getElem?_append_right h9, List.getElem?_eq_none h9]
        have : j - hp.heap.length ≠ 0 := by omega
        simp [this]) (by simp) (.inl (Nat.le_refl _)) hF.fr hF.len hF.rel
    exact hK _ u _ (hF.val _ _ (upd_same _ _ _)) this.1 (this.2 (Nat.le_refl _))
  | eff v _ hw h =>
    rw [wantedA_spec hH.sig hw ht, if_pos rfl]
    obtain ⟨u, w', g', h1, h2, h3⟩ := effA_sound (P := P) hH hρ h
    refine ⟨fun _ _ => trivial, ?_⟩
    rw [Oper.semAt_eq _ _ _ (eff_nodefer h)]
    rcases h1 with h1 | ⟨h1, rfl⟩
    · rw [h1]
      exact hK g' u w' h2 h3.rel h3.ext
    · rw [h1]
      exact hK g' _ w' h2 h3.rel h3.ext
  | call c f args v _ hw hop hres hcall =>
    rw [wantedA_spec hH.sig hw ht, if_pos rfl]
    obtain ⟨args', h1, h2⟩ := resolveA_sound (P := P) (w := w) (type := o.type) hρ hres
    have h1' : (execOp a.eval o).run P w = .ok (.enter f args') w := by
      obtain ⟨dst, op, type, pos, after, guard⟩ := o
      simp only at hop h1
      subst hop
      exact h1
    refine ⟨fun _ _ => trivial, ?_⟩
    rw [Oper.semAt_eq _ _ _ (by intro c'; rw [hop]; intro h; cases h), h1']
    refine ⟨fun h => (by cases h), callsIn_FR ((hcall.calls g w args' hH h2).mono ?_)⟩
    rintro e w' ⟨g', ⟨u, rfl, hu⟩, hH', hE⟩
    exact hK g' u w' hu hH' hE
end

end Go.Ev
