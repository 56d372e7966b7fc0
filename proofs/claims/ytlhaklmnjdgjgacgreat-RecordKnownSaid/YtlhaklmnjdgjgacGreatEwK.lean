/- A region that draws its order: whatever the order, what the text's order gives. -/
import Derived.Test.YtlhaklmnjdgjgacGreatEwJ
namespace Go.Ev

inductive DK where
  | lite
  | load (b : Option Nat)
  | fresh (id : Nat) (c : List AVal) (e : TypeId)
  | eff (pre : List Nat)
  | mk (x : Nat)      -- a map, that operations of this region fill, and that none of them reads
  | ins (x : Nat) (d : TypeDesc) (k v : AVal)

def DK.isEff : DK → Prop
  | .eff _ => True
  | _ => False

def Lite (P : Program) (ng : Cx) (ops : List Oper) (o : Oper) (t : Tm) (v : AVal) : Prop :=
  (wantedA ng ops t o = some false ∧ v = undefA) ∨ (wantedA ng ops t o = some true ∧ pureA P ng t o.op = some v)

/-- x is the slot of a new block that is not ahead of i by its edges. -/
def Masked (kd : Nat → DK) (anc : Nat → Nat → Prop) (i x : Nat) : Prop := (∃ j c e, j < i ∧ kd j = .fresh x c e ∧ ¬ anc i j) ∨ ∃ j, j < i ∧ kd j = .mk x

/-- An entry that is laid into a map. -/
def InsA (P : Program) (ng : Cx) (t : Tm) (op : Op) (x : Nat) (d : TypeDesc) (k v : AVal) : Prop :=
  ∃ ty m k' v' kt vt u, op = .insert ty m k' v' ∧ P.underlying ty = some (.map kt vt) ∧ P.underlying kt = some d ∧ ev ng t m = some (.map x) ∧ ev ng t k' = some k ∧ ev ng t v' = some v ∧ keyA d k = some u

/-- The run of a region in the text's order, and what makes each other order the same. -/
structure DTr (P : Program) (ng : Cx) (ops : Array Oper) (r0 : Nat) (tm tr : Nat → Tm) (hp : Nat → Hp) (val : Nat → AVal) (kd : Nat → DK) (anc : Nat → Nat → Prop) : Prop where
  le0 : r0 ≤ (hp 0).heap.length
  kdn : ∀ j, ops.size ≤ j → kd j = .lite
  edge : ∀ (i : Nat) (o : Oper), ops[i]? = some o → ∀ e, e ∈ o.after → Region.binds .any e = true → e.on < i
  ancI : ∀ i j, anc i j → ∃ o : Oper, ops[i]? = some o ∧ ∃ e, e ∈ o.after ∧ Region.binds .any e = true ∧ (e.on = j ∨ anc e.on j)
  dst : ∀ (i j : Nat) (x y : Oper) (d : Nat), ops[i]? = some x → ops[j]? = some y → x.dst = some d → y.dst = some d → i = j
  reads : ∀ (i d : Nat) (v : AVal), i < ops.size → (tr i).get d = some v → (tm i).get d = some v ∧ ∀ (j : Nat) (y : Oper), ops[j]? = some y → y.dst = some d → j ≠ i → anc i j ∨ anc j i
  trl : ∀ i, (tr i).len = (tm i).len
  effs : ∀ i j, i < j → (kd i).isEff → (kd j).isEff → anc j i
  loads : ∀ i b j pre, kd i = .load (some b) → kd j = .eff pre → ¬ anc i j → ¬ anc j i → b ∉ pre
  tmS : ∀ (i : Nat) (o : Oper), ops[i]? = some o → tm (i + 1) = putA (tm i) o.dst (val i)
  uniq : ∀ i j x c e c' e', kd i = .fresh x c e → kd j = .fresh x c' e' → i = j
  uniqM : ∀ i j x, kd i = .mk x → kd j = .mk x → i = j
  apart : ∀ i j x c e, kd i = .mk x → kd j ≠ .fresh x c e
  loadsM : ∀ i j b, kd i = .load (some b) → kd j ≠ .mk b
  insM : ∀ i x d k v, kd i = .ins x d k v → ∃ j, kd j = .mk x ∧ anc i j
  keys : ∀ i j x d k v d' k' v', i ≠ j → kd i = .ins x d k v → kd j = .ins x d' k' v' → (∃ u, keyA d k' = some u) ∧ sameA k' k = false
  step : ∀ (i : Nat) (o : Oper), ops[i]? = some o → match kd i with
    | .mk x => wantedA ng ops.toList (tr i) o = some true ∧ (∃ ty, o.op = .makeMap ty none) ∧ val i = .map x ∧ r0 ≤ x ∧ (hp 0).heap[x]? = some .gone ∧ hp (i + 1) = ⟨(hp i).heap.set x (.map []), (hp i).log⟩
    | .ins x d k v => wantedA ng ops.toList (tr i) o = some true ∧ InsA P ng (tr i) o.op x d k v ∧ val i = undefA ∧ ∃ l, (hp i).heap[x]? = some (.map l) ∧ hp (i + 1) = ⟨(hp i).heap.set x (.map (l ++ [(k, v)])), (hp i).log⟩
    | .lite => hp (i + 1) = hp i ∧ Lite P ng ops.toList o (tr i) (val i)
    | .load b => hp (i + 1) = hp i ∧ wantedA ng ops.toList (tr i) o = some true ∧ loadA P ng (tr i) o.op (hp i).heap = some (val i, b)
    | .fresh x c e => wantedA ng ops.toList (tr i) o = some true ∧ (∃ m, freshA P ng (tr i) o.op = some (c, e, m) ∧ val i = m.val x) ∧ r0 ≤ x ∧ (hp 0).heap[x]? = some .gone ∧
        hp (i + 1) = ⟨(hp i).heap.set x (.cells c e), (hp i).log⟩
    | .eff pre => ∃ hm hm', Step P ng ops.toList o (tr i) hm (val i) hm' ∧ hm.heap.length = (hp i).heap.length ∧ (∀ x, Masked kd anc i x → hm.heap[x]? = some .gone) ∧
        (∀ x, ¬ Masked kd anc i x → hm.heap[x]? = (hp i).heap[x]?) ∧ (hp (i + 1)).heap.length = hm'.heap.length ∧ (∀ x, Masked kd anc i x → (hp (i + 1)).heap[x]? = (hp i).heap[x]?) ∧
        (∀ x, ¬ Masked kd anc i x → (hp (i + 1)).heap[x]? = hm'.heap[x]?) ∧ (∀ x, x < hm.heap.length → x ∉ pre → hm'.heap[x]? = hm.heap[x]?)

theorem le_ind {p : Nat} {C : Nat → Prop} (h0 : C p) (h1 : ∀ i, p ≤ i → C i → C (i + 1)) : ∀ i, p ≤ i → C i := by
  intro i hi
  obtain ⟨d, rfl⟩ := Nat.exists_eq_add_of_le hi
  clear hi
  induction d with
  | zero => exact h0
  | succ d ih => exact h1 _ (Nat.le_add_right _ _) ih

theorem not_live_gone {H : List Blk} {x : Nat} (hx : x < H.length) (h : ¬ Live H x) : H[x]? = some .gone := by
  rw [List.getElem?_eq_getElem hx]
  cases hk : H[x] with
  | gone => rfl
  | map l => exact absurd ⟨_, List.getElem?_eq_getElem hx, by rw [hk]; simp⟩ h
  | cells c e => exact absurd ⟨_, List.getElem?_eq_getElem hx, by rw [hk]; simp⟩ h
  | loop l => exact absurd ⟨_, List.getElem?_eq_getElem hx, by rw [hk]; simp⟩ h
  | iter x l cur => exact absurd ⟨_, List.getElem?_eq_getElem hx, by rw [hk]; simp⟩ h
  | dfr => exact absurd ⟨_, List.getElem?_eq_getElem hx, by rw [hk]; simp⟩ h

theorem gone_not_live {H : List Blk} {x : Nat} (h : H[x]? = some .gone) : ¬ Live H x := by
  rintro ⟨k, hk, hne⟩
  rw [h] at hk; cases hk; exact hne rfl

theorem HRel.weaken {ng : Cx} {g : Inj} {H H' : List Blk} {w : World} (h : HRel ng g H w) (hl : H'.length = H.length) (hw : ∀ (x : Nat) (k : Blk), H'[x]? = some k → k ≠ .gone → H[x]? = some k) : HRel ng g H' w :=
  ⟨fun i L hi => by rw [hl]; exact h.dom i L hi, fun i j L M hi hj hb ⟨k, hk, hn⟩ ⟨k', hk', hn'⟩ => h.inj i j L M hi hj hb ⟨k, hw i k hk hn, hn⟩ ⟨k', hw j k' hk' hn', hn'⟩,
    fun i k hi hk => h.blk i k (hw i k hi hk) hk, h.glob, h.sig,
    h.frz.to rfl rfl (Nat.le_of_eq hl.symm) fun b hb q2 => ⟨rfl, fun j L hj ⟨k, hk, hn⟩ => q2 j L hj ⟨k, hw j k hk hn, hn⟩⟩⟩

theorem Ext.weaken {g0 g : Inj} {H0 H H' : List Blk} {w0 w : World} (h : Ext g0 H0 w0 g H w) (hl : H0.length ≤ H'.length) (hw : ∀ x, x < H0.length → Live H' x → Live H x) : Ext g0 H0 w0 g H' w where
  sub := h.sub
  new := h.new
  newm := h.newm
  len := hl
  live := fun i hi hl => h.live i hi (hw i hi hl)
  size := h.size
  frame := h.frame
  os := h.os
  tape := h.tape
  output := h.output

theorem HRel.relax {ng : Cx} {g : Inj} {H H' : List Blk} {w : World} (h : HRel ng g H w) (hl : H.length ≤ H'.length)
    (hb : ∀ (j : Nat) (k' : Blk), H'[j]? = some k' → k' ≠ .gone → ∃ k, H[j]? = some k ∧ k ≠ .gone ∧ ∀ L, BRel g w k L → BRel g w k' L) : HRel ng g H' w := by
  have hv : ∀ j, Live H' j → Live H j := fun j ⟨k, hk, hn⟩ => let ⟨k0, h1, h2, _⟩ := hb j k hk hn; ⟨k0, h1, h2⟩
  refine ⟨fun j L hj => ⟨Nat.lt_of_lt_of_le (h.dom j L hj).1 hl, (h.dom j L hj).2⟩, fun i j L M hi hj he li lj => h.inj i j L M hi hj he (hv i li) (hv j lj), ?_, h.glob, h.sig,
    h.frz.to rfl rfl hl fun b hb q2 => ⟨rfl, fun j L hj lj => q2 j L hj (hv j lj)⟩⟩
  intro j k' hk' hne
  obtain ⟨k, h1, h2, h3⟩ := hb j k' hk' hne
  obtain ⟨L, hL, hB⟩ := h.blk j k h1 h2
  exact ⟨L, hL, h3 L hB⟩

theorem Ext.relax {g0 g : Inj} {H0 H H' : List Blk} {w0 w : World} (h : Ext g0 H0 w0 g H w) (hl : H.length ≤ H'.length) (hv : ∀ j, Live H' j → Live H j) : Ext g0 H0 w0 g H' w :=
  ⟨h.sub, h.new, h.newm, Nat.le_trans h.len hl, fun j hj lj => h.live j hj (hv j lj), h.size, h.frame, h.os, h.tape, h.output⟩

theorem MRel.perm {g : Inj} {l l' : List (AVal × AVal)} (hp : l.Perm l') : ∀ {m : List MapEntry}, MRel g l m → ∃ m', m.Perm m' ∧ MRel g l' m' := by
  induction hp with
  | nil => intro m h; exact ⟨m, .refl _, h⟩
  | cons x _ ih =>
    intro m h
    cases h with
    | cons k v e _ m h1 h2 h3 =>
      obtain ⟨m', q1, q2⟩ := ih h3
      exact ⟨e :: m', q1.cons e, .cons k v e _ m' h1 h2 q2⟩
  | swap x y l =>
    intro m h
    cases h with
    | cons k v e _ m h1 h2 h3 => cases h3 with
      | cons k' v' e' _ m h1' h2' h3 => exact ⟨e' :: e :: m, List.Perm.swap _ _ _, .cons k' v' e' _ _ h1' h2' (.cons k v e _ _ h1 h2 h3)⟩
  | trans _ _ ih1 ih2 =>
    intro m h
    obtain ⟨m1, q1, q2⟩ := ih1 h
    obtain ⟨m2, q3, q4⟩ := ih2 q2
    exact ⟨m2, q1.trans q3, q4⟩

theorem BRel.perm {g : Inj} {w : World} {l l' : List (AVal × AVal)} {L : Loc} (hp : l.Perm l') (h : BRel g w (.map l) L) : BRel g w (.map l') L := by
  obtain ⟨es, cl, es', h1, h2, h3, h4⟩ := h
  obtain ⟨m', q1, q2⟩ := h3.perm hp
  exact ⟨es, cl, m', h1, h2.trans q1, q2, h4⟩

section
variable {P : Program} {ng : Cx} {ops : Array Oper} {r0 : Nat} {tm tr : Nat → Tm} {hp : Nat → Hp} {val : Nat → AVal} {kd : Nat → DK} {anc : Nat → Nat → Prop}

theorem DTr.lt (T : DTr P ng ops r0 tm tr hp val kd anc) {j : Nat} (h : kd j ≠ .lite) : j < ops.size := by
  rcases Nat.lt_or_ge j ops.size with h1 | h1
  · exact h1
  · exact absurd (T.kdn j h1) h

theorem DTr.anc_lt (T : DTr P ng ops r0 tm tr hp val kd anc) : ∀ (i j : Nat), anc i j → j < i := by
  intro i
  induction i using Nat.strongRecOn with
  | _ i ih =>
    intro j h
    obtain ⟨o, ho, e, he, hb, h'⟩ := T.ancI i j h
    have hlt := T.edge i o ho e he hb
    rcases h' with rfl | h'
    · exact hlt
    · exact Nat.lt_trans (ih e.on hlt j h') hlt

theorem DTr.len_succ (T : DTr P ng ops r0 tm tr hp val kd anc) {i : Nat} {o : Oper} (ho : ops[i]? = some o) : (hp i).heap.length ≤ (hp (i + 1)).heap.length ∧ (¬ (kd i).isEff → (hp (i + 1)).heap.length = (hp i).heap.length) := by
  have hs := T.step i o ho
  cases hk : kd i with
  | lite => rw [hk] at hs; rw [hs.1]; simp
  | load b => rw [hk] at hs; rw [hs.1]; simp
  | fresh x c e => rw [hk] at hs; rw [hs.2.2.2.2]; simp
  | mk x => rw [hk] at hs; rw [hs.2.2.2.2.2]; simp
  | ins x d k v => rw [hk] at hs; obtain ⟨_, _, _, l, _, h⟩ := hs; rw [h]; simp
  | eff pre =>
    rw [hk] at hs
    obtain ⟨hm, hm', h1, h2, _, _, h5, _⟩ := hs
    have := h1.touch.len
    exact ⟨by omega, fun h => absurd trivial h⟩

/-- What lies at no new block and at no new map is not written but by effects. -/
theorem DTr.other (T : DTr P ng ops r0 tm tr hp val kd anc) {i x : Nat} {o : Oper} (ho : ops[i]? = some o) (he : ¬ (kd i).isEff) (hf : ∀ c e, kd i ≠ .fresh x c e) (hm : ∀ j, kd j ≠ .mk x) : (hp (i + 1)).heap[x]? = (hp i).heap[x]? := by
  have hs := T.step i o ho
  cases hk : kd i with
  | lite => rw [hk] at hs; rw [hs.1]
  | load b => rw [hk] at hs; rw [hs.1]
  | fresh y c e =>
    rw [hk] at hs; rw [hs.2.2.2.2]
    exact List.getElem?_set_ne (fun h => hf c e (by rw [hk, h]))
  | mk y =>
    rw [hk] at hs; rw [hs.2.2.2.2.2]
    exact List.getElem?_set_ne (fun h => hm i (by rw [hk, h]))
  | ins y d k v =>
    obtain ⟨j, hj, _⟩ := T.insM i y d k v hk
    rw [hk] at hs; obtain ⟨_, _, _, l, _, h⟩ := hs; rw [h]
    exact List.getElem?_set_ne (fun h => hm j (by rw [hj, h]))
  | eff pre => rw [hk] at he; exact absurd trivial he

theorem DTr.len (T : DTr P ng ops r0 tm tr hp val kd anc) : ∀ i, i ≤ ops.size → (hp 0).heap.length ≤ (hp i).heap.length
  | 0, _ => Nat.le_refl _
  | i + 1, h => Nat.le_trans (T.len i (by omega)) (T.len_succ (o := ops[i]) (by simp [show i < ops.size by omega])).1

theorem DTr.stable (T : DTr P ng ops r0 tm tr hp val kd anc) {p : Nat} : ∀ (i : Nat), p ≤ i → i ≤ ops.size → (∀ j, p ≤ j → j < i → ¬ (kd j).isEff) → (hp i).heap.length = (hp p).heap.length ∧
    ∀ x, (∀ j c e, p ≤ j → j < i → kd j ≠ .fresh x c e) → (∀ j, kd j ≠ .mk x) → (hp i).heap[x]? = (hp p).heap[x]? := by
  refine le_ind ?_ ?_
  · intro _ _; exact ⟨rfl, fun _ _ _ => rfl⟩
  · intro i hpi ih hn hne
    obtain ⟨l1, l2⟩ := ih (by omega) (fun j h1 h2 => hne j h1 (by omega))
    have ho : ops[i]? = some ops[i] := by simp [show i < ops.size by omega]
    have hnei := hne i hpi (Nat.lt_succ_self i)
    refine ⟨((T.len_succ ho).2 hnei).trans l1, fun x hx hxm => ?_⟩
    rw [← l2 x (fun j c e h1 h2 => hx j c e h1 (by omega)) hxm]
    exact T.other ho hnei (fun c e => hx i c e hpi (Nat.lt_succ_self i)) hxm

theorem DTr.gone_until (T : DTr P ng ops r0 tm tr hp val kd anc) {j x : Nat} {c : List AVal} {e : TypeId} (hj : kd j = .fresh x c e) : ∀ i, i ≤ j → (hp i).heap[x]? = some .gone := by
  have hjn : j < ops.size := T.lt (by rw [hj]; simp)
  have hsj := T.step j _ (by simp [hjn] : ops[j]? = some ops[j])
  rw [hj] at hsj
  intro i
  induction i with
  | zero => intro _; exact hsj.2.2.2.1
  | succ i ih =>
    intro hi
    have ih := ih (by omega)
    have ho : ops[i]? = some ops[i] := by simp [show i < ops.size by omega]
    have hs := T.step i _ ho
    cases hk : kd i with
    | lite => rw [hk] at hs; rw [hs.1]; exact ih
    | load b => rw [hk] at hs; rw [hs.1]; exact ih
    | fresh y c' e' =>
      rw [hk] at hs; rw [hs.2.2.2.2]
      have hxy : y ≠ x := fun he => by subst he; have := T.uniq i j _ _ _ _ _ hk hj; omega
      simp only [List.getElem?_set_ne hxy]; exact ih
    | mk y => rw [T.other ho (by rw [hk]; exact id) (fun c e => by rw [hk]; intro h; cases h) (fun j' h => T.apart j' j x _ _ h hj)]; exact ih
    | ins y d k v => rw [T.other ho (by rw [hk]; exact id) (fun c e => by rw [hk]; intro h; cases h) (fun j' h => T.apart j' j x _ _ h hj)]; exact ih
    | eff pre =>
      rw [hk] at hs
      obtain ⟨hm, hm', h1, h2, h3, h4, h5, h6, h7, h8⟩ := hs
      by_cases hM : Masked kd anc i x
      · rw [h6 x hM]; exact ih
      · rw [h7 x hM]
        have hx : hm.heap[x]? = some .gone := by rw [h4 x hM]; exact ih
        have hxl : x < hm.heap.length := (List.getElem?_eq_some_iff.1 hx).1
        exact not_live_gone (Nat.lt_of_lt_of_le hxl h1.touch.len) fun hl => gone_not_live hx (h1.touch.live x hxl hl)

theorem DTr.gone_untilM (T : DTr P ng ops r0 tm tr hp val kd anc) {j x : Nat} (hj : kd j = .mk x) : ∀ i, i ≤ j → (hp i).heap[x]? = some .gone := by
  have hjn : j < ops.size := T.lt (by rw [hj]; simp)
  have hsj := T.step j _ (by simp [hjn] : ops[j]? = some ops[j])
  rw [hj] at hsj
  intro i
  induction i with
  | zero => intro _; exact hsj.2.2.2.2.1
  | succ i ih =>
    intro hi
    have ih := ih (by omega)
    have ho : ops[i]? = some ops[i] := by simp [show i < ops.size by omega]
    have hs := T.step i _ ho
    cases hk : kd i with
    | lite => rw [hk] at hs; rw [hs.1]; exact ih
    | load b => rw [hk] at hs; rw [hs.1]; exact ih
    | fresh y c' e' =>
      rw [hk] at hs; rw [hs.2.2.2.2]
      have hxy : y ≠ x := fun he => by subst he; exact T.apart j i y _ _ hj hk
      simp only [List.getElem?_set_ne hxy]; exact ih
    | mk y =>
      rw [hk] at hs; rw [hs.2.2.2.2.2]
      have hxy : y ≠ x := fun he => by subst he; have := T.uniqM i j y hk hj; omega
      simp only [List.getElem?_set_ne hxy]; exact ih
    | ins y d k v =>
      obtain ⟨j', hj', ha⟩ := T.insM i y d k v hk
      have hlt := T.anc_lt i j' ha
      rw [hk] at hs; obtain ⟨_, _, _, l, _, h⟩ := hs; rw [h]
      have hxy : y ≠ x := fun he => by subst he; have := T.uniqM j' j y hj' hj; omega
      simp only [List.getElem?_set_ne hxy]; exact ih
    | eff pre =>
      rw [hk] at hs
      obtain ⟨hm, hm', h1, h2, h3, h4, h5, h6, h7, h8⟩ := hs
      by_cases hM : Masked kd anc i x
      · rw [h6 x hM]; exact ih
      · rw [h7 x hM]
        have hx : hm.heap[x]? = some .gone := by rw [h4 x hM]; exact ih
        have hxl : x < hm.heap.length := (List.getElem?_eq_some_iff.1 hx).1
        exact not_live_gone (Nat.lt_of_lt_of_le hxl h1.touch.len) fun hl => gone_not_live hx (h1.touch.live x hxl hl)

theorem DTr.filled (T : DTr P ng ops r0 tm tr hp val kd anc) {j x : Nat} {c : List AVal} {e : TypeId} (hj : kd j = .fresh x c e) {i : Nat} (hji : j < i) (hi : i ≤ ops.size) (hne : ∀ k, j < k → k < i → ¬ (kd k).isEff) :
    (hp i).heap[x]? = some (.cells c e) := by
  have hjn : j < ops.size := T.lt (by rw [hj]; simp)
  have hg := T.gone_until hj j (Nat.le_refl _)
  have hsj := T.step j _ (by simp [hjn] : ops[j]? = some ops[j])
  rw [hj] at hsj
  have h1 : (hp (j + 1)).heap[x]? = some (.cells c e) := by
    rw [hsj.2.2.2.2]
    have := (List.getElem?_eq_some_iff.1 hg).1
    simp [this]
  rw [(T.stable i hji hi (fun k h1 h2 => hne k h1 h2)).2 x (fun k c' e' h1 h2 hk => by have := T.uniq k j _ _ _ _ _ hk hj; omega) (fun k hk => T.apart k j x _ _ hk hj)]
  exact h1

/-- what a later effect does not touch, and that no effect in between touches -/
theorem DTr.chain (T : DTr P ng ops r0 tm tr hp val kd anc) {x p : Nat} (hx : x < (hp p).heap.length) (hxm : ∀ j, kd j ≠ .mk x) : ∀ (i : Nat), p ≤ i → i ≤ ops.size → (∀ j c e, p ≤ j → j < i → kd j ≠ .fresh x c e) →
    (∀ j pre, p ≤ j → j < i → kd j = .eff pre → x ∉ pre) → (hp i).heap[x]? = (hp p).heap[x]? := by
  refine le_ind ?_ ?_
  · intro _ _ _; rfl
  · intro i hpi ih hn hf he
    have ih := ih (by omega) (fun j c e h1 h2 => hf j c e h1 (by omega)) (fun j pre h1 h2 => he j pre h1 (by omega))
    rw [← ih]
    have ho : ops[i]? = some ops[i] := by simp [show i < ops.size by omega]
    have hs := T.step i _ ho
    cases hk : kd i with
    | lite => rw [hk] at hs; rw [hs.1]
    | load b => rw [hk] at hs; rw [hs.1]
    | fresh y c e =>
      rw [hk] at hs; rw [hs.2.2.2.2]
      exact List.getElem?_set_ne (fun he => hf i c e hpi (Nat.lt_succ_self i) (by rw [hk, he]))
    | mk y => exact T.other ho (by rw [hk]; exact id) (fun c e => by rw [hk]; intro h; cases h) hxm
    | ins y d k v => exact T.other ho (by rw [hk]; exact id) (fun c e => by rw [hk]; intro h; cases h) hxm
    | eff pre =>
      rw [hk] at hs
      obtain ⟨hm, hm', h1, h2, h3, h4, h5, h6, h7, h8⟩ := hs
      by_cases hM : Masked kd anc i x
      · exact h6 x hM
      · rw [h7 x hM, ← h4 x hM]
        refine h8 x ?_ (he i pre hpi (Nat.lt_succ_self i) hk)
        have : x < (hp i).heap.length := by
          have e1 : (hp i).heap[x]? = some (hp p).heap[x] := by rw [ih]; simp [hx]
          exact (List.getElem?_eq_some_iff.1 e1).1
        omega

theorem tm_keep (T : DTr P ng ops r0 tm tr hp val kd anc) : ∀ (m : Nat), m ≤ ops.size → (tm m).len = (tm 0).len ∧ (∀ (d : Nat) (v : AVal), (∀ (i : Nat) (o : Oper), i < m → ops[i]? = some o → o.dst ≠ some d) → (tm m).get d = some v → (tm 0).get d = some v) ∧
    ∀ (i : Nat) (o : Oper) (d : Nat) (v : AVal), i < m → ops[i]? = some o → o.dst = some d → (tm m).get d = some v → v = val i
  | 0, _ => ⟨rfl, fun _ _ _ h => h, fun _ _ _ _ h => by omega⟩
  | m + 1, hm => by
    obtain ⟨h1, h2, h3⟩ := tm_keep T m (by omega)
    have ho : ops[m]? = some ops[m] := by simp [show m < ops.size by omega]
    rw [T.tmS m _ ho]
    have hlen : (putA (tm m) ops[m].dst (val m)).len = (tm m).len := by cases hd : ops[m].dst <;> rfl
    have back : ∀ (d : Nat) (v : AVal), (putA (tm m) ops[m].dst (val m)).get d = some v → (ops[m].dst = some d ∧ v = val m) ∨ (ops[m].dst ≠ some d ∧ (tm m).get d = some v) := by
      intro d v hv
      cases hdd : ops[m].dst with
      | none => rw [hdd] at hv; exact .inr ⟨by simp, hv⟩
      | some d' =>
        rw [hdd] at hv
        simp only [putA] at hv
        have hlt := Tm.get_lt hv
        rcases TT.get_put _ _ _ _ _ (Tm.get_tr hv) with ⟨rfl, rfl⟩ | ⟨hne, hv⟩
        · exact .inl ⟨rfl, rfl⟩
        · exact .inr ⟨fun e => hne (Option.some.inj e).symm, Tm.get_of hv hlt⟩
    refine ⟨hlen.trans h1, ?_, ?_⟩
    · intro d v hd hv
      rcases back d v hv with ⟨h9, _⟩ | ⟨_, h9⟩
      · exact absurd h9 (hd m _ (Nat.lt_succ_self m) ho)
      · exact h2 d v (fun i o hi => hd i o (by omega)) h9
    · intro i o d v hi hoi hd hv
      rcases back d v hv with ⟨h8, h9⟩ | ⟨h8, h9⟩
      · have := T.dst i m _ _ _ hoi ho hd h8
        subst this; exact h9
      · rcases Nat.lt_or_ge i m with h7 | h7
        · exact h3 i o d v h7 hoi hd h9
        · have : i = m := by omega
          subst this
          rw [ho] at hoi; cases hoi
          exact absurd hd h8

def Ls (listed : Array Bool) (i : Nat) : Prop := listed.getD i false = true

theorem ls_set (listed : Array Bool) (i j : Nat) (hi : i < listed.size) : Ls (listed.setIfInBounds i true) j ↔ j = i ∨ Ls listed j := by
  unfold Ls
  by_cases h : j = i
  · subst h; simp [hi]
  · simp [h, Array.getElem?_setIfInBounds_ne (Ne.symm h)]

/-- The entries of a map that are laid. -/
def ents (kd : Nat → DK) (listed : Array Bool) (x : Nat) : Nat → List (AVal × AVal)
  | 0 => []
  | n + 1 => match kd n with
    | .ins y _ k v => if y = x ∧ listed.getD n false = true then ents kd listed x n ++ [(k, v)] else ents kd listed x n
    | _ => ents kd listed x n

theorem ents_other {kd : Nat → DK} {listed : Array Bool} {x i : Nat} (hi : i < listed.size) (hk : ∀ d k v, kd i ≠ .ins x d k v) : ∀ n, ents kd (listed.setIfInBounds i true) x n = ents kd listed x n
  | 0 => rfl
  | n + 1 => by
    have ih := ents_other hi hk n
    simp only [ents]
    split
    · rename_i y d k v hn
      have hls := ls_set listed i n hi
      unfold Ls at hls
      by_cases hy : y = x
      · subst hy
        have hne : n ≠ i := fun e => hk d k v (by rw [← e]; exact hn)
        simp only [hls, hne, false_or, ih]
      · simp only [hy, false_and, if_false, ih]
    · exact ih

theorem ents_ins {kd : Nat → DK} {listed : Array Bool} {x i : Nat} {d : TypeDesc} {k v : AVal} (hi : i < listed.size) (hk : kd i = .ins x d k v) (hn : ¬ Ls listed i) : ∀ n, i < n → (ents kd listed x n ++ [(k, v)]).Perm (ents kd (listed.setIfInBounds i true) x n)
  | 0, h => by omega
  | n + 1, h => by
    have hls := ls_set listed i n hi
    unfold Ls at hls hn
    by_cases hni : n = i
    · subst hni
      have e : ∀ m, m ≤ n → ents kd (listed.setIfInBounds n true) x m = ents kd listed x m := by
        intro m
        induction m with
        | zero => intro _; rfl
        | succ m ih =>
          intro hm
          have ih := ih (by omega)
          have hls2 := ls_set listed n m hi
          unfold Ls at hls2
          simp only [ents]
          split
          · have hne : m ≠ n := by omega
            simp only [hls2, hne, false_or, ih]
          · exact ih
      simp only [ents, hk, e n (Nat.le_refl _), hls, true_or, and_self, if_true]
      rw [if_neg (by intro h; exact hn h.2)]
    · have ih := ents_ins hi hk hn n (by omega)
      simp only [ents]
      split
      · rename_i y d' k' v' hy
        simp only [hls, hni, false_or]
        split
        · refine List.Perm.trans ?_ (ih.append_right [(k', v')])
          simp only [List.append_assoc]
          exact List.Perm.append_left _ (List.Perm.swap _ _ _)
        · exact ih
      · exact ih

theorem ents_mem {kd : Nat → DK} {listed : Array Bool} {x : Nat} {q : AVal × AVal} : ∀ n, q ∈ ents kd listed x n → ∃ i d, i < n ∧ Ls listed i ∧ kd i = .ins x d q.1 q.2
  | 0, h => by simp [ents] at h
  | n + 1, h => by
    simp only [ents] at h
    split at h
    · rename_i y d k v hn
      split at h
      · rename_i hc
        rcases List.mem_append.1 h with h | h
        · obtain ⟨i, d', h1, h2, h3⟩ := ents_mem n h
          exact ⟨i, d', by omega, h2, h3⟩
        · simp at h; subst h
          exact ⟨n, d, by omega, hc.2, by rw [hn, hc.1]⟩
      · obtain ⟨i, d', h1, h2, h3⟩ := ents_mem n h
        exact ⟨i, d', by omega, h2, h3⟩
    · obtain ⟨i, d', h1, h2, h3⟩ := ents_mem n h
      exact ⟨i, d', by omega, h2, h3⟩

theorem findA_none {d : TypeDesc} {k : AVal} : ∀ {l : List (AVal × AVal)}, (∀ q ∈ l, (∃ u, keyA d q.1 = some u) ∧ sameA q.1 k = false) → findA d k l = some none
  | [], _ => rfl
  | (k', v) :: l, h => by
    obtain ⟨⟨u, h1⟩, h2⟩ := h (k', v) (by simp)
    simp only [findA]
    simp only [] at h1 h2
    rw [h1, h2]
    exact findA_none fun q hq => h q (List.mem_cons_of_mem _ hq)

structure Inv (P : Program) (ng : Cx) (ops : Array Oper) (r0 : Nat) (tm : Nat → Tm) (hp : Nat → Hp) (val : Nat → AVal) (kd : Nat → DK) (g0 : Inj) (H0 : List Blk) (w0 : World) (a0 : Act) (listed : Array Bool) (p : Nat) (g : Inj) (H : List Blk)
    (a : Act) (w : World) : Prop where
  lsz : listed.size = ops.size
  down : ∀ (i : Nat) (o : Oper), ops[i]? = some o → Ls listed i → ∀ e, e ∈ o.after → Region.binds .any e = true → Ls listed e.on
  pn : p ≤ ops.size
  pl : p = 0 ∨ (0 < p ∧ (kd (p - 1)).isEff ∧ Ls listed (p - 1))
  ph : ∀ j, p ≤ j → (kd j).isEff → ¬ Ls listed j
  hlen : H.length = (hp p).heap.length
  h1 : ∀ x, (∀ j c e, kd j ≠ .fresh x c e) → (∀ j, kd j ≠ .mk x) → H[x]? = (hp p).heap[x]?
  h4 : ∀ j x, kd j = .mk x → (Ls listed j → ∃ l, H[x]? = some (.map l) ∧ l.Perm (ents kd listed x ops.size)) ∧ (¬ Ls listed j → H[x]? = some .gone ∧ g x = none)
  h2 : ∀ j x c e, kd j = .fresh x c e → Ls listed j → H[x]? = if j < p then (hp p).heap[x]? else some (.cells c e)
  h3 : ∀ j x c e, kd j = .fresh x c e → ¬ Ls listed j → H[x]? = some .gone ∧ g x = none
  rel : HRel ng g H w
  ext : Ext g0 H0 w0 g H w
  asz : a.tmps.size = a0.tmps.size
  adf : a.defers = a0.defers
  t1 : ∀ (i : Nat) (o : Oper) (d : Nat), ops[i]? = some o → o.dst = some d → Ls listed i → d < (tm 0).len → ∃ u, a.tmps[d]? = some u ∧ VRel g (val i) u
  t2 : ∀ (d : Nat) (v : AVal), (∀ (i : Nat) (o : Oper), ops[i]? = some o → Ls listed i → o.dst ≠ some d) → (tm 0).get d = some v → ∃ u, a.tmps[d]? = some u ∧ VRel g v u

end
end Go.Ev
