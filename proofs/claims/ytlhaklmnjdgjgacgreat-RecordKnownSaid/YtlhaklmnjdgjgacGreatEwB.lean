/- The operations that touch no memory, on abstract values, and that they are the model's. -/
import Derived.Test.YtlhaklmnjdgjgacGreatEwA
import Derived.ChangeKeysEq
namespace Go.Ev

def aggT (P : Program) (t : TypeId) : Bool :=
  match P.underlying t with
  | some (.struct _) => true
  | some (.array _ _) => true
  | _ => false

/-- n items from the place off on -/
def seg (l : List AVal) (off n : Nat) : Option (List AVal) :=
  if off + n ≤ l.length then some ((l.drop off).take n) else none

def partA (P : Program) (t : TypeId) (cs : List AVal) (off : Nat) : Option AVal :=
  match aggT P t with
  | true => match seg cs off (P.cellsOf t) with
    | some l => some (.agg l)
    | none => none
  | false => cs[off]?

def eqFs (part : TypeId → List AVal → Nat → Option AVal) (eq : TypeId → AVal → AVal → Option Bool) (xs ys : List AVal) : List Field → Option Bool
  | [] => some true
  | f :: fs =>
    if f.name ≠ "_" then
      match part f.type xs f.offset, part f.type ys f.offset with
      | some a, some b => match eq f.type a b, eqFs part eq xs ys fs with
        | some r, some s => some (r && s)
        | _, _ => none
      | _, _ => none
    else eqFs part eq xs ys fs

def eqIs (part : TypeId → List AVal → Nat → Option AVal) (eq : TypeId → AVal → AVal → Option Bool) (e : TypeId) (c : Nat) (xs ys : List AVal) : List Nat → Option Bool
  | [] => some true
  | i :: is => match part e xs (i * c), part e ys (i * c) with
      | some a, some b => match eq e a b, eqIs part eq e c xs ys is with
        | some r, some s => some (r && s)
        | _, _ => none
      | _, _ => none

/-- '==' of two values of one type, where it asks nothing of memory -/
def eqA (P : Program) : Nat → TypeId → AVal → AVal → Option Bool
  | 0, _, _, _ => none
  | d + 1, t, x, y =>
    match P.underlying t, x, y with
    | some .bool, .bool a, .bool b => some (a == b)
    | some (.int _), .int k a, .int k' b => if k = k' then some (a == b) else none
    | some .string, .str a, .str b => some (a.toList == b.toList)
    | some (.struct fs), .agg xs, .agg ys => if P.stoodInHeld t = false then eqFs (partA P) (eqA P d) xs ys fs.toList else none
    | some (.array n e), .agg xs, .agg ys => match P.info? e with
      | some _ => eqIs (partA P) (eqA P d) e (P.cellsOf e) xs ys (List.range n)
      | none => none
    | some (.pointer _), .nilptr, .nilptr => some true
    | some (.pointer _), .nilptr, .ptr _ _ => some false
    | some (.pointer _), .ptr _ _, .nilptr => some false
    | some (.pointer e), .ptr a i, .ptr b j => match P.info? e with
      | some inf => if inf.size ≠ 0 ∧ a = b then some (i == j) else none
      | none => none
    | some (.slice _), .nilslice, .nilslice => some true
    | some (.slice _), .nilslice, .slice _ _ _ _ _ => some false
    | some (.slice _), .slice _ _ _ _ _, .nilslice => some false
    | some (.map _ _), .nilmap, .nilmap => some true
    | some (.map _ _), .nilmap, .map _ => some false
    | some (.map _ _), .map _, .nilmap => some false
    | some (.func _ _ _), .nilfunc, .nilfunc => some true
    | some (.func _ _ _), .nilfunc, .func _ _ _ => some false
    | some (.func _ _ _), .func _ _ _, .nilfunc => some false
    | some (.interface _), .niliface, .niliface => some true
    | some (.interface _), .niliface, .iface _ _ => some false
    | some (.interface _), .iface _ _, .niliface => some false
    | some (.interface _), .iface t v, .iface u x => if t ≠ u then some false else match P.info? t with
      | some inf => if inf.comparable = true then eqA P d t v x else none
      | none => none
    | _, _, _ => none

theorem addr_beq (b d i j : Nat) : (({ block := b, off := d + i } : Addr) == { block := b, off := d + j }) = (i == j) := by
  rw [Bool.eq_iff_iff]
  simp

theorem run_sizeOf' {P : Program} (w : World) {e : TypeId} {i : TypeInfo} (h : P.info? e = some i) : (sizeOf e).run P w = .ok i.size w := by
  simp [sizeOf, typeInfo, h]

theorem cellsOf_info {P : Program} {e : TypeId} {i : TypeInfo} (h : P.info? e = some i) : P.cellsOf e = i.size := by simp [Program.cellsOf, h]

theorem info_of_under {P : Program} {t : TypeId} {d : TypeDesc} (h : P.underlying t = some d) : ∃ i, P.info? t = some i := by
  unfold Program.underlying at h
  cases hi : P.info? t with
  | none => simp [hi] at h
  | some i => exact ⟨i, rfl⟩

theorem run_isAgg {P : Program} (w : World) {t : TypeId} {d : TypeDesc} (h : P.underlying t = some d) : (isAgg t).run P w = .ok (aggT P t) w := by
  simp only [isAgg, Sem.run_bind, run_underlying h, Result.andThen_ok, aggT, h]
  cases d <;> simp

theorem seg_spec {g : Inj} {l : List AVal} {m : List Value} {off n : Nat} {r : List AVal} (h : seg l off n = some r) (hr : LRel g l m) : off + n ≤ m.length ∧ LRel g r ((m.drop off).take n) ∧ r.length = n := by
  unfold seg at h
  split at h
  · rename_i hle
    cases h
    exact ⟨by rw [← hr.length]; exact hle, (hr.drop off).take n, by simp; omega⟩
  · cases h

theorem run_partA {P : Program} {g : Inj} (w : World) {t : TypeId} {cs : List AVal} {C : Array Value} {off : Nat} {a : AVal} (ht : ∃ d, P.underlying t = some d)
    (h : partA P t cs off = some a) (hr : LRel g cs C.toList) : ∃ v, (part t C off).run P w = .ok v w ∧ VRel g a v := by
  obtain ⟨d, hd⟩ := ht
  obtain ⟨i, hi⟩ := info_of_under hd
  unfold partA at h
  unfold part
  simp only [Sem.run_bind, run_isAgg w hd, Result.andThen_ok]
  split at h
  · rename_i hagg
    split at h
    · rename_i l hl
      cases h
      obtain ⟨h1, h2, h3⟩ := seg_spec hl hr
      rw [cellsOf_info hi] at h1 h2
      refine ⟨.agg (C.extract off (off + i.size)), ?_, .agg _ _ ?_⟩
      · simp [hagg, run_sizeOf' w hi]
      · have : (C.extract off (off + i.size)).toList = (C.toList.drop off).take i.size := by
          simp
        rw [this]; exact h2
    · cases h
  · rename_i hagg
    obtain ⟨v, hv, hrel⟩ := hr.get off a h
    refine ⟨v, ?_, hrel⟩
    simp [hagg, show C[off]? = some v from by simpa using hv]

theorem VRel.beqBytes (a b : ByteArray) : (a == b) = (a.toList == b.toList) := beq_toListBytes a b

theorem run_eqFs {P : Program} {g : Inj} (w : World) (d : Nat) (eq : TypeId → AVal → AVal → Option Bool) (hu : ∀ t a b r, eq t a b = some r → ∃ de, P.underlying t = some de)
    (he : ∀ t a b r u v, eq t a b = some r → VRel g a u → VRel g b v → (Op.equalIn d t u v).run P w = .ok r w)
    (xs ys : List AVal) (X Y : Array Value) (hx : LRel g xs X.toList) (hy : LRel g ys Y.toList) : ∀ (fs : List Field) (r : Bool), eqFs (partA P) eq xs ys fs = some r → (Op.eqFields d X Y fs).run P w = .ok r w
  | [], r, h => by simp [eqFs] at h; subst h; simp [Op.eqFields]
  | f :: fs, r, h => by
    simp only [eqFs] at h
    simp only [Op.eqFields]
    by_cases hf : f.name ≠ "_"
    · simp only [hf, ne_eq, not_false_eq_true, if_true] at h ⊢
      split at h
      · rename_i a b ha hb
        split at h
        · rename_i r1 s1 h1 h2
          cases h
          obtain ⟨de, hde⟩ := hu _ _ _ _ h1
          obtain ⟨u, hu1, hu2⟩ := run_partA w ⟨de, hde⟩ ha hx
          obtain ⟨v, hv1, hv2⟩ := run_partA w ⟨de, hde⟩ hb hy
          have h3 := he _ _ _ _ _ _ h1 hu2 hv2
          have h4 := run_eqFs w d eq hu he xs ys X Y hx hy fs s1 h2
          simp only [Sem.run_bind, hu1, hv1, h3, Result.andThen_ok, Sem.run_ite, h4]
          cases r1 <;> simp
        · cases h
      · cases h
    · simp only [hf, if_false] at h ⊢
      exact run_eqFs w d eq hu he xs ys X Y hx hy fs r h

theorem run_eqIs {P : Program} {g : Inj} (w : World) (d : Nat) (eq : TypeId → AVal → AVal → Option Bool) (hu : ∀ t a b r, eq t a b = some r → ∃ de, P.underlying t = some de)
    (he : ∀ t a b r u v, eq t a b = some r → VRel g a u → VRel g b v → (Op.equalIn d t u v).run P w = .ok r w) (e : TypeId) (c : Nat)
    (xs ys : List AVal) (X Y : Array Value) (hx : LRel g xs X.toList) (hy : LRel g ys Y.toList) : ∀ (is : List Nat) (r : Bool), eqIs (partA P) eq e c xs ys is = some r → (Op.eqItems d e c X Y is).run P w = .ok r w
  | [], r, h => by simp [eqIs] at h; subst h; simp [Op.eqItems]
  | i :: is, r, h => by
    simp only [eqIs] at h
    simp only [Op.eqItems]
    split at h
    · rename_i a b ha hb
      split at h
      · rename_i r1 s1 h1 h2
        cases h
        obtain ⟨de, hde⟩ := hu _ _ _ _ h1
        obtain ⟨u, hu1, hu2⟩ := run_partA w ⟨de, hde⟩ ha hx
        obtain ⟨v, hv1, hv2⟩ := run_partA w ⟨de, hde⟩ hb hy
        have h3 := he _ _ _ _ _ _ h1 hu2 hv2
        have h4 := run_eqIs w d eq hu he e c xs ys X Y hx hy is s1 h2
        simp only [Sem.run_bind, hu1, hv1, h3, Result.andThen_ok, Sem.run_ite, h4]
        cases r1 <;> simp
      · cases h
    · cases h

theorem eqA_under {P : Program} {d : Nat} {t : TypeId} {a b : AVal} {r : Bool} (h : eqA P d t a b = some r) : ∃ de, P.underlying t = some de := by
  cases d with
  | zero => simp [eqA] at h
  | succ d =>
    unfold eqA at h
    cases hu : P.underlying t with
    | none => simp [hu] at h
    | some de => exact ⟨de, rfl⟩

theorem run_eqA {P : Program} {g : Inj} (w : World) : ∀ (d : Nat) (t : TypeId) (a b : AVal) (r : Bool) (u v : Value), eqA P d t a b = some r → VRel g a u → VRel g b v → (Op.equalIn d t u v).run P w = .ok r w
  | 0, _, _, _, _, _, _, h, _, _ => by simp [eqA] at h
  | d + 1, t, a, b, r, u, v, h, ha, hb => by
    obtain ⟨de, hde⟩ := eqA_under h
    unfold eqA at h
    rw [hde] at h
    split at h
    · rename_i h0; cases h0; cases ha; cases hb; cases h; exact run_equalIn_bool w d t _ _ hde
    · rename_i h0; cases h0; cases ha; cases hb
      split at h
      · rename_i hk; subst hk; cases h; exact run_equalIn_int w d t _ _ _ _ hde
      · cases h
    · rename_i h0; cases h0; cases ha; cases hb; cases h; exact run_equalIn_string w d t _ _ hde
    · rename_i fs xs ys h0; cases h0
      split at h
      · rename_i hst
        cases ha with
        | agg _ X hX =>
          cases hb with
          | agg _ Y hY =>
            have hf : P.underlying t = some (.struct (P.fieldsOf t)) := by simp [Program.fieldsOf, hde]
            rw [run_equalIn_struct w d t X Y hf hst]
            have : P.fieldsOf t = fs := by simp [Program.fieldsOf, hde]
            rw [this]
            exact run_eqFs w d (eqA P d) (fun _ _ _ _ h => eqA_under h) (fun t a b r u v h1 h2 h3 => run_eqA w d t a b r u v h1 h2 h3) xs ys X Y hX hY fs.toList r h
      · cases h
    · rename_i n e xs ys h0; cases h0
      split at h
      · rename_i inf hinf
        cases ha with
        | agg _ X hX =>
          cases hb with
          | agg _ Y hY =>
            rw [run_equalIn_array w d X Y hde hinf]
            exact run_eqIs w d (eqA P d) (fun _ _ _ _ h => eqA_under h) (fun t a b r u v h1 h2 h3 => run_eqA w d t a b r u v h1 h2 h3) e _ xs ys X Y hX hY _ r h
      · cases h
    · rename_i h0; cases h0; cases ha; cases hb; cases h; simp [Op.equalIn, run_underlying hde]
    · rename_i h0; cases h0; cases ha; cases hb; cases h; simp [Op.equalIn, run_underlying hde]
    · rename_i h0; cases h0; cases ha; cases hb; cases h; simp [Op.equalIn, run_underlying hde]
    · rename_i e a i b j h0; cases h0
      split at h
      · rename_i inf hinf
        split at h
        · rename_i hc
          obtain ⟨hz, rfl⟩ := hc
          cases h
          cases ha with
          | ptr _ _ L hL =>
            cases hb with
            | ptr _ _ M hM =>
              rw [hL] at hM; cases hM
              simp [Op.equalIn, run_underlying hde, run_sizeOf' w hinf, hz, sameAddr]
              exact addr_beq _ _ i j
        · cases h
      · cases h
    · rename_i h0; cases h0; cases ha; cases hb; cases h; simp [Op.equalIn, run_underlying hde]
    · rename_i h0; cases h0; cases ha; cases hb; cases h; simp [Op.equalIn, run_underlying hde]
    · rename_i h0; cases h0; cases ha; cases hb; cases h; simp [Op.equalIn, run_underlying hde]
    · rename_i h0; cases h0; cases ha; cases hb; cases h; simp [Op.equalIn, run_underlying hde]
    · rename_i h0; cases h0; cases ha; cases hb; cases h; simp [Op.equalIn, run_underlying hde]
    · rename_i h0; cases h0; cases ha; cases hb; cases h; simp [Op.equalIn, run_underlying hde]
    · rename_i h0; cases h0; cases ha; cases hb; cases h; simp [Op.equalIn, run_underlying hde]
    · rename_i h0; cases h0; cases ha; cases hb; cases h; simp [Op.equalIn, run_underlying hde]
    · rename_i h0; cases h0; cases ha; cases hb; cases h; simp [Op.equalIn, run_underlying hde]
    · rename_i h0; cases h0; cases ha; cases hb; cases h; simp [Op.equalIn, run_underlying hde]
    · rename_i h0; cases h0; cases ha; cases hb; cases h; simp [Op.equalIn, run_underlying hde]
    · rename_i h0; cases h0; cases ha; cases hb; cases h; simp [Op.equalIn, run_underlying hde]
    · rename_i t1 v1 u1 x1 h0; cases h0
      cases ha with
      | iface _ _ v1' hv1 =>
        cases hb with
        | iface _ _ x1' hx1 =>
          split at h
          · rename_i hne
            cases h; simp [Op.equalIn, run_underlying hde, hne]
          · rename_i hne
            have hne : t1 = u1 := Classical.not_not.1 hne
            subst hne
            split at h
            · rename_i inf hinf
              split at h
              · rename_i hcmp
                have := run_eqA w d t1 v1 x1 r v1' x1' h hv1 hx1
                simp [Op.equalIn, run_underlying hde, typeInfo, hinf, hcmp, this]
              · cases h
            · cases h
    · cases h

end Go.Ev
