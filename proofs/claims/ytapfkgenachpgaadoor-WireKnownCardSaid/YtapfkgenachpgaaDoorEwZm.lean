/- Calls known ahead that touch memory: errors.As and errors.Is, of errors of one type; a block that nothing writes. -/
import Derived.Test.YtapfkgenachpgaaDoorEwZl
namespace Go.Ev
open Go.RowKit
set_option linter.unusedVariables false
set_option linter.unusedSimpArgs false
set_option linter.unnecessarySimpa false

/-- errors.As at a target of one type: what it does to nil, and to an error of just that type. -/
structure AsOk (P : Program) (fAs : FuncId) (tF tPP : TypeId) (blk : Nat) (OK : Obj → Prop) : Prop where
  nil : ∀ (t : Value) (w : World), Calls P fAs #[.nilIface, t] w fun e w' => e = .returned (.bool false) ∧ w' = w
  hit : ∀ (p t : Addr) (old : Value) (w : World) (O : Obj), OK O → w.heap[blk]? = some O → w.cell? t = some old → w.frozen? t = false →
    Calls P fAs #[.iface tF (.pointer (some p)), .iface tPP (.pointer (some t))] w fun e w' => e = .returned (.bool true) ∧ ∃ w1, Below w.heap.size w w1 ∧ (Instr.storeAt tF (.pointer (some t)) (.pointer (some p))).run P w1 = .ok () w'

/-- errors.Is of such an error, and a code. -/
structure IsOk (P : Program) (fIs : FuncId) (tF tE : TypeId) : Prop where
  hit : ∀ (p : Addr) (c c' : Int) (w : World), w.cell? p = some (.int .i64 c') →
    Calls P fIs #[.iface tF (.pointer (some p)), .iface tE (.int .i64 c)] w fun e w' => e = .returned (.bool (c' == c)) ∧ Below w.heap.size w w'

def isMh (look : SDef → Option AVal) (a c : AVal) : Option AVal :=
  match a, c with
  | .int .i64 x, .int .i64 y => some (.bool (x == y))
  | a, c => match isI64 a && isI64 c with
    | true => look (.bin .eql a c)
    | false => none

def asMh (P : Program) (fAs : FuncId) (tF tPP : TypeId) (fIs : FuncId) (tE : TypeId) : MHookF := fun look f args hp =>
  match Nat.beq f fAs with
  | true => match args with
    | [.niliface, _] => some (.bool false, hp)
    | [.iface t (.ptr b off), .iface t2 (.ptr tb o2)] => match Nat.beq t tF && Nat.beq t2 tPP with
      | true => match storeV P tF (.ptr tb o2) (.ptr b off) hp with
        | some hp' => some (.bool true, hp')
        | none => none
      | false => none
    | _ => none
  | false => match Nat.beq f fIs with
    | true => match args with
      | [.iface t (.ptr b off), .iface t2 c] => match Nat.beq t tF && Nat.beq t2 tE with
        | true => match hp.heap[b]? with
          | some (.cells cs _) => match cs[off]? with
            | some a => match isMh look a c with
              | some v => some (v, hp)
              | none => none
            | none => none
          | _ => none
        | false => none
      | _ => none
    | false => none

theorem storeV_touch {P : Program} {ty : TypeId} {a v : AVal} {hp hp' : Hp} (h : storeV P ty a v hp = some hp') : Touch hp hp' := by
  unfold storeV at h
  split at h
  · split at h
    · rename_i hb
      split at h
      · split at h
        · split at h
          · cases h; exact set_touch hb
          · cases h
        · cases h
      · cases h
    · cases h
  · cases h

theorem storeV_block {P : Program} {ty : TypeId} {b off : Nat} {v : AVal} {hp hp' : Hp} (h : storeV P ty (.ptr b off) v hp = some hp') : ∃ c e, hp.heap[b]? = some (.cells c e) ∧ (acells v).length ≤ c.length - off := by
  unfold storeV at h
  split at h
  · rename_i b' off' e
    cases e
    split at h
    · rename_i c e hb
      split at h
      · split at h
        · rename_i hc
          exact ⟨c, e, hb, by omega⟩
        · cases h
      · cases h
    · cases h
  · rename_i hne; exact absurd rfl (hne _ _)

/-- The block is as it was when the run began. -/
def OwnInv (blk : Nat) (OK : Obj → Prop) (σ : Sig) : Prop := ∃ r Y O, σ.ext r = some Y ∧ 0 < Y.len ∧ Y.blk = blk ∧ Y.obj = some O ∧ OK O

theorem own_of {ng : Cx} {g : Inj} {H : List Blk} {w : World} {blk : Nat} {OK : Obj → Prop} (hH : HRel ng g H w) (h : OwnInv blk OK g.sig) : ∃ O, OK O ∧ w.heap[blk]? = some O := by
  obtain ⟨r, Y, O, h1, h2, rfl, h4, h5⟩ := h
  obtain ⟨_, _, _, _, _, k⟩ := (hH.frz.row r Y h1 h2).1
  exact ⟨O, h5, k O h4⟩

theorem as_mem {P : Program} {X : Ing} {fAs fIs : FuncId} {tF tPP tE : TypeId} {blk : Nat} {OK : Obj → Prop} (hX : X.mh = asMh P fAs tF tPP fIs tE) (hT : okLT X.m X.G X.T = true) (ha : AsOk P fAs tF tPP blk OK) (hi : IsOk P fIs tF tE)
    (hinv : ∀ σ, X.inv σ → OwnInv blk OK σ) (F : List Fact) (f : FuncId) (args : List AVal) (hp : Hp) (v : AVal) (hp' : Hp) (h : (cxOf X F).mhook f args hp = some (v, hp')) : CallP P (cxOf X F) f args hp (.val v) hp' := by
  replace h : X.mh (symS (baseOf X F)) f args hp = some (v, hp') := h
  rw [hX] at h
  unfold asMh at h
  split at h
  · rename_i hf
    have hf := Nat.eq_of_beq_eq_true hf
    subst hf
    split at h
    · cases h
      refine callP_below (fun g w args' hg hl => ?_) hp
      obtain ⟨l⟩ := args'
      cases hl with
      | cons _ u1 _ _ h1 hl =>
      cases hl with
      | cons _ u2 _ _ h2 hl =>
      cases hl
      cases h1
      refine (ha.nil u2 w).mono ?_
      rintro e w' ⟨rfl, rfl⟩
      exact ⟨_, rfl, .bool _, Below.refl _ _⟩
    · rename_i t b off t2 tb o2
      split at h
      · rename_i ht
        rw [Bool.and_eq_true] at ht
        obtain ⟨ht1, ht2⟩ := ht
        have ht1 := Nat.eq_of_beq_eq_true ht1
        have ht2 := Nat.eq_of_beq_eq_true ht2
        subst ht1; subst ht2
        split at h
        · rename_i hq hs
          cases h
          refine ⟨storeV_touch hs, fun g w args' hH hl => ?_⟩
          obtain ⟨l⟩ := args'
          cases hl with
          | cons _ u1 _ _ h1 hl =>
          cases hl with
          | cons _ u2 _ _ h2 hl =>
          cases hl
          cases h1 with
          | iface _ _ p1 hp1 =>
          cases h2 with
          | iface _ _ p2 hp2 =>
          have hpp1 := hp1
          have hpp2 := hp2
          cases hp1 with
          | ptr _ _ L1 hL1 =>
          cases hp2 with
          | ptr _ _ L2 hL2 =>
          obtain ⟨c, e, hb, hlen⟩ := storeV_block hs
          obtain ⟨M, hM, C, fr, k1, k2, k3, k4, k5⟩ := hH.blk tb _ hb (by simp)
          rw [hL2] at hM; cases hM
          have hlen : 1 ≤ c.length - o2 := hlen
          have hlt : L2.dl + o2 < C.size := by omega
          have hcell : w.cell? ⟨L2.blk, L2.dl + o2, none⟩ = some C[L2.dl + o2] := by
            rw [cell_of k1]; simp [hlt]
          have hfro : w.frozen? ⟨L2.blk, L2.dl + o2, none⟩ = false := by
            have := k3 _ hlt
            unfold World.frozen?
            simp only [k1]
            simp only [Bool.and_eq_false_iff, decide_eq_false_iff_not]
            omega
          obtain ⟨O, hO1, hO2⟩ := own_of hH (hinv _ hH.sig.ok.2.inv)
          refine (ha.hit ⟨L1.blk, L1.dl + off, none⟩ ⟨L2.blk, L2.dl + o2, none⟩ _ w O hO1 hO2 hcell hfro).mono ?_
          rintro e w' ⟨rfl, w1, hB, hrun⟩
          obtain ⟨g1, g2⟩ := hH.below hB
          obtain ⟨w2, r1, r2, r3⟩ := storeV_sound (P := P) g1 hs hpp2 hpp1
          rw [r1] at hrun
          cases hrun
          exact ⟨g, ⟨_, rfl, .bool _⟩, r2, g2.trans hH r3⟩
        · cases h
      · cases h
    · cases h
  · split at h
    · rename_i hf
      have hf := Nat.eq_of_beq_eq_true hf
      subst hf
      split at h
      · rename_i t b off t2 c
        split at h
        · rename_i ht
          rw [Bool.and_eq_true] at ht
          obtain ⟨ht1, ht2⟩ := ht
          have ht1 := Nat.eq_of_beq_eq_true ht1
          have ht2 := Nat.eq_of_beq_eq_true ht2
          subst ht1; subst ht2
          split at h
          · rename_i cs ce hb
            split at h
            · rename_i a hca
              split at h
              · rename_i v' hv
                cases h
                refine ⟨Touch.refl _, fun g w args' hH hl => ?_⟩
                obtain ⟨l⟩ := args'
                cases hl with
                | cons _ u1 _ _ h1 hl =>
                cases hl with
                | cons _ u2 _ _ h2 hl =>
                cases hl
                cases h1 with
                | iface _ _ p1 hp1 =>
                cases h2 with
                | iface _ _ p2 hp2 =>
                cases hp1 with
                | ptr _ _ L1 hL1 =>
                obtain ⟨M, hM, C, fr, k1, k2, k3, k4, k5⟩ := hH.blk b _ hb (by simp)
                rw [hL1] at hM; cases hM
                obtain ⟨y, y1, y2, y3⟩ := k5 off a hca
                have go : ∀ (x z : Int), den g.sig a = .int .i64 x → den g.sig c = .int .i64 z → VRel g v (.bool (x == z)) →
                    Calls P f #[.iface t (.pointer (some ⟨L1.blk, L1.dl + off, none⟩)), .iface t2 p2] w fun e w' => ∃ g', OutRel g' (.val v) e ∧ HRel (cxOf X F) g' hp.heap w' ∧ Ext g hp.heap w g' hp.heap w' := by
                  intro x z dx dz hvz
                  have e1 : y = .int .i64 x := by
                    have := den_rel.2 y2; rw [dx] at this; cases this; rfl
                  have e2 : p2 = .int .i64 z := by
                    have := den_rel.2 hp2; rw [dz] at this; cases this; rfl
                  subst e1; subst e2
                  refine (hi.hit ⟨L1.blk, L1.dl + off, none⟩ z x w (by rw [cell_of k1]; exact y1)).mono ?_
                  rintro e w' ⟨rfl, hB⟩
                  obtain ⟨g1, g2⟩ := hH.below hB
                  exact ⟨g, ⟨_, rfl, hvz⟩, g1, g2⟩
                unfold isMh at hv
                split at hv
                · rename_i x z
                  cases hv
                  exact go x z rfl rfl (.bool _)
                · split at hv
                  · rename_i hi
                    rw [Bool.and_eq_true] at hi
                    obtain ⟨x, hx⟩ := isI64_den hi.1 g.sig
                    obtain ⟨z, hz⟩ := isI64_den hi.2 g.sig
                    obtain ⟨q, q1, q2⟩ := look_sound hT hH.sig hv
                    refine go x z hx hz (q2 _ ?_)
                    simp only [evalS, hx, hz, binS, intA, if_true, Option.some.injEq] at q1
                    subst q1
                    exact .bool _
                  · cases hv
              · cases h
            · cases h
          · cases h
        · cases h
      · cases h
    · cases h

/-- A closed call that is reckoned to give true, with such calls, in a world whose block is as told. -/
theorem closed_own {P : Program} {X : Ing} {mb : Bool} {fuel d : Nat} {f : FuncId} {Y : Fz} (hX : X.m = 0 ∧ X.G = [] ∧ X.T = .e ∧ X.n = 0 ∧ X.rows = [] ∧ X.cuts = []) (hinv : ∀ σ, (σ.ext = fun i => if i = 0 then some Y else none) → X.inv σ) (hkt : okKt X = true := by exact rfl) (hm : P.follows .mixedOrders = true) (hh : ∀ F, Hooks P (cxOf X F)) (h : isTrue ((evD P (cxOf X) mb fuel d).1 [] f [] ⟨[], []⟩) = true) (w : World) (hY : FzOk Y w) :
    Calls P f #[] w fun e w' => e = .returned (.bool true) ∧ RowKit.Below w.heap.size w w' := by
  obtain ⟨x1, x2, x3, x4, x5, x6⟩ := hX
  let σ : Sig := ⟨fun _ => 0, fun _ => false, fun _ => .empty, X.tab, fun i => if i = 0 then some Y else none⟩
  have hb : BaseOk X σ := ⟨by rw [x2]; intro k d h; simp at h, rfl, fun i k hi _ => by omega, by rw [x5]; exact rows_nil, by rw [x6]; exact cuts_nil, hinv _ rfl, hkt⟩
  have hg := cx_good (X := X) (F := []) (σ := σ) (by rw [x3]; rfl) hb trivial
  have h0 : HRel (cxOf X []) ⟨fun _ => none, σ, fun _ => none⟩ [] w := ⟨fun i L hi => by simp at hi, fun i j L M hi => by simp at hi, fun i k hi => by simp at hi, fun i hi => by have : (cxOf X []).n = 0 := x4; omega, hg,
    ⟨fun i Z hi _ => by have := ext_one (σ := σ) rfl hi; subst this; exact ⟨hY, fun j L hj => by cases hj⟩, fun i Y hi => by cases hi⟩⟩
  refine ((evD_env (mb := mb) (fuel := fuel) hm (cx_ok (by rw [x3]; rfl)) hh d).call [] f [] ⟨[], []⟩ (fun x => x.1 = .val (.bool true)) ⟨fun _ => none, σ, fun _ => none⟩ w #[] h0 .nil (isTrue_sat h)).mono ?_
  rintro e w' ⟨x, hq, _, g', h1, h2, h3⟩
  rw [hq] at h1
  obtain ⟨u, rfl, hu⟩ := h1
  cases hu
  exact ⟨rfl, h3.os, h3.tape, h3.output, h3.size, fun k hk => h3.frame k hk (fun i L hi => by simp at hi)⟩
end Go.Ev
