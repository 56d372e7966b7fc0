/- Calls known ahead that touch memory: errors.As and errors.Is, of errors of one type; a block that nothing writes. -/
import Derived.Test.YtlhaklmnjdgjgacGreatEwZl
namespace Go.Ev
open Go.RowKit
set_option linter.unusedVariables false
set_option linter.unusedSimpArgs false
set_option linter.unnecessarySimpa false

/-- errors.As at a target of one type: what it does to nil, and to an error of just that type. -/
structure AsOk (P : Program) (fAs : FuncId) (tF tPP : TypeId) (blk : Nat) (OK : Obj → Prop) : Prop where
  nil : ∀ (t : Value) (w : World), Calls P fAs #[.nilIface, t] w fun e w' => e = .returned (.bool false) ∧ w' = w
  hit : ∀ (p t : Addr) (old : Value) (w : World) (O : Obj), OK O → w.heap[blk]? = some O → w.cell? t = some old → w.frozen? t = false →
    Calls P fAs #[.iface tF (.pointer (some p)), .iface tPP (.pointer (some t))] w fun e w' => e = .returned (.bool true) ∧ ∃ w1, Below w.heap.size w w1 ∧ (Instr.storeAt tF (.pointer (some t)) (.pointer (some p))).run P w1 = .ok () w'

/-- errors.Is of such an error, and a code. -/
structure IsOk (P : Program) (fIs : FuncId) (tF tE : TypeId) : Prop where
  hit : ∀ (p : Addr) (c c' : Int) (w : World), w.cell? p = some (.int .i64 c') →
    Calls P fIs #[.iface tF (.pointer (some p)), .iface tE (.int .i64 c)] w fun e w' => e = .returned (.bool (c' == c)) ∧ Below w.heap.size w w'

def isMh (look : SDef → Option AVal) (a c : AVal) : Option AVal :=
  match a, c with
  | .int .i64 x, .int .i64 y => some (.bool (x == y))
  | a, c => match isI64 a && isI64 c with
    | true => look (.bin .eql a c)
    | false => none

def asMh (P : Program) (fAs : FuncId) (tF tPP : TypeId) (fIs : FuncId) (tE : TypeId) : MHookF := fun look f args hp =>
  match Nat.beq f fAs with
  | true => match args with
    | [.niliface, _] => some (.bool false, hp)
    | [.iface t (.ptr b off), .iface t2 (.ptr tb o2)] => match Nat.beq t tF && Nat.beq t2 tPP with
      | true => match storeV P tF (.ptr tb o2) (.ptr b off) hp with
        | some hp' => some (.bool true, hp')
        | none => none
      | false => none
    | _ => none
  | false => match Nat.beq f fIs with
    | true => match args with
      | [.iface t (.ptr b off), .iface t2 c] => match Nat.beq t tF && Nat.beq t2 tE with
        | true => match hp.heap[b]? with
          | some (.cells cs _) => match cs[off]? with
            | some a => match isMh look a c with
              | some v => some (v, hp)
              | none => none
            | none => none
          | _ => none
        | false => none
      | _ => none
    | false => none

theorem storeV_touch {P : Program} {ty : TypeId} {a v : AVal} {hp hp' : Hp} (h : storeV P ty a v hp = some hp') : Touch hp hp' := by
  unfold storeV at h
  split at h
  · split at h
    · rename_i hb
      split at h
      · split at h
        · split at h
          · cases h; exact set_touch hb
          · cases h
        · cases h
      · cases h
    · cases h
  · cases h

theorem storeV_block {P : Program} {ty : TypeId} {b off : Nat} {v : AVal} {hp hp' : Hp} (h : storeV P ty (.ptr b off) v hp = some hp') : ∃ c e, hp.heap[b]? = some (.cells c e) ∧ (acells v).length ≤ c.length - off := by
  unfold storeV at h
  split at h
  · rename_i b' off' e
    cases e
    split at h
    · rename_i c e hb
      split at h
      · split at h
        · rename_i hc
          exact ⟨c, e, hb, by omega⟩
        · cases h
      · cases h
    · cases h
  · rename_i hne; exact absurd rfl (hne _ _)

/-- The block is as it was when the run began. -/
def OwnInv (blk : Nat) (OK : Obj → Prop) (σ : Sig) : Prop := ∃ r Y O, σ.ext r = some Y ∧ 0 < Y.len ∧ Y.blk = blk ∧ Y.obj = some O ∧ OK O

theorem own_of {ng : Cx} {g : Inj} {H : List Blk} {w : World} {blk : Nat} {OK : Obj → Prop} (hH : HRel ng g H w) (h : OwnInv blk OK g.sig) : ∃ O, OK O ∧ w.heap[blk]? = some O := by
  obtain ⟨r, Y, O, h1, h2, rfl, h4, h5⟩ := h
  obtain ⟨_, _, _, _, _, k⟩ := (hH.frz.row r Y h1 h2).1
  exact ⟨O, h5, k O h4⟩

theorem as_mem {P : Program} {X : Ing} {fAs fIs : FuncId} {tF tPP tE : TypeId} {blk : Nat} {OK : Obj → Prop} (hX : X.mh = asMh P fAs tF tPP fIs tE) (hT : okLT X.m X.G X.T = true) (ha : AsOk P fAs tF tPP blk OK) (hi : IsOk P fIs tF tE)
    (hinv : ∀ σ, X.inv σ → OwnInv blk OK σ) (F : List Fact) (f : FuncId) (args : List AVal) (hp : Hp) (v : AVal) (hp' : Hp) (h : (cxOf X F).mhook f args hp = some (v, hp')) : CallP P (cxOf X F) f args hp (.val v) hp' := by
  replace h : X.mh (symS (baseOf X F)) f args hp = some (v, hp') := h
  rw [hX] at h
  unfold asMh at h
  split at h
  · rename_i hf
    have hf := Nat.eq_of_beq_eq_true hf
    subst hf
    split at h
    · cases h
      refine callP_below (fun g w args' hg hl => ?_) hp
      obtain ⟨l⟩ := args'
      cases hl with
      | cons _ u1 _ _ h1 hl =>
      cases hl with
      | cons _ u2 _ _ h2 hl =>
      cases hl
      cases h1
      refine (ha.nil u2 w).mono ?_
      rintro e w' ⟨rfl, rfl⟩
      exact ⟨_, rfl, .bool _, Below.refl _ _⟩
    · rename_i t b off t2 tb o2
      split at h
      · rename_i ht
        rw [Bool.and_eq_true] at ht
        obtain ⟨ht1, ht2⟩ := ht
        have ht1 := Nat.eq_of_beq_eq_true ht1
        have ht2 := Nat.eq_of_beq_eq_true ht2
        subst ht1; subst ht2
        split at h
        · rename_i hq hs
          cases h
          refine ⟨storeV_touch hs, fun g w args' hH hl => ?_⟩
          obtain ⟨l⟩ := args'
          cases hl with
          | cons _ u1 _ _ h1 hl =>
          cases hl with
          | cons _ u2 _ _ h2 hl =>
          cases hl
          cases h1 with
          | iface _ _ p1 hp1 =>
          cases h2 with
          | iface _ _ p2 hp2 =>
          have hpp1 := hp1
          have hpp2 := hp2
          cases hp1 with
          | ptr _ _ L1 hL1 =>
          cases hp2 with
          | ptr _ _ L2 hL2 =>
          obtain ⟨c, e, hb, hlen⟩ := storeV_block hs
          obtain ⟨M, hM, C, fr, k1, k2, k3, k4, k5⟩ := hH.blk tb _ hb (by simp)
          rw [hL2] at hM; cases hM
          have hlen : 1 ≤ c.length - o2 := hlen
          have hlt : L2.dl + o2 < C.size := by omega
          have hcell : w.cell? ⟨L2.blk, L2.dl + o2, none⟩ = some C[L2.dl + o2] := by
            rw [cell_of k1]; simp [hlt]
          have hfro : w.frozen? ⟨L2.blk, L2.dl + o2, none⟩ = false := by
            have := k3.1 _ hlt
            unfold World.frozen?
            simp only [k1]
            simp only [Bool.and_eq_false_iff, decide_eq_false_iff_not]
            omega
          obtain ⟨O, hO1, hO2⟩ := own_of hH (hinv _ hH.sig.ok.2.inv)
          refine (ha.hit ⟨L1.blk, L1.dl + off, none⟩ ⟨L2.blk, L2.dl + o2, none⟩ _ w O hO1 hO2 hcell hfro).mono ?_
          rintro e w' ⟨rfl, w1, hB, hrun⟩
          obtain ⟨g1, g2⟩ := hH.below hB
          obtain ⟨w2, r1, r2, r3⟩ := storeV_sound (P := P) g1 hs hpp2 hpp1
          rw [r1] at hrun
          cases hrun
          exact ⟨g, ⟨_, rfl, .bool _⟩, r2, g2.trans hH r3⟩
        · cases h
      · cases h
    · cases h
  · split at h
    · rename_i hf
      have hf := Nat.eq_of_beq_eq_true hf
      subst hf
      split at h
      · rename_i t b off t2 c
        split at h
        · rename_i ht
          rw [Bool.and_eq_true] at ht
          obtain ⟨ht1, ht2⟩ := ht
          have ht1 := Nat.eq_of_beq_eq_true ht1
          have ht2 := Nat.eq_of_beq_eq_true ht2
          subst ht1; subst ht2
          split at h
          · rename_i cs ce hb
            split at h
            · rename_i a hca
              split at h
              · rename_i v' hv
                cases h
                refine ⟨Touch.refl _, fun g w args' hH hl => ?_⟩
                obtain ⟨l⟩ := args'
                cases hl with
                | cons _ u1 _ _ h1 hl =>
                cases hl with
                | cons _ u2 _ _ h2 hl =>
                cases hl
                cases h1 with
                | iface _ _ p1 hp1 =>
                cases h2 with
                | iface _ _ p2 hp2 =>
                cases hp1 with
                | ptr _ _ L1 hL1 =>
                obtain ⟨M, hM, C, fr, k1, k2, k3, k4, k5⟩ := hH.blk b _ hb (by simp)
                rw [hL1] at hM; cases hM
                obtain ⟨y, y1, y2, y3⟩ := k5 off a hca
                have go : ∀ (x z : Int), den g.sig a = .int .i64 x → den g.sig c = .int .i64 z → VRel g v (.bool (x == z)) →
                    Calls P f #[.iface t (.pointer (some ⟨L1.blk, L1.dl + off, none⟩)), .iface t2 p2] w fun e w' => ∃ g', OutRel g' (.val v) e ∧ HRel (cxOf X F) g' hp.heap w' ∧ Ext g hp.heap w g' hp.heap w' := by
                  intro x z dx dz hvz
                  have e1 : y = .int .i64 x := by
                    have := den_rel.2 y2; rw [dx] at this; cases this; rfl
                  have e2 : p2 = .int .i64 z := by
                    have := den_rel.2 hp2; rw [dz] at this; cases this; rfl
                  subst e1; subst e2
                  refine (hi.hit ⟨L1.blk, L1.dl + off, none⟩ z x w (by rw [cell_of k1]; exact y1)).mono ?_
                  rintro e w' ⟨rfl, hB⟩
                  obtain ⟨g1, g2⟩ := hH.below hB
                  exact ⟨g, ⟨_, rfl, hvz⟩, g1, g2⟩
                unfold isMh at hv
                split at hv
                · rename_i x z
                  cases hv
                  exact go x z rfl rfl (.bool _)
                · split at hv
                  · rename_i hi
                    rw [Bool.and_eq_true] at hi
                    obtain ⟨x, hx⟩ := isI64_den hi.1 g.sig
                    obtain ⟨z, hz⟩ := isI64_den hi.2 g.sig
                    obtain ⟨q, q1, q2⟩ := look_sound hT hH.sig hv
                    refine go x z hx hz (q2 _ ?_)
                    simp only [evalS, hx, hz, binS, intA, if_true, Option.some.injEq] at q1
                    subst q1
                    exact .bool _
                  · cases hv
              · cases h
            · cases h
          · cases h
        · cases h
      · cases h
    · cases h

/-- A closed call that is reckoned to give true, with such calls, in a world whose block is as told. -/
theorem closed_own {P : Program} {X : Ing} {mb : Bool} {fuel d : Nat} {f : FuncId} {Y : Fz} (hX : X.m = 0 ∧ X.G = [] ∧ X.T = .e ∧ X.n = 0 ∧ X.rows = [] ∧ X.cuts = []) (hinv : ∀ σ, (σ.ext = fun i => if i = 0 then some Y else none) → X.inv σ) (hkt : okKt X = true := by exact rfl) (hm : P.follows .mixedOrders = true) (hh : ∀ F, Hooks P (cxOf X F)) (h : isTrue ((evD P (cxOf X) mb fuel d).1 [] f [] ⟨[], []⟩) = true) (w : World) (hY : FzOk Y w) :
    Calls P f #[] w fun e w' => e = .returned (.bool true) ∧ RowKit.Below w.heap.size w w' := by
  obtain ⟨x1, x2, x3, x4, x5, x6⟩ := hX
  let σ : Sig := ⟨fun _ => 0, fun _ => false, fun _ => .empty, X.tab, fun i => if i = 0 then some Y else none⟩
  have hb : BaseOk X σ := ⟨by rw [x2]; intro k d h; simp at h, rfl, fun i k hi _ => by omega, by rw [x5]; exact rows_nil, by rw [x6]; exact cuts_nil, hinv _ rfl, hkt⟩
  have hg := cx_good (X := X) (F := []) (σ := σ) (by rw [x3]; rfl) hb trivial
  have h0 : HRel (cxOf X []) ⟨fun _ => none, σ, fun _ => none⟩ [] w := ⟨fun i L hi => by simp at hi, fun i j L M hi => by simp at hi, fun i k hi => by simp at hi, fun i hi => by have : (cxOf X []).n = 0 := x4; omega, hg,
    ⟨fun i Z hi _ => by have := ext_one (σ := σ) rfl hi; subst this; exact ⟨hY, fun j L hj => by cases hj⟩, fun i Y hi => by cases hi⟩⟩
  refine ((evD_env (mb := mb) (fuel := fuel) hm (cx_ok (by rw [x3]; rfl)) hh d).call [] f [] ⟨[], []⟩ (fun x => x.1 = .val (.bool true)) ⟨fun _ => none, σ, fun _ => none⟩ w #[] h0 .nil (isTrue_sat h)).mono ?_
  rintro e w' ⟨x, hq, _, g', h1, h2, h3⟩
  rw [hq] at h1
  obtain ⟨u, rfl, hu⟩ := h1
  cases hu
  exact ⟨rfl, h3.os, h3.tape, h3.output, h3.size, fun k hk => h3.frame k hk (fun i L hi => by simp at hi)⟩

/-! ### Functions without arguments that give true in such a world; pieces of code in such a world -/

def trueMh (fs : List Nat) : MHookF := fun _ f args hp =>
  match args with
  | [] => match fs.any (Nat.beq f) with
    | true => some (.bool true, hp)
    | false => none
  | _ => none

theorem true_mem {P : Program} {X : Ing} {fs : List Nat} {blk : Nat} {OK : Obj → Prop} (hX : X.mh = trueMh fs)
    (h : ∀ f, f ∈ fs → ∀ (w : World) (O : Obj), OK O → w.heap[blk]? = some O → Calls P f #[] w fun e w' => e = .returned (.bool true) ∧ Below w.heap.size w w')
    (hinv : ∀ σ, X.inv σ → OwnInv blk OK σ) (F : List Fact) (f : FuncId) (args : List AVal) (hp : Hp) (v : AVal) (hp' : Hp) (hm : (cxOf X F).mhook f args hp = some (v, hp')) : CallP P (cxOf X F) f args hp (.val v) hp' := by
  replace hm : X.mh (symS (baseOf X F)) f args hp = some (v, hp') := hm
  rw [hX] at hm
  unfold trueMh at hm
  split at hm
  · split at hm
    · rename_i hf
      cases hm
      obtain ⟨f', hf1, hf2⟩ := List.any_eq_true.1 hf
      have := Nat.eq_of_beq_eq_true hf2
      subst this
      refine ⟨Touch.refl _, fun g w args' hH hl => ?_⟩
      obtain ⟨l⟩ := args'
      cases hl
      obtain ⟨O, hO1, hO2⟩ := own_of hH (hinv _ hH.sig.ok.2.inv)
      refine (h f hf1 w O hO1 hO2).mono ?_
      rintro e w' ⟨rfl, hB⟩
      obtain ⟨g1, g2⟩ := hH.below hB
      exact ⟨g, ⟨_, rfl, .bool _⟩, g1, g2⟩
    · cases hm
  · cases hm

structure SegOkI (P : Program) (tab : TabF) (n : Nat) (c : List Code) (s : Shape) (X : Ing) (W : Sw) : Prop where
  lt : okLT X.m X.G X.T = true
  ok : okG X.G X.m = true
  hook : ∀ F, Hooks P (cxOf X F)
  n0 : X.n = 0
  id : idOk s X.m = true
  reck : okSw (fun F => runL P (cxOf X) true X.fu (evD P (cxOf X) true X.fu 40).1 (evD P (cxOf X) true X.fu 40).2 c F (tmOf s n) ⟨s.heap, []⟩) W [] = true
  tab : X.tab = tab
  cuts : X.cuts = []
  kt : okKt X = true := by exact rfl

/-- A piece, where more is taken of the unknowns. -/
theorem Stage.segI {P : Program} {tab : TabF} {n : Nat} {W0 : World} {Z : Exit → Act → World → Prop} {c1 c2 : List Code} {S S2 : Shape} {q q2 : Nat} {ins ins2 : List (Option IntKind)} {J J2 : Sig → Prop} {X : Ing} {Wt : Sw}
    (hm : P.follows .mixedOrders = true) (s : SegOkI P tab n c1 S X Wt) (aX : X.m = q ∧ X.ins = ins) (hJ : ∀ σ τ, Agree q σ τ → J σ → J τ) (hr : ∀ τ, J τ → RowsOk τ X.rows) (hinv : ∀ τ, J τ → X.inv τ)
    (next : Stage P tab n W0 Z c2 S2 q2 ins2 J2)
    (o : ∀ τ, Eqs τ q X.G → τ.tab = tab → InsOk τ q ins → J τ → segsW τ (fun x s σ2 => (x = .normal ∧ s = S2 ∧ InsOk σ2 q2 ins2 ∧ J2 σ2 ∧ σ2.tab = tab) ∨ (x ≠ .normal ∧ EndZ tab n W0 Z x s σ2)) Wt []) :
    Stage P tab n W0 Z (c1 ++ c2) S q ins J := by
  intro a w σ hA hi hj ht
  obtain ⟨rfl, rfl⟩ := aX
  have ag := agree_solve X.G X.m σ
  have hi2 : InsOk (solve X.G X.m σ) X.m X.ins := by
    intro i k hi' hk
    rw [← (ag.val i hi').1]; exact hi i k hi' hk
  have hj2 := hJ _ _ ag hj
  have ob := o _ (eqs_solve s.ok) (by rw [← ag.tab]; exact ht) hi2 hj2
  rw [chainK_append]
  have ht' := s.tab
  subst ht'
  refine segL hm s.lt s.ok s.hook s.n0 s.id s.reck hA hi ob ?_ (hr _ hj2) (by rw [s.cuts]; exact cuts_nil) (hinv _ hj2) s.kt
  rintro e a' w' x s2 σ2 hx hq hA2
  rcases hq with ⟨rfl, rfl, gi, gj, gt⟩ | ⟨hne, hz⟩
  · cases e <;> simp only [SExRel] at hx
    exact next a' w' σ2 hA2 gi gj gt
  · have := hz e a' w' hx hA2
    cases e with
    | normal => cases x <;> simp only [SExRel] at hx; exact absurd rfl hne
    | _ => exact this

def sigO (tab : TabF) (l : List Int) (Y : Fz) : Sig := ⟨fun i => l.getD i 0, fun i => !(l.getD i 0 == 0), fun _ => .empty, tab, fun i => if i = 0 then some Y else none⟩

/-- A call of numbers, in a world with a block that nothing writes, in stages. -/
theorem calls_of_stageO {P : Program} {f : FuncId} {fn : Func} {tab : TabF} {ss : List Sh} {n : Nat} {R : Ending → World → Prop} {Y : Fz} {W : World}
    (hf : P.funcs[f]? = some fn) (hb : fn.body = some (bodyOf fn)) (hn : fn.ntmps = n) (hna : ∀ l : List Int, (encS ss l).length ≤ n) (hY : FzOk Y W) {l : List Int} (hl : InR (cellsOf ss) l)
    (h : Stage P tab n W (bodyPost P fn R) (flatC (bodyOf fn)) ⟨argT 0 (symSh ss 0), []⟩ (cellsOf ss).length ((cellsOf ss).map kindC) (fun σ => (∀ i, i < (cellsOf ss).length → σ.ival i = l.getD i 0) ∧ σ.ext = fun i => if i = 0 then some Y else none)) :
    Calls P f (encS ss l).toArray W R := by
  refine calls_body hf hb ?_
  rw [hn]
  have hA0 : At tab ⟨argT 0 (symSh ss 0), []⟩ n (sigO tab l Y) W { tmps := (encS ss l).toArray ++ Array.replicate (n - (encS ss l).toArray.size) undef, defers := [] } W := by
    refine at_start (tab := tab) (args := symSh ss 0) (args' := (encS ss l).toArray) rfl ?_ (by simpa using hna l) W ?_
    · refine symSh_rel ss l 0 hl (fun i hil => ?_)
      rw [Nat.zero_add]
      exact ⟨rfl, rfl⟩
    · intro i Z h hZ
      have := ext_one (σ := sigO tab l Y) rfl h
      subst this
      exact hY
  have hin0 : InsOk (sigO tab l Y) (cellsOf ss).length ((cellsOf ss).map kindC) := by
    intro i k hi hk
    refine inR_get hl i k ?_
    rw [List.getElem?_map] at hk
    cases hc : (cellsOf ss)[i]? with
    | none => rw [hc] at hk; simp at hk
    | some c =>
      rw [hc] at hk
      cases c with
      | i k' => simp [kindC] at hk; rw [hk]
      | b => simp [kindC] at hk
  have := flat_wp _ (h _ _ (sigO tab l Y) hA0 hin0 ⟨fun i _ => rfl, rfl⟩ rfl)
  rwa [then_self] at this
end Go.Ev
