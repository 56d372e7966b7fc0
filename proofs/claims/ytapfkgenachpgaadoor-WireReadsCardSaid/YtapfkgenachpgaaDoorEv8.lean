/- The evaluator, part 8. -/
import Derived.Test.YtapfkgenachpgaaDoorEv7
namespace Go.Ev
open Go.RowKit
set_option linter.unusedVariables false
set_option linter.unusedSimpArgs false
set_option linter.unnecessarySimpa false
/-- errors.As at a target of one type: what it does to nil, and to an error of just that type. -/
structure AsOk (P : Program) (fAs : FuncId) (tF tPP : TypeId) (blk : Nat) (OK : Obj → Prop) : Prop where
  nil : ∀ (t : Value) (w : World), Calls P fAs #[.nilIface, t] w fun e w' => e = .returned (.bool false) ∧ w' = w
  hit : ∀ (p t : Addr) (old : Value) (w : World) (O : Obj), OK O → w.heap[blk]? = some O → w.cell? t = some old → w.frozen? t = false →
    Calls P fAs #[.iface tF (.pointer (some p)), .iface tPP (.pointer (some t))] w fun e w' => e = .returned (.bool true) ∧ ∃ w1, Below w.heap.size w w1 ∧ (Instr.storeAt tF (.pointer (some t)) (.pointer (some p))).run P w1 = .ok () w'
/-- errors.Is of such an error, and a code. -/
structure IsOk (P : Program) (fIs : FuncId) (tF tE : TypeId) : Prop where
  hit : ∀ (p : Addr) (c c' : Int) (w : World), w.cell? p = some (.int .i64 c') →
    Calls P fIs #[.iface tF (.pointer (some p)), .iface tE (.int .i64 c)] w fun e w' => e = .returned (.bool (c' == c)) ∧ Below w.heap.size w w'
def isMh (look : SDef → Option AVal) (a c : AVal) : Option AVal :=
  match a, c with
  | .int .i64 x, .int .i64 y => some (.bool (x == y))
  | a, c => match isI64 a && isI64 c with
    | true => look (.bin .eql a c)
    | false => none
def asMh (P : Program) (fAs : FuncId) (tF tPP : TypeId) (fIs : FuncId) (tE : TypeId) : MHookF := fun look f args hp =>
  match Nat.beq f fAs with
  | true => match args with
    | [.niliface, _] => some (.bool false, hp)
    | [.iface t (.ptr b off), .iface t2 (.ptr tb o2)] => match Nat.beq t tF && Nat.beq t2 tPP with
      | true => match storeV P tF (.ptr tb o2) (.ptr b off) hp with
        | some hp' => some (.bool true, hp')
        | none => none
      | false => none
    | _ => none
  | false => match Nat.beq f fIs with
    | true => match args with
      | [.iface t (.ptr b off), .iface t2 c] => match Nat.beq t tF && Nat.beq t2 tE with
        | true => match hp.heap[b]? with
          | some (.cells cs _) => match cs[off]? with
            | some a => match isMh look a c with
              | some v => some (v, hp)
              | none => none
            | none => none
          | _ => none
        | false => none
      | _ => none
    | false => none
theorem storeV_touch {P : Program} {ty : TypeId} {a v : AVal} {hp hp' : Hp} (h : storeV P ty a v hp = some hp') : Touch hp hp' := by
  unfold storeV at h
  split at h
  · split at h
    · rename_i hb
      split at h
      · split at h
        · split at h
          · cases h; exact set_touch hb
          · cases h
        · cases h
      · cases h
    · cases h
  · cases h
theorem storeV_block {P : Program} {ty : TypeId} {b off : Nat} {v : AVal} {hp hp' : Hp} (h : storeV P ty (.ptr b off) v hp = some hp') : ∃ c e, hp.heap[b]? = some (.cells c e) ∧ (acells v).length ≤ c.length - off := by
  unfold storeV at h
  split at h
  · rename_i b' off' e
    cases e
    split at h
    · rename_i c e hb
      split at h
      · split at h
        · rename_i hc
          exact ⟨c, e, hb, by omega⟩
        · cases h
      · cases h
    · cases h
  · rename_i hne; exact absurd rfl (hne _ _)
/-- The block is as it was when the run began. -/
def OwnInv (blk : Nat) (OK : Obj → Prop) (σ : Sig) : Prop := ∃ r Y O, σ.ext r = some Y ∧ 0 < Y.len ∧ Y.blk = blk ∧ Y.obj = some O ∧ OK O
theorem own_of {ng : Cx} {g : Inj} {H : List Blk} {w : World} {blk : Nat} {OK : Obj → Prop} (hH : HRel ng g H w) (h : OwnInv blk OK g.sig) : ∃ O, OK O ∧ w.heap[blk]? = some O := by
  obtain ⟨r, Y, O, h1, h2, rfl, h4, h5⟩ := h
  obtain ⟨_, _, _, _, _, k⟩ := (hH.frz.row r Y h1 h2).1
  exact ⟨O, h5, k O h4⟩
theorem as_mem0 {P : Program} {X : Ing} {fAs fIs : FuncId} {tF tPP tE : TypeId} {blk : Nat} {OK : Obj → Prop} (hT : okLT X.m X.G X.T = true) (ha : AsOk P fAs tF tPP blk OK) (hi : IsOk P fIs tF tE)
    (hinv : ∀ σ, X.inv σ → OwnInv blk OK σ) (F : List Fact) (f : FuncId) (args : List AVal) (hp : Hp) (v : AVal) (hp' : Hp) (h : asMh P fAs tF tPP fIs tE (symS (baseOf X F)) f args hp = some (v, hp')) : CallP P (cxOf X F) f args hp (.val v) hp' := by
  unfold asMh at h
  split at h
  · rename_i hf
    have hf := Nat.eq_of_beq_eq_true hf
    subst hf
    split at h
    · cases h
      refine callP_below (fun g w args' hg hl => ?_) hp
      obtain ⟨l⟩ := args'
      cases hl with
      | cons _ u1 _ _ h1 hl =>
      cases hl with
      | cons _ u2 _ _ h2 hl =>
      cases hl
      cases h1
      refine (ha.nil u2 w).mono ?_
      rintro e w' ⟨rfl, rfl⟩
      exact ⟨_, rfl, .bool _, Below.refl _ _⟩
    · rename_i t b off t2 tb o2
      split at h
      · rename_i ht
        rw [Bool.and_eq_true] at ht
        obtain ⟨ht1, ht2⟩ := ht
        have ht1 := Nat.eq_of_beq_eq_true ht1
        have ht2 := Nat.eq_of_beq_eq_true ht2
        subst ht1; subst ht2
        split at h
        · rename_i hq hs
          cases h
          refine ⟨storeV_touch hs, fun g w args' hH hl => ?_⟩
          obtain ⟨l⟩ := args'
          cases hl with
          | cons _ u1 _ _ h1 hl =>
          cases hl with
          | cons _ u2 _ _ h2 hl =>
          cases hl
          cases h1 with
          | iface _ _ p1 hp1 =>
          cases h2 with
          | iface _ _ p2 hp2 =>
          have hpp1 := hp1
          have hpp2 := hp2
          cases hp1 with
          | ptr _ _ L1 hL1 =>
          cases hp2 with
          | ptr _ _ L2 hL2 =>
          obtain ⟨c, e, hb, hlen⟩ := storeV_block hs
          obtain ⟨M, hM, C, fr, k1, k2, k3, k4, k5⟩ := hH.blk tb _ hb (by simp)
          rw [hL2] at hM; cases hM
          have hlen : 1 ≤ c.length - o2 := hlen
          have hlt : L2.dl + o2 < C.size := by omega
          have hcell : w.cell? ⟨L2.blk, L2.dl + o2, none⟩ = some C[L2.dl + o2] := by
            rw [cell_of k1]; simp [hlt]
          have hfro : w.frozen? ⟨L2.blk, L2.dl + o2, none⟩ = false := by
            have := k3.1 _ hlt
            unfold World.frozen?
            simp only [k1]
            simp only [Bool.and_eq_false_iff, decide_eq_false_iff_not]
            omega
          obtain ⟨O, hO1, hO2⟩ := own_of hH (hinv _ hH.sig.ok.2.inv)
          refine (ha.hit ⟨L1.blk, L1.dl + off, none⟩ ⟨L2.blk, L2.dl + o2, none⟩ _ w O hO1 hO2 hcell hfro).mono ?_
          rintro e w' ⟨rfl, w1, hB, hrun⟩
          obtain ⟨g1, g2⟩ := hH.below hB
          obtain ⟨w2, r1, r2, r3⟩ := storeV_sound (P := P) g1 hs hpp2 hpp1
          rw [r1] at hrun
          cases hrun
          exact ⟨g, ⟨_, rfl, .bool _⟩, r2, g2.trans hH r3⟩
        · cases h
      · cases h
    · cases h
  · split at h
    · rename_i hf
      have hf := Nat.eq_of_beq_eq_true hf
      subst hf
      split at h
      · rename_i t b off t2 c
        split at h
        · rename_i ht
          rw [Bool.and_eq_true] at ht
          obtain ⟨ht1, ht2⟩ := ht
          have ht1 := Nat.eq_of_beq_eq_true ht1
          have ht2 := Nat.eq_of_beq_eq_true ht2
          subst ht1; subst ht2
          split at h
          · rename_i cs ce hb
            split at h
            · rename_i a hca
              split at h
              · rename_i v' hv
                cases h
                refine ⟨Touch.refl _, fun g w args' hH hl => ?_⟩
                obtain ⟨l⟩ := args'
                cases hl with
                | cons _ u1 _ _ h1 hl =>
                cases hl with
                | cons _ u2 _ _ h2 hl =>
                cases hl
                cases h1 with
                | iface _ _ p1 hp1 =>
                cases h2 with
                | iface _ _ p2 hp2 =>
                cases hp1 with
                | ptr _ _ L1 hL1 =>
                obtain ⟨M, hM, C, fr, k1, k2, k3, k4, k5⟩ := hH.blk b _ hb (by simp)
                rw [hL1] at hM; cases hM
                obtain ⟨y, y1, y2, y3⟩ := k5 off a hca
                have go : ∀ (x z : Int), den g.sig a = .int .i64 x → den g.sig c = .int .i64 z → VRel g v (.bool (x == z)) →
                    Calls P f #[.iface t (.pointer (some ⟨L1.blk, L1.dl + off, none⟩)), .iface t2 p2] w fun e w' => ∃ g', OutRel g' (.val v) e ∧ HRel (cxOf X F) g' hp.heap w' ∧ Ext g hp.heap w g' hp.heap w' := by
                  intro x z dx dz hvz
                  have e1 : y = .int .i64 x := by
                    have := den_rel.2 y2; rw [dx] at this; cases this; rfl
                  have e2 : p2 = .int .i64 z := by
                    have := den_rel.2 hp2; rw [dz] at this; cases this; rfl
                  subst e1; subst e2
                  refine (hi.hit ⟨L1.blk, L1.dl + off, none⟩ z x w (by rw [cell_of k1]; exact y1)).mono ?_
                  rintro e w' ⟨rfl, hB⟩
                  obtain ⟨g1, g2⟩ := hH.below hB
                  exact ⟨g, ⟨_, rfl, hvz⟩, g1, g2⟩
                unfold isMh at hv
                split at hv
                · rename_i x z
                  cases hv
                  exact go x z rfl rfl (.bool _)
                · split at hv
                  · rename_i hi
                    rw [Bool.and_eq_true] at hi
                    obtain ⟨x, hx⟩ := isI64_den hi.1 g.sig
                    obtain ⟨z, hz⟩ := isI64_den hi.2 g.sig
                    obtain ⟨q, q1, q2⟩ := look_sound hT hH.sig hv
                    refine go x z hx hz (q2 _ ?_)
                    simp only [evalS, hx, hz, binS, intA, if_true, Option.some.injEq] at q1
                    subst q1
                    exact .bool _
                  · cases hv
              · cases h
            · cases h
          · cases h
        · cases h
      · cases h
    · cases h
theorem as_mem {P : Program} {X : Ing} {fAs fIs : FuncId} {tF tPP tE : TypeId} {blk : Nat} {OK : Obj → Prop} (hX : X.mh = asMh P fAs tF tPP fIs tE) (hT : okLT X.m X.G X.T = true) (ha : AsOk P fAs tF tPP blk OK) (hi : IsOk P fIs tF tE)
    (hinv : ∀ σ, X.inv σ → OwnInv blk OK σ) (F : List Fact) (f : FuncId) (args : List AVal) (hp : Hp) (v : AVal) (hp' : Hp) (h : (cxOf X F).mhook f args hp = some (v, hp')) : CallP P (cxOf X F) f args hp (.val v) hp' := by
  replace h : X.mh (symS (baseOf X F)) f args hp = some (v, hp') := h
  rw [hX] at h
  exact as_mem0 hT ha hi hinv F f args hp v hp' h
/-- A closed call that is reckoned to give true, with such calls, in a world whose block is as told. -/
theorem closed_own {P : Program} {X : Ing} {mb : Bool} {fuel d : Nat} {f : FuncId} {Y : Fz} (hX : X.m = 0 ∧ X.G = [] ∧ X.T = .e ∧ X.n = 0 ∧ X.rows = [] ∧ X.cuts = []) (hinv : ∀ σ, (σ.ext = fun i => if i = 0 then some Y else none) → X.inv σ) (hkt : okKt X = true := by exact rfl) (hm : P.follows .mixedOrders = true) (hh : ∀ F, Hooks P (cxOf X F)) (h : isTrue ((evD P (cxOf X) mb fuel d).1 [] f [] ⟨[], []⟩) = true) (w : World) (hY : FzOk Y w) :
    Calls P f #[] w fun e w' => e = .returned (.bool true) ∧ RowKit.Below w.heap.size w w' := by
  obtain ⟨x1, x2, x3, x4, x5, x6⟩ := hX
  let σ : Sig := ⟨fun _ => 0, fun _ => false, fun _ => .empty, X.tab, fun i => if i = 0 then some Y else none⟩
  have hb : BaseOk X σ := ⟨by rw [x2]; intro k d h; simp at h, rfl, fun i k hi _ => by omega, by rw [x5]; exact rows_nil, by rw [x6]; exact cuts_nil, hinv _ rfl, hkt⟩
  have hg := cx_good (X := X) (F := []) (σ := σ) (by rw [x3]; rfl) hb trivial
  have h0 : HRel (cxOf X []) ⟨fun _ => none, σ, fun _ => none⟩ [] w := ⟨fun i L hi => by simp at hi, fun i j L M hi => by simp at hi, fun i k hi => by simp at hi, fun i hi => by have : (cxOf X []).n = 0 := x4; omega, hg,
    ⟨fun i Z hi _ => by have := ext_one (σ := σ) rfl hi; subst this; exact ⟨hY, fun j L hj => by cases hj⟩, fun i Y hi => by cases hi⟩⟩
  refine ((evD_env (mb := mb) (fuel := fuel) hm (cx_ok (by rw [x3]; rfl)) hh d).call [] f [] ⟨[], []⟩ (fun x => x.1 = .val (.bool true)) ⟨fun _ => none, σ, fun _ => none⟩ w #[] h0 .nil (isTrue_sat h)).mono ?_
  rintro e w' ⟨x, hq, _, g', h1, h2, h3⟩
  rw [hq] at h1
  obtain ⟨u, rfl, hu⟩ := h1
  cases hu
  exact ⟨rfl, h3.os, h3.tape, h3.output, h3.size, fun k hk => h3.frame k hk (fun i L hi => by simp at hi)⟩
/-! ### Functions without arguments that give true in such a world; pieces of code in such a world -/
def trueMh (fs : List Nat) : MHookF := fun _ f args hp =>
  match args with
  | [] => match fs.any (Nat.beq f) with
    | true => some (.bool true, hp)
    | false => none
  | _ => none
theorem true_mem {P : Program} {X : Ing} {fs : List Nat} {blk : Nat} {OK : Obj → Prop} (hX : X.mh = trueMh fs)
    (h : ∀ f, f ∈ fs → ∀ (w : World) (O : Obj), OK O → w.heap[blk]? = some O → Calls P f #[] w fun e w' => e = .returned (.bool true) ∧ Below w.heap.size w w')
    (hinv : ∀ σ, X.inv σ → OwnInv blk OK σ) (F : List Fact) (f : FuncId) (args : List AVal) (hp : Hp) (v : AVal) (hp' : Hp) (hm : (cxOf X F).mhook f args hp = some (v, hp')) : CallP P (cxOf X F) f args hp (.val v) hp' := by
  replace hm : X.mh (symS (baseOf X F)) f args hp = some (v, hp') := hm
  rw [hX] at hm
  unfold trueMh at hm
  split at hm
  · split at hm
    · rename_i hf
      cases hm
      obtain ⟨f', hf1, hf2⟩ := List.any_eq_true.1 hf
      have := Nat.eq_of_beq_eq_true hf2
      subst this
      refine ⟨Touch.refl _, fun g w args' hH hl => ?_⟩
      obtain ⟨l⟩ := args'
      cases hl
      obtain ⟨O, hO1, hO2⟩ := own_of hH (hinv _ hH.sig.ok.2.inv)
      refine (h f hf1 w O hO1 hO2).mono ?_
      rintro e w' ⟨rfl, hB⟩
      obtain ⟨g1, g2⟩ := hH.below hB
      exact ⟨g, ⟨_, rfl, .bool _⟩, g1, g2⟩
    · cases hm
  · cases hm
structure SegOkI (P : Program) (tab : TabF) (n : Nat) (c : List Code) (s : Shape) (X : Ing) (W : Sw) : Prop where
  lt : okLT X.m X.G X.T = true
  ok : okG X.G X.m = true
  hook : ∀ F, Hooks P (cxOf X F)
  n0 : X.n = 0
  id : idOk s X.m = true
  reck : okSw (fun F => runL P (cxOf X) true X.fu (evD P (cxOf X) true X.fu 40).1 (evD P (cxOf X) true X.fu 40).2 c F (tmOf s n) ⟨s.heap, []⟩) W [] = true
  tab : X.tab = tab
  cuts : X.cuts = []
  kt : okKt X = true := by exact rfl
end Go.Ev
namespace Go.Ev
open Go.RowKit
set_option linter.unusedVariables false
set_option linter.unusedSimpArgs false
/-- A call of literal arguments: the function, the arguments, and the truth that it gives. -/
structure LitE where
  f : FuncId
  args : List AVal
  b : Bool
def orMh (a b : MHookF) : MHookF := fun look f args hp =>
  match a look f args hp with
  | some r => some r
  | none => b look f args hp
end Go.Ev
namespace Go.Ev
open Go.RowKit
set_option linter.unusedVariables false
set_option linter.unusedSimpArgs false
/-- A call of literal arguments: what it gives, and the new blocks that this reaches. -/
structure MemE where
  f : FuncId
  args : List AVal
  v : AVal
  bs : List Blk
end Go.Ev
namespace Go.Ev
open Go.RowKit
set_option linter.unusedVariables false
set_option linter.unusedSimpArgs false
/-- A call of literal arguments: the blocks that they reach; what it gives; these blocks afterwards, and the new ones that are reached. -/
structure MemF where
  f : FuncId
  args : List AVal
  pre : List Blk
  v : AVal
  post : List Blk
mutual
/-- Where the blocks of an entry lie: by a walk (nothing rests on it). -/
def uV (m : List Nat) : AVal → AVal → List Nat
  | .ptr b _, .ptr x _ => match Nat.beq b m.length with
    | true => m ++ [x]
    | false => m
  | .slice b _ _ _ _, .slice x _ _ _ _ => match Nat.beq b m.length with
    | true => m ++ [x]
    | false => m
  | .func _ f c, .func _ f' c' => uL (uL m f f') c c'
  | .iface _ v, .iface _ v' => uV m v v'
  | .agg l, .agg l' => uL m l l'
  | .tuple l, .tuple l' => uL m l l'
  | _, _ => m
def uL (m : List Nat) : List AVal → List AVal → List Nat
  | a :: l, b :: l' => uL (uV m a b) l l'
  | _, _ => m
end
def uH (H : List Blk) : List Blk → Nat → List Nat → List Nat
  | [], _, m => m
  | .cells c _ :: ks, i, m => match m[i]? with
    | some x => match H[x]? with
      | some (.cells c' _) => uH H ks (i + 1) (uL m c c')
      | _ => m
    | none => m
  | _ :: _, _, m => m
def zs : List Nat → Bm
  | [] => []
  | x :: l => (x, 0) :: zs l
theorem zs_get : ∀ {l : List Nat} {i x sh : Nat}, (zs l)[i]? = some (x, sh) → l[i]? = some x ∧ sh = 0
  | [], i, x, sh, h => by simp [zs] at h
  | y :: l, 0, x, sh, h => by
    simp [zs] at h
    obtain ⟨rfl, rfl⟩ := h
    exact ⟨rfl, rfl⟩
  | y :: l, i + 1, x, sh, h => by simpa using zs_get (l := l) (i := i) (by simpa [zs] using h)
theorem zs_of {l : List Nat} : ∀ {i x : Nat}, l[i]? = some x → (zs l)[i]? = some (x, 0) := by
  induction l with
  | nil => intro i x h; simp at h
  | cons y l ih =>
    intro i x h
    cases i with
    | zero => simp at h; simp [zs, h]
    | succ i => simpa [zs] using ih (by simpa using h)
theorem zs_len : ∀ (l : List Nat), (zs l).length = l.length
  | [] => rfl
  | _ :: l => by simp [zs, zs_len l]
/-- The blocks of an entry, by the caller's numbers. -/
def rho (m : List Nat) (n : Nat) (i : Nat) : Nat := match m[i]? with
  | some x => x
  | none => i - m.length + n
/-- These are written there; what is left over is new. -/
def wr : List Nat → List Blk → List Blk → List Blk
  | [], bs, H => H ++ bs
  | _ :: _, [], H => H
  | x :: m, b :: bs, H => wr m bs (H.set x b)
theorem wr_len : ∀ (m : List Nat) (bs H : List Blk), (wr m bs H).length = H.length + (bs.length - m.length)
  | [], bs, H => by simp [wr]
  | _ :: _, [], H => by simp [wr]
  | x :: m, b :: bs, H => by simp [wr, wr_len m bs]
theorem wr_new : ∀ (m : List Nat) (bs H : List Blk) (i : Nat), m.length ≤ bs.length → (wr m bs H)[H.length + i]? = bs[m.length + i]?
  | [], bs, H, i, _ => by rw [wr, List.getElem?_append_right (by omega)]; simp
  | _ :: _, [], H, i, h => by simp at h
  | x :: m, b :: bs, H, i, h => by
    have := wr_new m bs (H.set x b) i (by simpa using h)
    simp only [List.length_set] at this
    simp only [wr, this, List.length_cons]
    rw [show m.length + 1 + i = (m.length + i) + 1 by omega]; simp
theorem wr_old : ∀ (m : List Nat) (bs H : List Blk) (i : Nat), i < H.length → i ∉ m → (wr m bs H)[i]? = H[i]?
  | [], bs, H, i, h, _ => by simp [wr, List.getElem?_append_left h]
  | _ :: _, [], H, i, h, _ => by simp [wr]
  | x :: m, b :: bs, H, i, h, hn => by
    simp only [List.mem_cons, not_or] at hn
    rw [wr, wr_old m bs _ i (by simpa using h) hn.2]
    exact List.getElem?_set_ne (fun e => hn.1 e.symm)
theorem wr_at : ∀ (m : List Nat) (bs H : List Blk) (j x : Nat), m.length ≤ bs.length → noTwice (zs m) = true → (∀ y, y ∈ m → y < H.length) → m[j]? = some x → (wr m bs H)[x]? = bs[j]?
  | [], bs, H, j, x, _, _, _, h => by simp at h
  | _ :: _, [], H, j, x, h, _, _, _ => by simp at h
  | y :: m, b :: bs, H, j, x, hl, hn, hd, h => by
    simp only [zs, noTwice, Bool.and_eq_true] at hn
    cases j with
    | zero =>
      simp at h; subst h
      have hnot : y ∉ m := fun hm => by
        obtain ⟨i, hi⟩ := List.mem_iff_getElem?.1 hm
        exact notIn_spec hn.1 i y 0 (zs_of hi) rfl
      have hlt := hd y (by simp)
      rw [wr, wr_old m bs _ y (by simpa using hlt) hnot]
      simp [hlt]
    | succ j =>
      rw [wr, wr_at m bs _ j x (by simpa using hl) hn.2 (fun z hz => by simpa using hd z (by simp [hz])) (by simpa using h)]
      simp
/-- These blocks, all literal, lie there. -/
structure LitRel (g : Inj) (H : List Blk) (w : World) : Prop where
  dom : ∀ i L, g i = some L → i < H.length ∧ L.blk < w.heap.size
  inj : ∀ i j L M, g i = some L → g j = some M → L.blk = M.blk → i = j
  blk : ∀ i k, H[i]? = some k → ∃ L, g i = some L ∧ BRel g w k L
end Go.Ev
namespace Go.Ev
open Go.RowKit
set_option linter.unusedVariables false
set_option linter.unusedSimpArgs false
/-- what the callee's unknowns are here -/
structure EnvS (σ τ : Sig) (env : TT) : Prop where
  i : ∀ i a k, env.get i = some a → skOf a = some (.i k) → den σ a = .int k (τ.ival i)
  b : ∀ i a, env.get i = some a → skOf a = some .b → den σ a = .bool (τ.bval i)
  s : ∀ i a, env.get i = some a → skOf a = some .s → den σ a = .str (τ.sval i)
def sbA (env : TT) (a : AVal) : Option AVal :=
  match a with
  | .symi k i => match env.get i with
    | some v => match skOf v with
      | some (.i k') => match decide (k = k') with
        | true => some v
        | false => none
      | _ => none
    | none => none
  | .symb i => match env.get i with
    | some v => match skOf v with
      | some .b => some v
      | _ => none
    | none => none
  | .syms i => match env.get i with
    | some v => match skOf v with
      | some .s => some v
      | _ => none
    | none => none
  | .int _ _ => some a
  | .bool _ => some a
  | .str _ => some a
  | _ => none
theorem sbA_ok {σ τ : Sig} {env : TT} (h : EnvS σ τ env) {a v : AVal} (he : sbA env a = some v) : den σ v = den τ a := by
  unfold sbA at he
  split at he
  · rename_i k i
    split at he
    · rename_i w hw
      split at he
      · rename_i k' hk
        split at he
        · rename_i hd
          simp only [decide_eq_true_eq] at hd
          subst hd
          cases he
          exact h.i i _ _ hw hk
        · cases he
      · cases he
    · cases he
  · rename_i i
    split at he
    · rename_i w hw
      split at he
      · rename_i hk; cases he; exact h.b i _ hw hk
      · cases he
    · cases he
  · rename_i i
    split at he
    · rename_i w hw
      split at he
      · rename_i hk; cases he; exact h.s i _ hw hk
      · cases he
    · cases he
  · cases he; rfl
  · cases he; rfl
  · cases he; rfl
  · cases he
def sbL (env : TT) : List AVal → Option (List AVal)
  | [] => some []
  | a :: l => match sbA env a with
    | some b => match sbL env l with
      | some m => some (b :: m)
      | none => none
    | none => none
theorem sbL_ok {σ τ : Sig} {env : TT} (h : EnvS σ τ env) : ∀ {l m : List AVal}, sbL env l = some m → m.map (den σ) = l.map (den τ)
  | [], m, he => by simp only [sbL, Option.some.injEq] at he; subst he; rfl
  | a :: l, m, he => by
    simp only [sbL] at he
    split at he
    · rename_i b hb
      split at he
      · rename_i m' hm
        cases he
        simp only [List.map_cons, sbA_ok h hb, sbL_ok h hm]
      · cases he
    · cases he
def sbP (env : TT) : List (AVal × AVal) → Option (List (AVal × AVal))
  | [] => some []
  | a :: l => match sbA env a.1 with
    | some b => match sbA env a.2 with
      | some c => match sbP env l with
        | some m => some ((b, c) :: m)
        | none => none
      | none => none
    | none => none
theorem sbP_ok {σ τ : Sig} {env : TT} (h : EnvS σ τ env) : ∀ {l m : List (AVal × AVal)}, sbP env l = some m → (m.all fun x => eqS (den σ x.1) (den σ x.2)) = (l.all fun x => eqS (den τ x.1) (den τ x.2))
  | [], m, he => by simp only [sbP, Option.some.injEq] at he; subst he; rfl
  | a :: l, m, he => by
    simp only [sbP] at he
    split at he
    · rename_i b hb
      split at he
      · rename_i c hc
        split at he
        · rename_i m' hm
          cases he
          simp only [List.all_cons, sbA_ok h hb, sbA_ok h hc, sbP_ok h hm]
        · cases he
      · cases he
    · cases he
def sbD (env : TT) (d : SDef) : Option SDef :=
  match d with
  | .bin o a b => match sbA env a, sbA env b with
    | some a, some b => some (.bin o a b)
    | _, _ => none
  | .un o a => match sbA env a with
    | some a => some (.un o a)
    | none => none
  | .conv k a => match sbA env a with
    | some a => some (.conv k a)
    | none => none
  | .low l => match sbL env l with
    | some l => some (.low l)
    | none => none
  | .high l => match sbL env l with
    | some l => some (.high l)
    | none => none
  | .all l => match sbP env l with
    | some l => some (.all l)
    | none => none
  | .fn i k l => match sbL env l with
    | some l => some (.fn i k l)
    | none => none
  | .fnb i l => match sbL env l with
    | some l => some (.fnb i l)
    | none => none
  | .ite c a b => match sbA env c, sbA env a, sbA env b with
    | some c, some a, some b => some (.ite c a b)
    | _, _, _ => none
  | .sop o l => match sbL env l with
    | some l => some (.sop o l)
    | none => none
  | .text l => match sbL env l with
    | some l => some (.text l)
    | none => none
  | _ => none
theorem sbD_ok {σ τ : Sig} {env : TT} (h : EnvS σ τ env) (ht : σ.tab = τ.tab) {d e : SDef} (he : sbD env d = some e) : evalS σ e = evalS τ d := by
  have num : ∀ (ρ : Sig) (l : List AVal), (l.map fun a => numS (den ρ a)) = (l.map (den ρ)).map numS := fun ρ l => by simp
  have byt : ∀ (ρ : Sig) (l : List AVal), (l.map fun a => byteS (den ρ a)) = (l.map (den ρ)).map byteS := fun ρ l => by simp
  cases d <;> simp only [sbD, reduceCtorEq] at he
  · split at he
    · rename_i a b ha hb; cases he; simp only [evalS, sbA_ok h ha, sbA_ok h hb]
    · cases he
  · split at he
    · rename_i a ha; cases he; simp only [evalS, sbA_ok h ha]
    · cases he
  · split at he
    · rename_i a ha; cases he; simp only [evalS, sbA_ok h ha]
    · cases he
  · split at he
    · rename_i a ha; cases he; simp only [evalS, sbL_ok h ha]
    · cases he
  · split at he
    · rename_i a ha; cases he; simp only [evalS, sbL_ok h ha]
    · cases he
  · split at he
    · rename_i a ha; cases he; simp only [evalS]; rw [sbP_ok h ha]
    · cases he
  · split at he
    · rename_i a ha; cases he; simp only [evalS]; rw [byt, byt, sbL_ok h ha]
    · cases he
  · split at he
    · rename_i a ha; cases he; simp only [evalS]; rw [num, num, sbL_ok h ha, ht]
    · cases he
  · split at he
    · rename_i a ha; cases he; simp only [evalS]; rw [num, num, sbL_ok h ha, ht]
    · cases he
  · split at he
    · rename_i a b c ha hb hc; cases he; simp only [evalS, sbA_ok h ha, sbA_ok h hb, sbA_ok h hc]
    · cases he
  · split at he
    · rename_i a ha; cases he; simp only [evalS, sbL_ok h ha]
    · cases he
/-- one operation: what it is here -/
def stepZ (look : SDef → Option AVal) (env : TT) (d : SDef) : Option AVal :=
  match condD d with
  | some _ => none
  | none =>
    let gen : Option AVal := match sbD env d with
      | some e => match foldD e with
        | some a => some a
        | none => look e
      | none => none
    match d with
    | .ite c a b => match sbA env c with
      | some (.bool true) => sbA env a
      | some (.bool false) => sbA env b
      | _ => gen
    | _ => gen
def expandZ (look : SDef → Option AVal) : List SDef → Nat → TT → TT
  | [], _, env => env
  | d :: G, i, env => match stepZ look env d with
    | some a => expandZ look G (i + 1) (env.put i a)
    | none => expandZ look G (i + 1) env
theorem stepZ_ok {σ τ : Sig} {env : TT} {look : SDef → Option AVal} (h : EnvS σ τ env) (ht : σ.tab = τ.tab) (hl : ∀ d r, look d = some r → evalS σ d = some (den σ r)) {d : SDef} {i : Nat} (he : condD d = none → evalS τ d = some (den τ (resS d i))) {a : AVal} (hs : stepZ look env d = some a) : den σ a = den τ (resS d i) := by
  unfold stepZ at hs
  split at hs
  · cases hs
  · rename_i hc
    have he := he hc
    have gen : ∀ b, (match sbD env d with
      | some e => match foldD e with
        | some a => some a
        | none => look e
      | none => none) = some b → den σ b = den τ (resS d i) := by
      intro b hb
      split at hb
      · rename_i e hd
        have h1 := sbD_ok h ht hd
        split at hb
        · rename_i a' ha
          cases hb
          have := foldD_spec (σ := σ) ha
          rw [h1, he, Option.some.injEq] at this
          exact this.symm
        · have := hl _ _ hb
          rw [h1, he, Option.some.injEq] at this
          exact this.symm
      · cases hb
    simp only at hs
    split at hs
    · rename_i c x y
      split at hs
      · rename_i hcc
        have h1 := sbA_ok h hcc
        simp only [evalS] at he
        rw [← h1] at he
        simp only [den, cond_true, Option.some.injEq] at he
        rw [sbA_ok h hs]
        exact he
      · rename_i hcc
        have h1 := sbA_ok h hcc
        simp only [evalS] at he
        rw [← h1] at he
        simp only [den, cond_false, Option.some.injEq] at he
        rw [sbA_ok h hs]
        exact he
      · exact gen _ hs
    · exact gen _ hs
theorem EnvS.put {σ τ : Sig} {env : TT} (h : EnvS σ τ env) {i : Nat} {a : AVal} {d : SDef} (ha : den σ a = den τ (resS d i)) : EnvS σ τ (env.put i a) := by
  refine ⟨fun j b k hb hk => ?_, fun j b hb hk => ?_, fun j b hb hk => ?_⟩ <;> rcases TT.get_put _ _ _ _ _ hb with ⟨rfl, rfl⟩ | ⟨_, h2⟩
  · obtain ⟨⟨n, hn⟩, _⟩ := sk_i hk σ
    rcases resS_cases d j with ⟨k', e⟩ | e | e <;> rw [e, hn] at ha <;> simp only [den, AVal.int.injEq, reduceCtorEq] at ha
    rw [hn, ha.2]
  · exact h.i j b k h2 hk
  · obtain ⟨⟨n, hn⟩, _⟩ := sk_b hk σ
    rcases resS_cases d j with ⟨k', e⟩ | e | e <;> rw [e, hn] at ha <;> simp only [den, AVal.bool.injEq, reduceCtorEq] at ha
    rw [hn, ha]
  · exact h.b j b h2 hk
  · obtain ⟨⟨n, hn⟩, _⟩ := sk_s hk σ
    rcases resS_cases d j with ⟨k', e⟩ | e | e <;> rw [e, hn] at ha <;> simp only [den, AVal.str.injEq, reduceCtorEq] at ha
    rw [hn, ha]
  · exact h.s j b h2 hk
theorem expandZ_ok {σ τ : Sig} {look : SDef → Option AVal} (ht : σ.tab = τ.tab) (hl : ∀ d r, look d = some r → evalS σ d = some (den σ r)) : ∀ {G : List SDef} {i : Nat} {env : TT}, EnvS σ τ env → (∀ k d, G[k]? = some d → condD d = none → evalS τ d = some (den τ (resS d (i + k)))) → EnvS σ τ (expandZ look G i env)
  | [], _, _, h, _ => h
  | d :: G, i, env, h, he => by
    have hr : ∀ k e, G[k]? = some e → condD e = none → evalS τ e = some (den τ (resS e (i + 1 + k))) := fun k e hk hc => by
      have := he (k + 1) e (by simpa using hk) hc
      rw [show i + 1 + k = i + (k + 1) by omega]; exact this
    simp only [expandZ]
    split
    · rename_i a ha
      exact expandZ_ok ht hl (h.put (stepZ_ok h ht hl (he 0 d rfl) ha)) hr
    · exact expandZ_ok ht hl h hr
mutual
/-- A value of the callee's, here. -/
def sbV (env : TT) (ρ : Nat → Nat) : AVal → Option AVal
  | .ptr b o => some (.ptr (ρ b) o)
  | .slice b o l c e => some (.slice (ρ b) o l c e)
  | .func fn f c => match sbVs env ρ f, sbVs env ρ c with
    | some f, some c => some (.func fn f c)
    | _, _ => none
  | .iface t v => match sbV env ρ v with
    | some v => some (.iface t v)
    | none => none
  | .agg l => match sbVs env ρ l with
    | some l => some (.agg l)
    | none => none
  | .tuple l => match sbVs env ρ l with
    | some l => some (.tuple l)
    | none => none
  | .symi k i => sbA env (.symi k i)
  | .symb i => sbA env (.symb i)
  | .syms i => sbA env (.syms i)
  | .int k n => some (.int k n)
  | .bool b => some (.bool b)
  | .str s => some (.str s)
  | .nilptr => some .nilptr
  | .nilslice => some .nilslice
  | .nilmap => some .nilmap
  | .nilfunc => some .nilfunc
  | .niliface => some .niliface
  | .row i => some (.row i)
  | .rptr i ix j => match sbA env ix with
    | some ix => some (.rptr i ix j)
    | none => none
  | .junk => some .junk
  | _ => none
def sbVs (env : TT) (ρ : Nat → Nat) : List AVal → Option (List AVal)
  | [] => some []
  | a :: l => match sbV env ρ a, sbVs env ρ l with
    | some b, some m => some (b :: m)
    | _, _ => none
end
theorem sb_rel {g g2 : Inj} {env : TT} (he : EnvS g2.sig g.sig env) {a a' : AVal} {v : Value} (h : sbA env a = some a') (hv : VRel g a v) : VRel g2 a' v := by
  have hd := sbA_ok he h
  unfold sbA at h
  split at h
  · cases hv; exact den_rel.1 (by rw [hd]; exact .int _ _)
  · cases hv; exact den_rel.1 (by rw [hd]; exact .bool _)
  · cases hv; exact den_rel.1 (by rw [hd]; exact .str _)
  · cases h; cases hv; exact .int _ _
  · cases h; cases hv; exact .bool _
  · cases h; cases hv; exact .str _
  · cases h
mutual
theorem sbV_rel {ρ : Nat → Nat} {g g2 : Inj} {env : TT} (hl : ∀ i L, g i = some L → g2 (ρ i) = some L) (he : EnvS g2.sig g.sig env) (hx : g2.sig.ext = g.sig.ext) : ∀ {a a' : AVal} {v : Value}, VRel g a v → sbV env ρ a = some a' → VRel g2 a' v
  | _, _, _, .bool b, h => by simp only [sbV, Option.some.injEq] at h; subst h; exact .bool b
  | _, _, _, .int k m, h => by simp only [sbV, Option.some.injEq] at h; subst h; exact .int k m
  | _, _, _, .float k m, h => by simp [sbV] at h
  | _, _, _, .str s, h => by simp only [sbV, Option.some.injEq] at h; subst h; exact .str s
  | _, _, _, .nilptr, h => by simp only [sbV, Option.some.injEq] at h; subst h; exact .nilptr
  | _, _, _, .ptr b off L h1, h => by simp only [sbV, Option.some.injEq] at h; subst h; exact .ptr _ off L (hl _ _ h1)
  | _, _, _, .nilslice, h => by simp only [sbV, Option.some.injEq] at h; subst h; exact .nilslice
  | _, _, _, .slice b off len cap ex o' cap' L h1 h0 h2 h3, h => by simp only [sbV, Option.some.injEq] at h; subst h; exact .slice _ off len cap ex o' cap' L (hl _ _ h1) h0 h2 h3
  | _, _, _, .nilmap, h => by simp only [sbV, Option.some.injEq] at h; subst h; exact .nilmap
  | _, _, _, .map _ _ _, h => by simp [sbV] at h
  | _, _, _, .nilfunc, h => by simp only [sbV, Option.some.injEq] at h; subst h; exact .nilfunc
  | _, _, _, .func fn f c f' c' h1 h2, h => by
    simp only [sbV] at h
    split at h
    · rename_i f2 c2 e1 e2; cases h; exact .func fn _ _ f' c' (sbVs_rel hl he hx h1 e1) (sbVs_rel hl he hx h2 e2)
    · cases h
  | _, _, _, .niliface, h => by simp only [sbV, Option.some.injEq] at h; subst h; exact .niliface
  | _, _, _, .iface t v v' h1, h => by
    simp only [sbV] at h
    split at h
    · rename_i v2 e; cases h; exact .iface t _ v' (sbV_rel hl he hx h1 e)
    · cases h
  | _, _, _, .agg l l' h1, h => by
    simp only [sbV] at h
    split at h
    · rename_i v2 e; cases h; exact .agg _ l' (sbVs_rel hl he hx h1 e)
    · cases h
  | _, _, _, .tuple l l' h1, h => by
    simp only [sbV] at h
    split at h
    · rename_i v2 e; cases h; exact .tuple _ l' (sbVs_rel hl he hx h1 e)
    · cases h
  | _, _, _, .symi k i, h => sb_rel he (by simpa only [sbV] using h) (.symi k i)
  | _, _, _, .symb i, h => sb_rel he (by simpa only [sbV] using h) (.symb i)
  | _, _, _, .syms i, h => sb_rel he (by simpa only [sbV] using h) (.syms i)
  | _, _, _, .row i X ao cap h1 h2 h3, h => by simp only [sbV, Option.some.injEq] at h; subst h; exact .row i X ao cap (by rw [hx]; exact h1) h2 h3
  | _, _, _, .rptr i ix j m X h1 h2 h3, h => by
    simp only [sbV] at h
    split at h
    · rename_i ix2 e; cases h; exact .rptr i _ j m X (by rw [hx]; exact h1) (by rw [sbA_ok he e]; exact h2) h3
    · cases h
  | _, _, _, .yield _ _ _, h => by simp [sbV] at h
  | _, _, _, .junk v h1, h => by simp only [sbV, Option.some.injEq] at h; subst h; exact .junk v h1
  | _, _, _, .geq _ _ _, h => by simp [sbV] at h
theorem sbVs_rel {ρ : Nat → Nat} {g g2 : Inj} {env : TT} (hl : ∀ i L, g i = some L → g2 (ρ i) = some L) (he : EnvS g2.sig g.sig env) (hx : g2.sig.ext = g.sig.ext) : ∀ {a a' : List AVal} {v : List Value}, LRel g a v → sbVs env ρ a = some a' → LRel g2 a' v
  | _, _, _, .nil, h => by simp only [sbVs, Option.some.injEq] at h; subst h; exact .nil
  | _, _, _, .cons a v l m h1 h2, h => by
    simp only [sbVs] at h
    split at h
    · rename_i b m2 e1 e2; cases h; exact .cons _ v _ m (sbV_rel hl he hx h1 e1) (sbVs_rel hl he hx h2 e2)
    · cases h
end
theorem sbVs_get {env : TT} {ρ : Nat → Nat} : ∀ {l m : List AVal}, sbVs env ρ l = some m → ∀ (i : Nat) (a : AVal), m[i]? = some a → ∃ b, l[i]? = some b ∧ sbV env ρ b = some a
  | [], m, h, i, a, hi => by simp only [sbVs, Option.some.injEq] at h; subst h; simp at hi
  | b :: l, m, h, i, a, hi => by
    simp only [sbVs] at h
    split at h
    · rename_i b' m' e1 e2
      cases h
      cases i with
      | zero => simp at hi; subst hi; exact ⟨b, rfl, e1⟩
      | succ i => simpa using sbVs_get e2 i a (by simpa using hi)
    · cases h
theorem sbVs_len {env : TT} {ρ : Nat → Nat} : ∀ {l m : List AVal}, sbVs env ρ l = some m → m.length = l.length
  | [], m, h => by simp only [sbVs, Option.some.injEq] at h; subst h; rfl
  | b :: l, m, h => by
    simp only [sbVs] at h
    split at h
    · rename_i b' m' e1 e2; cases h; simp [sbVs_len e2]
    · cases h
def sbBs (env : TT) (ρ : Nat → Nat) : List Blk → Option (List Blk)
  | [] => some []
  | .cells c e :: l => match sbVs env ρ c, sbBs env ρ l with
    | some c, some l => some (.cells c e :: l)
    | _, _ => none
  | _ :: _ => none
theorem sbBs_get {env : TT} {ρ : Nat → Nat} : ∀ {l m : List Blk}, sbBs env ρ l = some m → ∀ (i : Nat) (k : Blk), m[i]? = some k → ∃ c c' e, l[i]? = some (.cells c e) ∧ k = .cells c' e ∧ sbVs env ρ c = some c'
  | [], m, h, i, k, hi => by simp only [sbBs, Option.some.injEq] at h; subst h; simp at hi
  | .cells c e :: l, m, h, i, k, hi => by
    simp only [sbBs] at h
    split at h
    · rename_i c' m' e1 e2
      cases h
      cases i with
      | zero => simp at hi; subst hi; exact ⟨c, c', e, rfl, rfl, e1⟩
      | succ i => simpa using sbBs_get e2 i k (by simpa using hi)
    · cases h
  | .map _ :: _, _, h, _, _, _ | .gone :: _, _, h, _, _, _ | .loop _ :: _, _, h, _, _, _ | .dfr :: _, _, h, _, _, _ | .iter _ _ _ :: _, _, h, _, _, _ => by simp [sbBs] at h
theorem sbBs_len {env : TT} {ρ : Nat → Nat} : ∀ {l m : List Blk}, sbBs env ρ l = some m → m.length = l.length
  | [], m, h => by simp only [sbBs, Option.some.injEq] at h; subst h; rfl
  | .cells c e :: l, m, h => by
    simp only [sbBs] at h
    split at h
    · rename_i c' m' e1 e2; cases h; simp [sbBs_len e2]
    · cases h
  | .map _ :: _, _, h | .gone :: _, _, h | .loop _ :: _, _, h | .dfr :: _, _, h | .iter _ _ _ :: _, _, h => by simp [sbBs] at h
def cellsBs : List Blk → Bool
  | [] => true
  | .cells _ _ :: l => cellsBs l
  | _ :: _ => false
theorem cellsBs_get : ∀ {l : List Blk}, cellsBs l = true → ∀ (i : Nat) (k : Blk), l[i]? = some k → ∃ c e, k = .cells c e
  | [], _, i, k, hi => by simp at hi
  | .cells c e :: l, h, 0, k, hi => by simp at hi; exact ⟨c, e, hi.symm⟩
  | .cells c e :: l, h, i + 1, k, hi => cellsBs_get (l := l) (by simpa [cellsBs] using h) i k (by simpa using hi)
  | .map _ :: _, h, _, _, _ | .gone :: _, h, _, _, _ | .loop _ :: _, h, _, _, _ | .dfr :: _, h, _, _, _ | .iter _ _ _ :: _, h, _, _, _ => by simp [cellsBs] at h
/-- A call: its arguments and the blocks that they reach, over m unknowns; what is taken of these; the operations behind; what it gives, and these blocks (and new ones) afterwards. -/
structure SymF where
  f : FuncId
  m : Nat
  ins : List (Option IntKind)
  args : List AVal
  pre : List Blk
  pcs : List SDef
  G : List SDef
  v : AVal
  post : List Blk
structure SymFOk (P : Program) (tab : TabF) (inv : Sig → Prop) (e : SymF) : Prop where
  len : e.pre.length ≤ e.post.length
  cpre : cellsBs e.pre = true
  cpost : cellsBs e.post = true
  ok : okG e.G e.m = true
  call : ∀ (g : Inj) (w : World) (args' : Array Value), g.sig.tab = tab → inv g.sig → Eqs g.sig e.m e.G → InsOk g.sig e.m e.ins → (∀ d, d ∈ e.pcs → evalS g.sig d = some (.bool true)) → HRel (cx0 tab) g e.pre w → LRel g e.args args'.toList →
    Calls P e.f args' w fun en w' => ∃ (u : Value) (g1 : Inj), en = .returned u ∧ g1.sig = g.sig ∧ VRel g1 e.v u ∧ HRel (cx0 tab) g1 e.post w' ∧ (∀ i, i < e.pre.length → g1 i = g i) ∧ (∀ i L, e.pre.length ≤ i → g1 i = some L → w.heap.size ≤ L.blk) ∧
      w.heap.size ≤ w'.heap.size ∧ (∀ b, b < w.heap.size → (∀ i L, g i = some L → L.blk ≠ b) → w'.heap[b]? = w.heap[b]?) ∧ w'.os = w.os ∧ w'.tape = w.tape ∧ w'.output = w.output
def asgLt (m : Nat) : Asg → Bool
  | [] => true
  | p :: l => Nat.blt p.1 m && asgLt m l
theorem asgLt_mem {m : Nat} : ∀ {l : Asg}, asgLt m l = true → ∀ p, p ∈ l → p.1 < m
  | [], _, p, hp => by cases hp
  | q :: l, h, p, hp => by
    simp only [asgLt, Bool.and_eq_true] at h
    rcases List.mem_cons.1 hp with rfl | hp
    · simpa using h.1
    · exact asgLt_mem h.2 p hp
def envF (e : SymF) (l : Asg) : TT := putsT (TT.skel (e.m + e.G.length) 12 0 1) l
def pcOk (look : SDef → Option AVal) (env : TT) : List SDef → Bool
  | [] => true
  | d :: l => (match sbD env d with
    | some e => match foldD e with
      | some (.bool true) => true
      | some _ => false
      | none => match look e with
        | some (.bool true) => true
        | _ => false
    | none => false) && pcOk look env l
theorem pcOk_spec {σ τ : Sig} {env : TT} {look : SDef → Option AVal} (h : EnvS σ τ env) (ht : σ.tab = τ.tab) (hl : ∀ d r, look d = some r → evalS σ d = some (den σ r)) : ∀ {l : List SDef}, pcOk look env l = true → ∀ d, d ∈ l → evalS τ d = some (.bool true)
  | [], _, d, hd => by cases hd
  | q :: l, hp, d, hd => by
    simp only [pcOk, Bool.and_eq_true] at hp
    rcases List.mem_cons.1 hd with rfl | hd
    · have h1 := hp.1
      split at h1
      · rename_i e he
        rw [← sbD_ok h ht he]
        split at h1
        · rename_i hf; exact foldD_spec hf
        · cases h1
        · split at h1
          · rename_i hk; exact hl _ _ hk
          · cases h1
      · cases h1
    · exact pcOk_spec h ht hl hp.2 d hd
def tryM (look : SDef → Option AVal) (kd : Nat → Option IntKind) (e : SymF) (m : List Nat) (args : List AVal) (hp : Hp) : Option (AVal × Hp) :=
  match matchL (zs m) e.args args with
  | some x => match matchH (zs m) hp.heap e.pre 0 with
    | some y => match Nat.beq m.length e.pre.length && (noTwice (zs m) && (consB (x ++ y) (x ++ y) && (asgLt e.m (x ++ y) && (insAsg kd (x ++ y) e.ins 0 && pcOk look (expandZ look e.G e.m (envF e (x ++ y))) e.pcs)))) with
      | true => match sbV (expandZ look e.G e.m (envF e (x ++ y))) (rho m hp.heap.length) e.v with
        | some v => match sbBs (expandZ look e.G e.m (envF e (x ++ y))) (rho m hp.heap.length) e.post with
          | some bs => some (v, ⟨wr m bs hp.heap, m ++ hp.log⟩)
          | none => none
        | none => none
      | false => none
    | none => none
  | none => none
def firstF (look : SDef → Option AVal) (kd : Nat → Option IntKind) (f : FuncId) (args : List AVal) (hp : Hp) : List SymF → Option (AVal × Hp)
  | [] => none
  | e :: l => match Nat.beq f e.f with
    | true => match tryM look kd e (uH hp.heap e.pre 0 (uL [] e.args args)) args hp with
      | some r => some r
      | none => firstF look kd f args hp l
    | false => firstF look kd f args hp l
theorem firstF_mem {look : SDef → Option AVal} {kd : Nat → Option IntKind} {f : FuncId} {args : List AVal} {hp : Hp} {r : AVal × Hp} : ∀ {l : List SymF}, firstF look kd f args hp l = some r → ∃ e m, e ∈ l ∧ e.f = f ∧ tryM look kd e m args hp = some r
  | [], h => by cases h
  | x :: l, h => by
    simp only [firstF] at h
    have rest : firstF look kd f args hp l = some r → ∃ e m, e ∈ x :: l ∧ e.f = f ∧ tryM look kd e m args hp = some r := fun h =>
      let ⟨e, m, h1, h2⟩ := firstF_mem h
      ⟨e, m, List.mem_cons_of_mem _ h1, h2⟩
    split at h
    · rename_i hf
      split at h
      · rename_i r' hr
        cases h
        exact ⟨x, _, List.mem_cons_self .., (Nat.eq_of_beq_eq_true hf).symm, hr⟩
      · exact rest h
    · exact rest h
def symMf (kd : Nat → Option IntKind) (tbl : List SymF) : MHookF := fun look f args hp => firstF look kd f args hp tbl
theorem mem_symF {P : Program} {X : Ing} {tbl : List SymF} {inv : Sig → Prop} (h : ∀ e, e ∈ tbl → SymFOk P X.tab inv e) (hT : okLT X.m X.G X.T = true) (hn : X.n = 0) (hi : ∀ σ τ : Sig, τ.ext = σ.ext → X.inv σ → inv τ)
    (F : List Fact) (f : FuncId) (args : List AVal) (hp : Hp) (v : AVal) (hp' : Hp) (hm : symMf (kdX X) tbl (symS (baseOf X F)) f args hp = some (v, hp')) : CallP P (cxOf X F) f args hp (.val v) hp' := by
  obtain ⟨e, m, hmem, rfl, hm2⟩ := firstF_mem hm
  clear hm
  have hm := hm2
  clear hm2
  obtain ⟨hlen, hpre, hpost, hG, hc⟩ := h e hmem
  unfold tryM at hm
  split at hm
  · rename_i x f2
    split at hm
    · rename_i y f3
      split at hm
      · rename_i hfit
        split at hm
        · rename_i vv hvv
          split at hm
          · rename_i bs hbs
            cases hm
            simp only [Bool.and_eq_true] at hfit
            obtain ⟨f1, f4, f5, f6, f7, f8⟩ := hfit
            have f1 := Nat.eq_of_beq_eq_true f1
            have hcell : ∀ (j x : Nat), m[j]? = some x → ∃ (c : List AVal) (t : TypeId), hp.heap[x]? = some (Blk.cells c t) := by
              intro j x hj
              have hlt : j < e.pre.length := by rw [← f1]; exact (List.getElem?_eq_some_iff.1 hj).1
              obtain ⟨c, t, hk⟩ := cellsBs_get hpre j _ (List.getElem?_eq_getElem hlt)
              obtain ⟨l, h1, _⟩ := matchH_get e.pre 0 _ f3 j _ (List.getElem?_eq_getElem hlt)
              rw [hk, Nat.zero_add] at h1
              simp only [matchB, zs_of hj] at h1
              split at h1
              · rename_i c' e' hc'
                exact ⟨_, _, hc'⟩
              · cases h1
            have hmlt : ∀ y, y ∈ m → y < hp.heap.length := by
              intro y hy
              obtain ⟨j, hj⟩ := List.mem_iff_getElem?.1 hy
              obtain ⟨c, t, hk⟩ := hcell j y hj
              exact (List.getElem?_eq_some_iff.1 hk).1
            have hlive : ∀ y, y ∈ m → Live hp.heap y := by
              intro y hy
              obtain ⟨j, hj⟩ := List.mem_iff_getElem?.1 hy
              obtain ⟨c, t, hk⟩ := hcell j y hj
              exact ⟨_, hk, by simp⟩
            have hbl := sbBs_len hbs
            have hlp : m.length ≤ bs.length := by rw [hbl, f1]; exact hlen
            have hat : ∀ j x, m[j]? = some x → (wr m bs hp.heap)[x]? = bs[j]? := fun j x hj => wr_at m _ _ j x hlp f4 hmlt hj
            have hback : ∀ i, i < hp.heap.length → Live (wr m bs hp.heap) i → Live hp.heap i := by
              intro i hi hl
              by_cases hin : i ∈ m
              · exact hlive i hin
              · obtain ⟨k, hk, hne⟩ := hl
                rw [wr_old m _ _ i hi hin] at hk
                exact ⟨k, hk, hne⟩
            have hwl : (wr m bs hp.heap).length = hp.heap.length + (e.post.length - m.length) := by rw [wr_len, hbl]
            refine ⟨⟨by show hp.heap.length ≤ (wr _ _ _).length; omega, ⟨m, rfl, fun i hi hn => wr_old m _ _ i hi hn⟩, hback, fun i la hi hl => ?_⟩, fun g w args' hH hl => ?_⟩
            · by_cases hin : i ∈ m
              · obtain ⟨j, hj⟩ := List.mem_iff_getElem?.1 hin
                have hl : (wr m bs hp.heap)[i]? = some (.loop la) := hl
                rw [hat j i hj] at hl
                obtain ⟨c, c', t, hb, hbb, _⟩ := sbBs_get hbs _ _ hl
                cases hbb
              · have hl : (wr m bs hp.heap)[i]? = some (.loop la) := hl
                rw [wr_old m _ _ i hi hin] at hl
                exact ⟨la, hl, rfl, rfl, rfl, rfl, rfl⟩
            have hbase := base_good hT hH.sig.ok.2 hH.sig.ok.1
            have hlook : ∀ d r, symS (baseOf X F) d = some r → evalS g.sig d = some (den g.sig r) := fun d r hd => symS_den hbase hd
            -- the callee's unknowns
            let τ0 : Sig := asgS g.sig (x ++ y)
            let τ : Sig := solve e.G e.m τ0
            have ag := agree_solve e.G e.m τ0
            have hext : τ.ext = g.sig.ext := ag.ext.symm
            have htab : τ.tab = X.tab := by rw [← ag.tab]; exact hH.sig.ok.2.tab
            have hfit0 : Fits g.sig τ0 (x ++ y) := by
              have := fits_asg (σ := g.sig) [] f5
              simpa using this
            have hfit : Fits g.sig τ (x ++ y) := by
              intro p hp
              have hlt := asgLt_mem f6 p hp
              obtain ⟨h1, h2, h3⟩ := hfit0 p hp
              obtain ⟨a1, a2, a3⟩ := ag.val p.1 hlt
              exact ⟨fun k n hn => by rw [← a1]; exact h1 k n hn, fun b hb => by rw [← a2]; exact h2 b hb, fun s hs => by rw [← a3]; exact h3 s hs⟩
            have henv : EnvS g.sig τ (envF e (x ++ y)) := by
              have hin : ∀ i a, (envF e (x ++ y)).get i = some a → (i, a) ∈ x ++ y := by
                intro i a hi
                rcases putsT_get _ _ hi with h | h
                · exact h
                · rw [TT.get_skel] at h; cases h
              refine ⟨fun i a k hi hk => ?_, fun i a hi hk => ?_, fun i a hi hk => ?_⟩
              · obtain ⟨⟨n, hn⟩, _⟩ := sk_i hk g.sig
                have hn' : den g.sig a = .int k n := hn
                rw [hn', (hfit (i, a) (hin i a hi)).1 k n hn']
              · obtain ⟨⟨n, hn⟩, _⟩ := sk_b hk g.sig
                have hn' : den g.sig a = .bool n := hn
                rw [hn', (hfit (i, a) (hin i a hi)).2.1 n hn']
              · obtain ⟨⟨n, hn⟩, _⟩ := sk_s hk g.sig
                have hn' : den g.sig a = .str n := hn
                rw [hn', (hfit (i, a) (hin i a hi)).2.2 n hn']
            have heq : Eqs τ e.m e.G := eqs_solve hG
            have htt : g.sig.tab = τ.tab := by rw [htab]; exact hH.sig.ok.2.tab
            have henv2 : EnvS g.sig τ (expandZ (symS (baseOf X F)) e.G e.m (envF e (x ++ y))) := expandZ_ok htt hlook henv fun k d hk hcd => heq.at k d hk hcd
            have hins : InsOk τ e.m e.ins := by
              intro i k hlt hik
              have hik' : e.ins[i]? = some (some k) := by
                cases hc : e.ins[i]? with
                | none => rw [hc] at hik; cases hik
                | some o => rw [hc] at hik; simp only [Option.getD_some] at hik; rw [hik]
              obtain ⟨a, h1, h2⟩ := insAsg_get f7 i k hik'
              rw [Nat.zero_add] at h1
              obtain ⟨n, h3, h4⟩ := inK_spec (fun i k h => kdX_spec hH.sig.ok.2.eqs hH.sig.ok.2.ins hH.sig.ok.2.kt i k h) h2
              have : τ0.ival i = n := by
                simp only [τ0, asgS, h1]
                cases a <;> simp only [inK, Bool.false_eq_true] at h2 <;> simp only [valS, h3, iOf]
              rw [← (ag.val i hlt).1, this]; exact h4
            have hpc := pcOk_spec henv2 htt hlook f8
            have R : HRel (cx0 X.tab) (moved (zs m) g τ) e.pre w := rematch hH rfl (cx0_good htab) (by rw [zs_len, f1]) f4 f3 (fun p hp => hfit p (by simp [hp])) hext
            have hmv : ∀ j L, moved (zs m) g τ j = some L → ∃ x, m[j]? = some x ∧ g x = some L := by
              intro j L hj
              obtain ⟨x, sh, L', h1, h2, rfl⟩ := moved_from hj
              obtain ⟨h3, rfl⟩ := zs_get h1
              exact ⟨x, h3, h2⟩
            have hargs : LRel (moved (zs m) g τ) e.args args'.toList := matchL_sound (moved_moves (zs m) g τ hext) e.args args x _ f2 (fun p hp => hfit p (by simp [hp])) hl
            refine (hc (moved (zs m) g τ) w args' htab (hi _ _ hext hH.sig.ok.2.inv) heq hins hpc R hargs).mono ?_
            rintro en w' ⟨u, g1, rfl, hs1, hu, hP, hsame, hnew, hsz, hfr, hos, htp, hout⟩
            have hs1 : g1.sig = τ := hs1
            have hgn : ∀ i L, g i = some L → i < hp.heap.length := fun i L hi => (hH.dom i L hi).1
            let g2 : Inj := ⟨fun i => if i < hp.heap.length then g i else g1 (i - hp.heap.length + m.length), g.sig, g.mp⟩
            have lo : ∀ i, i < hp.heap.length → g2 i = g i := fun i hi => by show (if i < hp.heap.length then g i else _) = _; rw [if_pos hi]
            have hi' : ∀ i, ¬ i < hp.heap.length → g2 i = g1 (i - hp.heap.length + m.length) := fun i hi => by show (if i < hp.heap.length then g i else _) = _; rw [if_neg hi]
            have hsub : Sub g g2 := ⟨fun i L hi => by rw [lo i (hgn i L hi)]; exact hi, rfl, fun _ _ h => h⟩
            have hold : ∀ j L, j < m.length → g1 j = some L → ∃ x, m[j]? = some x ∧ g x = some L := by
              intro j L hj h1
              rw [hsame j (by rw [← f1]; exact hj)] at h1
              exact hmv j L h1
            have hren : ∀ i L, g1 i = some L → g2 (rho m hp.heap.length i) = some L := by
              intro i L h1
              by_cases hlt : i < m.length
              · obtain ⟨x, hx, hgx⟩ := hold i L hlt h1
                have : rho m hp.heap.length i = x := by simp [rho, hx]
                rw [this, lo x (hgn x L hgx)]; exact hgx
              · have : rho m hp.heap.length i = i - m.length + hp.heap.length := by simp [rho, List.getElem?_eq_none (by omega : m.length ≤ i)]
                rw [this, hi' _ (by omega), show i - m.length + hp.heap.length - hp.heap.length + m.length = i by omega]
                exact h1
            have hfresh : ∀ i L, ¬ i < hp.heap.length → g2 i = some L → w.heap.size ≤ L.blk := by
              intro i L hlt h2
              rw [hi' i hlt] at h2
              exact hnew _ L (by rw [← f1]; omega) h2
            have hkeep : ∀ b, b < w.heap.size → (∀ x L, x ∈ m → g x = some L → L.blk ≠ b) → w'.heap[b]? = w.heap[b]? := by
              intro b hb hno
              refine hfr b hb fun i L hiL => ?_
              obtain ⟨x, hx, hgx⟩ := hmv i L hiL
              exact hno x L (List.mem_iff_getElem?.2 ⟨_, hx⟩) hgx
            have he2 : EnvS g2.sig g1.sig (expandZ (symS (baseOf X F)) e.G e.m (envF e (x ++ y))) := by rw [hs1]; exact henv2
            have hx2 : g2.sig.ext = g1.sig.ext := by rw [hs1]; exact hext.symm
            have hblock : ∀ (c c' : List AVal) (t : TypeId) (L : Loc), sbVs (expandZ (symS (baseOf X F)) e.G e.m (envF e (x ++ y))) (rho m hp.heap.length) c = some c' → BRel g1 w' (.cells c t) L → BRel g2 w' (.cells c' t) L := by
              rintro c c' t L hns ⟨C, fr, k1, k2, k3, k4, k5⟩
              refine ⟨C, fr, k1, k2, k3, by rw [sbVs_len hns]; exact k4, ?_⟩
              intro j a hj
              obtain ⟨a0, h0, h1⟩ := sbVs_get hns _ _ hj
              obtain ⟨z, y1, y2, y3⟩ := k5 j a0 h0
              exact ⟨z, y1, sbV_rel hren he2 hx2 y2 h1, y3⟩
            have hlv : ∀ i L, g1 i = some L → Live e.post i := by
              intro i L hi
              have hlt := (hP.dom i L hi).1
              obtain ⟨c, t, hk⟩ := cellsBs_get hpost i _ (List.getElem?_eq_getElem hlt)
              exact ⟨_, List.getElem?_eq_getElem hlt, by rw [hk]; simp⟩
            refine ⟨g2, ⟨u, rfl, sbV_rel hren he2 hx2 hu hvv⟩, ⟨?_, ?_, ?_, ?_, hH.sig, ?_⟩, ?_⟩
            · intro i L hi
              show i < (wr _ _ _).length ∧ _
              by_cases hlt : i < hp.heap.length
              · rw [lo i hlt] at hi
                have := hH.dom i L hi
                exact ⟨by rw [hwl]; omega, by omega⟩
              · rw [hi' i hlt] at hi
                have := hP.dom _ L hi
                exact ⟨by rw [hwl]; omega, this.2⟩
            · intro i j L M hi hj hb li lj
              by_cases h1 : i < hp.heap.length <;> by_cases h2 : j < hp.heap.length
              · rw [lo i h1] at hi; rw [lo j h2] at hj
                exact hH.inj i j L M hi hj hb (hback i h1 li) (hback j h2 lj)
              · rw [lo i h1] at hi
                have a1 := (hH.dom i L hi).2
                have a2 := hfresh j M h2 hj
                omega
              · rw [lo j h2] at hj
                have a1 := (hH.dom j M hj).2
                have a2 := hfresh i L h1 hi
                omega
              · rw [hi' i h1] at hi; rw [hi' j h2] at hj
                have := hP.inj _ _ L M hi hj hb (hlv _ _ hi) (hlv _ _ hj)
                omega
            · intro i k hi hk
              have hi : (wr m bs hp.heap)[i]? = some k := hi
              by_cases h1 : i < hp.heap.length
              · by_cases hin : i ∈ m
                · obtain ⟨j, hj⟩ := List.mem_iff_getElem?.1 hin
                  rw [hat j i hj] at hi
                  obtain ⟨c, c', t, hb, rfl, hns⟩ := sbBs_get hbs _ _ hi
                  obtain ⟨L, hL, hBr⟩ := hP.blk _ _ hb (by simp)
                  have hjl : j < m.length := (List.getElem?_eq_some_iff.1 hj).1
                  obtain ⟨x, hx, hgx⟩ := hold j L hjl hL
                  rw [hj] at hx; cases hx
                  exact ⟨L, by rw [lo i h1]; exact hgx, hblock c c' t L hns hBr⟩
                · rw [wr_old m _ _ i h1 hin] at hi
                  obtain ⟨L, hL, hBr⟩ := hH.blk i k hi hk
                  refine ⟨L, by rw [lo i h1]; exact hL, (hBr.of_same (hkeep L.blk (hH.dom i L hL).2 fun x M hx hgx hbb => ?_)).mono hsub⟩
                  have := hH.inj x i M L hgx hL hbb (hlive x hx) ⟨k, hi, hk⟩
                  exact hin (this ▸ hx)
              · have hnl : i = hp.heap.length + (i - hp.heap.length) := by omega
                rw [hnl, wr_new m _ _ _ hlp] at hi
                obtain ⟨c, c', t, hb, rfl, hns⟩ := sbBs_get hbs _ _ hi
                obtain ⟨L, hL, hBr⟩ := hP.blk _ _ hb (by simp)
                refine ⟨L, by rw [hi' i h1, show i - hp.heap.length + m.length = m.length + (i - hp.heap.length) by omega]; exact hL, hblock c c' t L hns hBr⟩
            · intro i hi
              have : (cxOf X F).n = 0 := hn
              omega
            · refine ⟨fun i Y hi hY => ?_, fun i Y hi => ?_⟩
              · have f := hH.frz.row i Y hi hY
                refine ⟨f.1.of_same (hkeep _ f.1.lt fun x M hx hgx => f.2 x M hgx (hlive x hx)), fun j N hj lj => ?_⟩
                by_cases h1 : j < hp.heap.length
                · rw [lo j h1] at hj
                  exact f.2 j N hj (hback j h1 lj)
                · have a1 := hfresh j N h1 hj
                  have a2 := f.1.lt
                  omega
              · have f := hH.frz.mp i Y hi
                refine ⟨by show i < (wr _ _ _).length; rw [hwl]; omega, f.2.1.of_same (hkeep _ f.2.1.lt fun x M hx hgx => f.2.2 x M hgx (hlive x hx)), fun j N hj lj => ?_⟩
                by_cases h1 : j < hp.heap.length
                · rw [lo j h1] at hj
                  exact f.2.2 j N hj (hback j h1 lj)
                · have a1 := hfresh j N h1 hj
                  have a2 := f.2.1.lt
                  omega
            · refine ⟨hsub, ?_, fun i Y hi hn => ?_, by show _ ≤ (wr _ _ _).length; omega, hback, hsz, fun b hb hno => hkeep b hb fun x L hx hgx => hno x L hgx (hlive x hx), hos, htp, hout⟩
              · intro i L hi hn
                by_cases h1 : i < hp.heap.length
                · rw [lo i h1] at hi; rw [hn] at hi; cases hi
                · exact ⟨by omega, .inl (hfresh i L h1 hi)⟩
              · exact absurd hi (by show ¬ g.mp i = some Y; rw [hn]; simp)
          · cases hm
        · cases hm
      · cases hm
    · cases hm
  · cases hm
/-! ### Such a contract, from the stages of the callee's body -/
/-- what such a call leaves -/
def MemR (tab : TabF) (e : SymF) (g : Inj) (w : World) (en : Ending) (w' : World) : Prop :=
  ∃ (u : Value) (g1 : Inj), en = .returned u ∧ g1.sig = g.sig ∧ VRel g1 e.v u ∧ HRel (cx0 tab) g1 e.post w' ∧ (∀ i, i < e.pre.length → g1 i = g i) ∧ (∀ i L, e.pre.length ≤ i → g1 i = some L → w.heap.size ≤ L.blk) ∧
      w.heap.size ≤ w'.heap.size ∧ (∀ b, b < w.heap.size → (∀ i L, g i = some L → L.blk ≠ b) → w'.heap[b]? = w.heap[b]?) ∧ w'.os = w.os ∧ w'.tape = w.tape ∧ w'.output = w.output
def fraOf (g : Inj) (w : World) : Fra where
  w := w
  own := fun b => w.heap.size ≤ b ∨ ∃ i L, g i = some L ∧ L.blk = b
  new := fun _ h => .inl h
  pin := g.loc
/-- the unknowns of the end -/
def idE (e : SymF) : Option Asg :=
  match matchV (idF e.post.length 0) e.v e.v, matchH (idF e.post.length 0) e.post e.post 0 with
  | some x, some y => some (x ++ y)
  | _, _ => none
def DenEq (σ τ : Sig) : Asg → Prop
  | [] => True
  | p :: r => den σ p.2 = den τ p.2 ∧ DenEq σ τ r
theorem denEq_fits {σ τ : Sig} {M : Nat} : ∀ {l : Asg}, idAsg M l = true → DenEq σ τ l → Fits σ τ l
  | [], _, _ => fun p hp => by cases hp
  | q :: l, hl, hd => by
    simp only [idAsg, Bool.and_eq_true] at hl
    intro p hp
    rcases List.mem_cons.1 hp with rfl | hp
    · have h1 := hl.1
      have h2 := hd.1
      split at h1
      all_goals first
        | cases h1
        | skip
      all_goals
        rename_i hx
        simp only [Bool.and_eq_true] at h1
        have e := Nat.eq_of_beq_eq_true h1.1
        rw [hx] at h2 ⊢
        rw [← e] at h2 ⊢
        refine ⟨fun k n hn => ?_, fun b hn => ?_, fun s hn => ?_⟩ <;> rw [h2] at hn <;> simp only [den, AVal.int.injEq, AVal.bool.injEq, AVal.str.injEq, reduceCtorEq] at hn
        first
          | exact hn.2
          | exact hn
    · exact denEq_fits hl.2 hd.2 p hp
theorem endZ_mem {P : Program} {tab : TabF} {n M : Nat} {fn : Func} {e : SymF} {g : Inj} {w : World} {SE : Shape} {vs : List AVal} {σ : Sig} {x : SEx} {l : Asg} (hSE : resA P (tmOf SE n) SE.heap fn.results.toList = some vs) (hv : packA vs = e.v) (hp : SE.heap = e.post)
    (hH : HRel (cx0 tab) g e.pre w) (ht : g.sig.tab = tab) (hcp : cellsBs e.pre = true) (hc : cellsBs e.post = true) (hid : idE e = some l) (hidl : idAsg M l = true) (hnt : noTwice (idF e.post.length 0) = true) (hd : DenEq σ g.sig l) (hext : σ.ext = g.sig.ext) (hx : x = .ret ∨ x = .normal) :
    EndZ tab n (fraOf g w) (bodyPost P fn (MemR tab e g w)) x SE σ := by
  intro en a w' hxe hA
  obtain ⟨g', rfl, hH', hT, hO, hP⟩ := hA.ex
  have hT1 : TRel g' (tmOf SE n) a := by
    refine ⟨by simp only [tmOf, hA.size]; exact Nat.le_refl _, ?_⟩
    intro i v hv
    exact hT _ (tmOf_get hv)
  obtain ⟨u, hres, h2⟩ := results_run hH' hT1 hSE
  rw [hv] at h2
  rw [hp] at hH'
  have hfit := denEq_fits hidl hd
  unfold idE at hid
  split at hid
  · rename_i lx ly hlx hly
    cases hid
    have R : HRel (cx0 tab) (moved (idF e.post.length 0) g' g.sig) e.post w' := rematch hH' rfl (cx0_good ht) (idF_length _ _) hnt hly hfit.right hext.symm
    have hmv : ∀ i, i < e.post.length → moved (idF e.post.length 0) g' g.sig i = g' i := by
      intro i hi
      have h0 : (idF e.post.length 0)[i]? = some (i, 0) := by simpa using idF_at (i := 0) hi
      cases hg : g' i with
      | none => simp only [moved, h0, hg, Option.map_none]
      | some L => simp only [moved, h0, hg, Option.map_some, shift, Nat.add_zero, Nat.sub_zero]
    have hlive : ∀ i L, g' i = some L → Live e.post i := by
      intro i L hi
      have hlt := (hH'.dom i L hi).1
      obtain ⟨c, t, hk⟩ := cellsBs_get hc i _ (List.getElem?_eq_getElem hlt)
      exact ⟨_, List.getElem?_eq_getElem hlt, by rw [hk]; simp⟩
    have hR : MemR tab e g w (.returned u) w' := by
      refine ⟨u, moved (idF e.post.length 0) g' g.sig, rfl, rfl, matchV_sound (moved_moves _ g' _ hext.symm) e.v e.v lx u hlx hfit.left h2, R, fun i hi => ?_, fun i L hi hL => ?_, hA.below.size, fun b hb hno => hA.below.frame b hb ?_, hA.below.os, hA.below.tape, hA.below.output⟩
      · obtain ⟨c, t, hk⟩ := cellsBs_get hcp i _ (List.getElem?_eq_getElem hi)
        obtain ⟨L, hL, _⟩ := hH.blk i _ (List.getElem?_eq_getElem hi) (by rw [hk]; simp)
        have h3 : g' i = some L := hP i L hL
        rw [hmv i (hH'.dom i L h3).1, h3, hL]
      · have hlt := (R.dom i L hL).1
        rw [hmv i hlt] at hL
        rcases hO i L hL with h3 | ⟨j, N, hj, hb⟩
        · exact h3
        · have h4 : g' j = some N := hP j N hj
          have := hH'.inj j i N L h4 hL hb (hlive j N h4) (hlive i L hL)
          have := (hH.dom j N hj).1
          omega
      · rintro (h3 | ⟨i, L, hi, h3⟩)
        · exact absurd h3 (by omega)
        · exact hno i L hi h3
    have : a.defers = [] ∧ ∃ v, (results fn a.tmps).run P w' = .ok v w' ∧ MemR tab e g w (.returned v) w' := ⟨hA.defers, _, hres, hR⟩
    cases en with
    | normal => exact this
    | ret => exact this
    | _ => rcases hx with rfl | rfl <;> exact hxe.elim
  · cases hid
theorem symF_of_stage {P : Program} {tab : TabF} {inv : Sig → Prop} {e : SymF} {fn : Func} {n : Nat} (hf : P.funcs[e.f]? = some fn) (hb : fn.body = some (bodyOf fn)) (hn : fn.ntmps = n) (hna : e.args.length ≤ n)
    (hlen : e.pre.length ≤ e.post.length) (hcp : cellsBs e.pre = true) (hc : cellsBs e.post = true) (hG : okG e.G e.m = true)
    (h : ∀ (g : Inj) (w : World), g.sig.tab = tab → inv g.sig → Eqs g.sig e.m e.G → InsOk g.sig e.m e.ins → (∀ d, d ∈ e.pcs → evalS g.sig d = some (.bool true)) → HRel (cx0 tab) g e.pre w →
      Stage P tab n (fraOf g w) (bodyPost P fn (MemR tab e g w)) (flatC (bodyOf fn)) ⟨argT 0 e.args, e.pre⟩ e.m e.ins (fun σ => Agree e.m g.sig σ)) : SymFOk P tab inv e := by
  refine ⟨hlen, hcp, hc, hG, fun g w args' ht hi he hins hpc hH ha => ?_⟩
  refine calls_body hf hb ?_
  rw [hn]
  have hal : args'.size ≤ n := by
    have := ha.length
    simp only [Array.length_toList] at this
    omega
  have hA0 : At tab ⟨argT 0 e.args, e.pre⟩ n g.sig (fraOf g w) { tmps := args' ++ Array.replicate (n - args'.size) undef, defers := [] } w := by
    refine ⟨⟨g, rfl, hH, ?_, fun i L hi => .inr ⟨i, L, hi, rfl⟩, fun i L hi => hi⟩, BelowF.refl (fraOf g w), by simp; omega, rfl⟩
    intro p hp
    obtain ⟨j, h1, h2⟩ := argT_get _ _ _ hp
    obtain ⟨u, k1, k2⟩ := ha.get j p.2 h2
    refine ⟨u, ?_, k2⟩
    have hlt : j < args'.size := by
      have := (List.getElem?_eq_some_iff.1 k1).1
      simpa using this
    rw [h1, Nat.zero_add, Array.getElem?_append_left hlt]
    simpa using k1
  have := flat_wp _ (h g w ht hi he hins hpc hH _ _ g.sig hA0 hins ⟨fun _ _ => ⟨rfl, rfl, rfl⟩, rfl, rfl⟩ ht)
  rwa [then_self] at this
end Go.Ev
namespace Go.Ev
open Go.RowKit
set_option linter.unusedVariables false
set_option linter.unusedSimpArgs false
/-- The last piece, where more is taken of the unknowns. -/
theorem Stage.lastI {P : Program} {tab : TabF} {n : Nat} {W0 : Fra} {Z : Exit → Act → World → Prop} {c1 : List Code} {S : Shape} {q : Nat} {ins : List (Option IntKind)} {J : Sig → Prop} {X : Ing} {Wt : Sw}
    (hm : P.follows .mixedOrders = true) (s : SegOkI P tab n c1 S X Wt) (aX : X.m = q ∧ X.ins = ins) (hJ : ∀ σ τ, Agree q σ τ → J σ → J τ) (hr : ∀ τ, J τ → RowsOk τ X.rows) (hinv : ∀ τ, J τ → X.inv τ)
    (o : ∀ τ, Eqs τ q X.G → τ.tab = tab → InsOk τ q ins → J τ → segsW τ (EndZ tab n W0 Z) Wt []) (hp : ∀ i, W0.pin i ≠ none → pinW i Wt = true := by exact fun _ h => absurd rfl h) :
    Stage P tab n W0 Z c1 S q ins J := by
  intro a w σ hA hi hj ht
  obtain ⟨rfl, rfl⟩ := aX
  have ag := agree_solve X.G X.m σ
  have hi2 : InsOk (solve X.G X.m σ) X.m X.ins := by
    intro i k hi' hk
    rw [← (ag.val i hi').1]; exact hi i k hi' hk
  have hj2 := hJ _ _ ag hj
  have ht' := s.tab
  subst ht'
  refine segL hm s.lt s.ok s.hook s.n0 s.id s.reck hA hi (o _ (eqs_solve s.ok) (by rw [← ag.tab]; exact ht) hi2 hj2) ?_ (hr _ hj2) (by rw [s.cuts]; exact cuts_nil) (hinv _ hj2) s.kt hp
  rintro e a' w' x s2 σ2 hx hz hA2
  have := hz e a' w' hx hA2
  cases e with
  | normal => exact this
  | _ => exact this
/-- A call, in stages. -/
theorem calls_of_stageG {P : Program} {f : FuncId} {fn : Func} {tab : TabF} {n q : Nat} {ins : List (Option IntKind)} {R : Ending → World → Prop} {J : Sig → Prop} {args : List AVal} {args' : Array Value} {σ0 : Sig} {W : World}
    (hf : P.funcs[f]? = some fn) (hb : fn.body = some (bodyOf fn)) (hn : fn.ntmps = n) (ht : σ0.tab = tab) (ha : LRel ⟨fun _ => none, σ0, fun _ => none⟩ args args'.toList) (hna : args'.size ≤ n)
    (hz : ∀ i X, σ0.ext i = some X → 0 < X.len → FzOk X W) (hi : InsOk σ0 q ins) (hj : J σ0) (h : Stage P tab n W (bodyPost P fn R) (flatC (bodyOf fn)) ⟨argT 0 args, []⟩ q ins J) : Calls P f args' W R := by
  refine calls_body hf hb ?_
  rw [hn]
  have hA0 : At tab ⟨argT 0 args, []⟩ n σ0 W { tmps := args' ++ Array.replicate (n - args'.size) undef, defers := [] } W := at_start (tab := tab) ht ha hna W hz
  have := flat_wp _ (h _ _ σ0 hA0 hi hj ht)
  rwa [then_self] at this
/-- what came in: rows, of which the first is gone over; its length is unknown 1, and unknown 0 counts -/
structure RowE (E : Nat → Option Fz) (X : Fz) (σ : Sig) : Prop where
  ext : σ.ext = E
  len : σ.ival 1 = X.len
  lo : 0 ≤ σ.ival 0
  hi : σ.ival 0 ≤ X.len
def RowEEl (q : Nat) (cl : List Cl) (E : Nat → Option Fz) (X : Fz) (τ : Sig) : Prop := ∃ σ, Agree (q + cl.length) (elSig σ q X) τ ∧ RowE E X σ
theorem RowE.agree {E : Nat → Option Fz} {X : Fz} {q : Nat} (h2 : 2 ≤ q) {σ τ : Sig} (ag : Agree q σ τ) (h : RowE E X σ) : RowE E X τ :=
  ⟨by rw [← ag.ext]; exact h.ext, by rw [← (ag.val 1 (by omega)).1]; exact h.len, by rw [← (ag.val 0 (by omega)).1]; exact h.lo, by rw [← (ag.val 0 (by omega)).1]; exact h.hi⟩
theorem RowEEl.agree {E : Nat → Option Fz} {cl : List Cl} {X : Fz} {q : Nat} {σ τ : Sig} (ag : Agree (q + cl.length) σ τ) (h : RowEEl q cl E X σ) : RowEEl q cl E X τ := by
  obtain ⟨υ, ag0, hd⟩ := h
  exact ⟨υ, ag0.trans' ag, hd⟩
theorem RowEEl.hd {E : Nat → Option Fz} {cl : List Cl} {X : Fz} {q : Nat} (h2 : 2 ≤ q) {τ : Sig} (h : RowEEl q cl E X τ) : RowE E X τ := by
  obtain ⟨σ, ag, he, h1, h0, h3⟩ := h
  refine ⟨by rw [← ag.ext]; exact he, ?_, ?_, ?_⟩
  · rw [← (ag.val 1 (by omega)).1]; simp [elSig, show 1 < q by omega, h1]
  · rw [← (ag.val 0 (by omega)).1]; simp [elSig, show 0 < q by omega, h0]
  · rw [← (ag.val 0 (by omega)).1]; simp [elSig, show 0 < q by omega, h3]
theorem RowEEl.rows {E : Nat → Option Fz} {W : World} {cl : List Cl} {v : Value} {X : Fz} (hX : RowV W cl v X) (hE : ∀ Y, E 0 = some Y → Y = X) {q : Nat} (h2q : 2 ≤ q) {τ : Sig} (h : RowEEl q cl E X τ) : RowsOk τ [⟨.symi .i64 1, [(.symi .i64 0, elCells q cl)]⟩] := by
  obtain ⟨σ, ag, he, h1, h0, _⟩ := h
  intro i r Y hr hY
  have hr0 : i = 0 := by
    cases i with
    | zero => rfl
    | succ i => simp at hr
  subst hr0
  rw [← ag.ext] at hY
  have hY : σ.ext 0 = some Y := hY
  rw [he] at hY
  have hY := hE Y hY
  subst hY
  simp only [List.getElem?_cons_zero, Option.some.injEq] at hr
  subst hr
  have t0 : τ.ival 0 = σ.ival 0 := by rw [← (ag.val 0 (by omega)).1]; simp [elSig, show 0 < q by omega]
  have t1 : τ.ival 1 = σ.ival 1 := by rw [← (ag.val 1 (by omega)).1]; simp [elSig, show 1 < q by omega]
  refine ⟨by show AVal.int .i64 (τ.ival 1) = _; rw [t1, h1], fun p hp m hm hlt => ?_⟩
  simp only [List.mem_singleton] at hp
  subst hp
  have hm : τ.ival 0 = (m : Int) := by simpa [den] using hm
  rw [t0] at hm
  have hmN : (σ.ival 0).toNat = m := by omega
  refine ⟨by rw [elCells_length]; exact hX.z.symm, fun j c hc => ?_⟩
  obtain ⟨z, hz, rfl⟩ := elCells_get q cl j c hc
  have hj : j < cl.length := (List.getElem?_eq_some_iff.1 hz).1
  obtain ⟨n, h3, h4⟩ := el_get (hX.els _ hlt) hz
  have hnq : ¬ (q + j < q) := by omega
  cases z with
  | i k =>
    simp only [den]
    rw [← (ag.val (q + j) (by omega)).1]
    simp only [elSig, hnq, if_false, hmN, hlt, if_true, Nat.add_sub_cancel_left]
    rw [h4]; rfl
  | b =>
    simp only [den]
    rw [← (ag.val (q + j) (by omega)).2.1]
    simp only [elSig, hnq, if_false, hmN, hlt, if_true, Nat.add_sub_cancel_left]
    rw [h4]; rfl
def InvF {ι : Type} (tab : TabF) (n : Nat) (W0 : Fra) (S : ι → Shape) (q : Nat) (ins : List (Option IntKind)) (J : ι → Sig → Prop) (μ : Sig → Nat) : Nat → Act → World → Prop :=
  fun k a w => ∃ i σ, At tab (S i) n σ W0 a w ∧ InsOk σ q ins ∧ J i σ ∧ σ.tab = tab ∧ k = μ σ
theorem EndZ.loopF {ι : Type} {P : Program} {tab : TabF} {n : Nat} {W0 : Fra} {Z : Exit → Act → World → Prop} {id : Nat} {c2 : List Code} {S : ι → Shape} {q : Nat} {ins : List (Option IntKind)} {J : ι → Sig → Prop} {μ : Sig → Nat} {k : Nat} {σ : Sig} {s : Shape} (i : ι) (hs : s = S i)
    (hi : InsOk σ q ins) (hj : J i σ) (ht : σ.tab = tab) (hk : μ σ < k) : EndZ tab n W0 (LoopZ P id c2 Z (InvF tab n W0 S q ins J μ) k) .normal s σ := by
  subst hs
  intro e a w hxe hA
  cases e <;> simp only [SExRel] at hxe
  exact .inl ⟨rfl, μ σ, hk, i, σ, hA, hi, hj, ht, rfl⟩
/-- A loop over a row, whose heads are a family of shapes. -/
theorem Stage.rowLoopF {ι : Type} {P : Program} {tab : TabF} {n : Nat} {W0 : Fra} {WX : World} {Z : Exit → Act → World → Prop} {b : Code} {id : Nat} {c2 : List Code} {S : ι → Shape} {q : Nat} {insq : List (Option IntKind)} {J : ι → Sig → Prop} {cl : List Cl} {v : Value} {X : Fz} {E : Nat → Option Fz} (hX : RowV WX cl v X)
    (hq : insq.length = q) (h2 : 2 ≤ q) (hid : ∀ i, idOk (S i) q = true) (hJ : ∀ i σ τ, Agree q σ τ → J i σ → J i τ)
    (body : ∀ k i, Stage P tab n W0 (LoopZ P id c2 Z (InvF tab n W0 S q insq (fun i σ => RowE E X σ ∧ J i σ) (fun σ => ((X.len : Int) - σ.ival 0).toNat)) k) [b] (S i) (q + cl.length) (insq ++ cl.map kindC) (fun τ => RowEEl q cl E X τ ∧ J i τ ∧ ((X.len : Int) - τ.ival 0).toNat = k)) (i0 : ι) :
    Stage P tab n W0 Z (.block id (.loop b) :: c2) (S i0) q insq (fun σ => RowE E X σ ∧ J i0 σ) := by
  intro a w σ hA hi hj ht
  show (Code.block id (.loop b)).wpIn (FR none) 0 P _ a w
  refine wpIn_block ?_
  refine loop_at (Inv := InvF tab n W0 S q insq (fun i σ => RowE E X σ ∧ J i σ) (fun σ => ((X.len : Int) - σ.ival 0).toNat)) ?_ _ a w ⟨i0, σ, hA, hi, hj, ht, rfl⟩
  clear hA hi hj ht a w
  rintro k a w ⟨i, σ, hA, hi, hj, ht, rfl⟩
  have ag := elSig_agree σ q X
  have h0 : (elSig σ q X).ival 0 = σ.ival 0 := by simp [elSig, show 0 < q by omega]
  have := body _ i a w (elSig σ q X) (hA.agree (hid i) ag) (elSig_ins hX hq hi) ⟨⟨σ, ⟨fun _ _ => ⟨rfl, rfl, rfl⟩, rfl, rfl⟩, hj.1⟩, hJ _ _ _ ag hj.2, by rw [h0]⟩ ht
  simp only [chainK] at this
  rwa [then_self] at this
end Go.Ev
namespace Go.Ev
open Go.RowKit
set_option linter.unusedVariables false
set_option linter.unusedSimpArgs false
def bI (b : Bool) : Int := bif b then 1 else 0
theorem ob_dec {b : Bool} {P : Prop} [Decidable P] (h : b = decide P) : (bI b = 1 ∧ P) ∨ (bI b = 0 ∧ ¬ P) := by
  subst h
  by_cases hp : P
  · exact .inl ⟨by simp [bI, hp], hp⟩
  · exact .inr ⟨by simp [bI, hp], hp⟩
theorem ob_eq {b : Bool} {x y : Int} (h : b = (x == y)) : (bI b = 1 ∧ x = y) ∨ (bI b = 0 ∧ ¬ x = y) := by
  refine ob_dec (h.trans ?_)
  rw [Bool.eq_iff_iff]; simp
theorem ob_ne {b : Bool} {x y : Int} (h : b = (x != y)) : (bI b = 1 ∧ ¬ x = y) ∨ (bI b = 0 ∧ x = y) := by
  subst h
  by_cases hp : x = y
  · exact .inr ⟨by simp [bI, hp], hp⟩
  · exact .inl ⟨by rw [bne_iff_ne.2 hp]; rfl, hp⟩
theorem ob_eqb {b x y : Bool} (h : b = (x == y)) : (bI b = 1 ∧ bI x = bI y) ∨ (bI b = 0 ∧ bI x + bI y = 1) := by
  subst h; cases x <;> cases y <;> simp [bI]
theorem ob_eqs {b : Bool} {x y : ByteArray} (h : b = (x.toList == y.toList)) (he : x = y) : bI b = 1 := by
  subst h; subst he; simp [bI]
theorem ob_not {b x : Bool} (h : b = !x) : bI b = 1 - bI x ∧ 0 ≤ bI x ∧ bI x ≤ 1 := by
  subst h; cases x <;> simp [bI]
theorem ob_iteI {c : Bool} {n x y : Int} (h : n = bif c then x else y) : (bI c = 1 ∧ n = x) ∨ (bI c = 0 ∧ n = y) := by
  subst h; cases c <;> simp [bI]
theorem ob_iteB {c b x y : Bool} (h : b = bif c then x else y) : (bI c = 1 ∧ bI b = bI x) ∨ (bI c = 0 ∧ bI b = bI y) := by
  subst h; cases c <;> simp [bI]
theorem ob_all2 {b : Bool} {x y z w : Int} (h : b = ((x == y) && ((z == w) && true))) : (bI b = 1 ∧ x = y ∧ z = w) ∨ (bI b = 0 ∧ ¬ (x = y ∧ z = w)) := by
  refine ob_dec (h.trans ?_)
  rw [Bool.eq_iff_iff]; simp
theorem ob_T {b : Bool} (h : b = true) : bI b = 1 := by subst h; rfl
theorem ob_F {b : Bool} (h : b = false) : bI b = 0 := by subst h; rfl
theorem ob_rT {b : Bool} {P Q : Prop} (h : (bI b = 1 ∧ P) ∨ (bI b = 0 ∧ Q)) (f : b = true) : P := by
  subst f
  rcases h with h | h
  · exact h.2
  · exact absurd h.1 (by simp [bI])
theorem ob_rF {b : Bool} {P Q : Prop} (h : (bI b = 1 ∧ P) ∨ (bI b = 0 ∧ Q)) (f : b = false) : Q := by
  subst f
  rcases h with h | h
  · exact absurd h.1 (by simp [bI])
  · exact h.2
theorem wr_i64 (n : Int) : IntKind.i64.wrap n = (n + 9223372036854775808) % 18446744073709551616 - 9223372036854775808 := by simp [IntKind.wrap, IntKind.bits, IntKind.signed]; omega
theorem wr_i16 (n : Int) : IntKind.i16.wrap n = (n + 32768) % 65536 - 32768 := by simp [IntKind.wrap, IntKind.bits, IntKind.signed]; omega
theorem wr_u64 (n : Int) : IntKind.u64.wrap n = n % 18446744073709551616 := by simp [IntKind.wrap, IntKind.bits, IntKind.signed]
theorem wr_u8 (n : Int) : IntKind.u8.wrap n = n % 256 := by simp [IntKind.wrap, IntKind.bits, IntKind.signed]
/-- shifts to the right by a literal, of what is not negative -/
theorem fdiv_pow {a p : Int} (hp : 0 < p) : a.fdiv p = a / p := Int.fdiv_eq_ediv_of_nonneg _ (by omega)
/-! ### Strings -/
/-- a byte, as a number -/
def bAt (s : ByteArray) (i : Int) : Int := ((s.data.toList.getD i.toNat 0).toNat : Nat)
theorem bAt_in (s : ByteArray) (i : Int) : 0 ≤ bAt s i ∧ bAt s i < 256 := by
  unfold bAt
  have := UInt8.toNat_lt (s.data.toList.getD i.toNat 0)
  omega
theorem eqLen {σ : Sig} {i j : Nat} (h : evalS σ (.sop .len [.syms j]) = some (den σ (.symi .i64 i))) : σ.ival i = ((σ.sval j).size : Nat) := by
  simp only [evalS, List.map, den, sopA, Option.some.injEq, AVal.int.injEq, true_and] at h
  exact h.symm
theorem eqAt {σ : Sig} {i j : Nat} {a : AVal} {k : IntKind} {n : Int} (h : evalS σ (.sop .at [.syms j, a]) = some (den σ (.symi .u8 i))) (ha : den σ a = .int k n) : σ.ival i = bAt (σ.sval j) n := by
  simp only [evalS, List.map, ha] at h
  simp only [den, sopA, Option.some.injEq, AVal.int.injEq, true_and] at h
  exact h.symm
theorem eqSub {σ : Sig} {i j : Nat} {a b : AVal} {k k' : IntKind} {n m : Int} (h : evalS σ (.sop .sub [.syms j, a, b]) = some (den σ (.syms i))) (ha : den σ a = .int k n) (hb : den σ b = .int k' m) : σ.sval i = (σ.sval j).extract n.toNat m.toNat := by
  simp only [evalS, List.map, ha, hb] at h
  simp only [den, sopA, Option.some.injEq, AVal.str.injEq] at h
  exact h.symm
theorem bAt_sub {s : ByteArray} {a b i : Int} (h0 : 0 ≤ a) (h1 : a ≤ b) (h2 : b ≤ s.size) (h3 : 0 ≤ i) (h4 : i < b - a) : bAt (s.extract a.toNat b.toNat) i = bAt s (a + i) := by
  unfold bAt
  have e : (s.extract a.toNat b.toNat).data.toList = (s.data.toList.drop a.toNat).take (b.toNat - a.toNat) := by
    rw [ByteArray.data_extract, Array.toList_extract, List.extract_eq_take_drop]
  rw [e, List.getD_eq_getElem?_getD, List.getD_eq_getElem?_getD, List.getElem?_take_of_lt (by omega), List.getElem?_drop, show a.toNat + i.toNat = (a + i).toNat by omega]
def encL (l : List UInt8) : Int := l.foldl (fun a b => a * 256 + b.toNat) 1
theorem encL_snoc (l : List UInt8) (b : UInt8) : encL (l ++ [b]) = encL l * 256 + b.toNat := by simp [encL]
theorem encL_pos (l : List UInt8) : 1 ≤ encL l := by
  have h : ∀ (l : List UInt8) (a : Int), 1 ≤ a → 1 ≤ l.foldl (fun (a : Int) (b : UInt8) => a * 256 + (b.toNat : Int)) a := by
    intro l
    induction l with
    | nil => intro a h; exact h
    | cons b l ih => intro a h; exact ih _ (by show 1 ≤ a * 256 + (b.toNat : Int); omega)
  exact h l 1 (by decide)
theorem encL_inj : ∀ (n : Nat) (l m : List UInt8), l.length = n → encL l = encL m → l = m
  | 0, l, m, hl, h => by
    have : l = [] := List.eq_nil_of_length_eq_zero hl
    subst this
    rcases List.eq_nil_or_concat m with rfl | ⟨m', b, rfl⟩
    · rfl
    · exfalso
      rw [List.concat_eq_append, encL_snoc] at h
      have h1 := encL_pos m'
      have h2 : encL [] = 1 := rfl
      omega
  | n + 1, l, m, hl, h => by
    rcases List.eq_nil_or_concat l with rfl | ⟨l', b, rfl⟩
    · simp at hl
    · rw [List.concat_eq_append] at *
      rcases List.eq_nil_or_concat m with rfl | ⟨m', c, rfl⟩
      · exfalso
        rw [encL_snoc] at h
        have h1 := encL_pos l'
        have h2 : encL [] = 1 := rfl
        omega
      · rw [List.concat_eq_append] at *
        rw [encL_snoc, encL_snoc] at h
        have hb := UInt8.toNat_lt b
        have hc := UInt8.toNat_lt c
        have e1 : b.toNat = c.toNat := by omega
        have e2 : encL l' = encL m' := by omega
        rw [encL_inj n l' m' (by simpa using hl) e2, UInt8.toNat_inj.1 e1]
/-- the string of a number -/
noncomputable def decB (n : Int) : ByteArray := open Classical in if h : ∃ s, encB s = n then h.choose else .empty
theorem dec_enc (s : ByteArray) : decB (encB s) = s := by
  unfold decB
  have h : ∃ t, encB t = encB s := ⟨s, rfl⟩
  rw [dif_pos h]
  have h1 := h.choose_spec
  have h2 := encL_inj _ _ _ rfl (show encL h.choose.data.toList = encL s.data.toList from h1)
  generalize h.choose = t at h2
  cases t; cases s
  simp only [ByteArray.mk.injEq]
  exact Array.toList_inj.1 h2
/-! ### What is to be shown of the leaves, with the facts of the way to them -/
def segsPv (σ : Sig) (Q : SEx → Shape → Sig → Prop) : Sv → Prop
  | .leaf x s _ l ex => Q x s (asgS σ (l ++ ex))
  | .leafE x s _ l ex => EqsL σ l l ∧ Q x s (asgS σ (l ++ ex))
  | .req o v => o.Sat σ ∧ segsPv σ Q v
  | .dead => False
  | .node i y n => (σ.bval i = true → segsPv σ Q y) ∧ (σ.bval i = false → segsPv σ Q n)
  | .pick i k y n => (σ.ival i = k → segsPv σ Q y) ∧ (¬ σ.ival i = k → segsPv σ Q n)
def segsPw (σ : Sig) (Q : SEx → Shape → Sig → Prop) : Sw → Prop
  | .run v => segsPv σ Q v
  | .dead => False
  | .node i y n => (σ.bval i = true → segsPw σ Q y) ∧ (σ.bval i = false → segsPw σ Q n)
  | .pick i k y n => (σ.ival i = k → segsPw σ Q y) ∧ (¬ σ.ival i = k → segsPw σ Q n)
theorem segs_no {σ : Sig} {Q : SEx → Shape → Sig → Prop} : ∀ {v : Sv} {F : List Fact}, ¬ Holds σ F → segs σ Q v F
  | .leaf .., _, h => fun hF => absurd hF h
  | .leafE .., _, h => fun hF => absurd hF h
  | .req .., _, h => ⟨fun hF => absurd hF h, segs_no h⟩
  | .dead, _, h => h
  | .node .., _, h => ⟨segs_no fun hF => h hF.2, segs_no fun hF => h hF.2⟩
  | .pick .., _, h => ⟨segs_no fun hF => h hF.2, segs_no fun hF => h hF.2⟩
theorem segsW_no {σ : Sig} {Q : SEx → Shape → Sig → Prop} : ∀ {v : Sw} {F : List Fact}, ¬ Holds σ F → segsW σ Q v F
  | .run .., _, h => segs_no (v := _) h
  | .dead, _, h => h
  | .node .., _, h => ⟨segsW_no fun hF => h hF.2, segsW_no fun hF => h hF.2⟩
  | .pick .., _, h => ⟨segsW_no fun hF => h hF.2, segsW_no fun hF => h hF.2⟩
theorem segsPv_segs {σ : Sig} {Q : SEx → Shape → Sig → Prop} : ∀ {v : Sv} {F : List Fact}, segsPv σ Q v → segs σ Q v F
  | .leaf .., _, h => fun _ => h
  | .leafE .., _, h => fun _ => h
  | .req .., _, h => ⟨fun _ => h.1, segsPv_segs h.2⟩
  | .dead, _, h => h.elim
  | .node i y n, F, h => by
    constructor
    · by_cases hb : σ.bval i = true
      · exact segsPv_segs (h.1 hb)
      · exact segs_no fun hF => hb hF.1
    · by_cases hb : σ.bval i = false
      · exact segsPv_segs (h.2 hb)
      · exact segs_no fun hF => hb hF.1
  | .pick i k y n, F, h => by
    constructor
    · by_cases hb : σ.ival i = k
      · exact segsPv_segs (h.1 hb)
      · exact segs_no fun hF => hb hF.1
    · by_cases hb : σ.ival i = k
      · exact segs_no fun hF => hF.1 hb
      · exact segsPv_segs (h.2 hb)
theorem segsPw_segs {σ : Sig} {Q : SEx → Shape → Sig → Prop} : ∀ {v : Sw} {F : List Fact}, segsPw σ Q v → segsW σ Q v F
  | .run .., _, h => segsPv_segs (v := _) h
  | .dead, _, h => h.elim
  | .node i y n, F, h => by
    constructor
    · by_cases hb : σ.bval i = true
      · exact segsPw_segs (h.1 hb)
      · exact segsW_no fun hF => hb hF.1
    · by_cases hb : σ.bval i = false
      · exact segsPw_segs (h.2 hb)
      · exact segsW_no fun hF => hb hF.1
  | .pick i k y n, F, h => by
    constructor
    · by_cases hb : σ.ival i = k
      · exact segsPw_segs (h.1 hb)
      · exact segsW_no fun hF => hb hF.1
    · by_cases hb : σ.ival i = k
      · exact segsW_no fun hF => hF.1 hb
      · exact segsPw_segs (h.2 hb)
/-- What the numbers of a shape are made of stays within their kinds, by the tree of kinds. -/
theorem insOk_kt {X : Ing} {τ : Sig} (hG : Eqs τ X.m X.G) (hi : InsOk τ X.m X.ins) (hkt : okKt X = true) {l : Asg} {q : Nat} {insq : List (Option IntKind)} (h : insAsg (kdX X) l insq 0 = true) : InsOk (asgS τ l) q insq := by
  intro i k _ hik
  have hik : insq[i]? = some (some k) := by
    cases hc : insq[i]? with
    | none => rw [hc] at hik; cases hik
    | some o => rw [hc] at hik; simp only [Option.getD_some] at hik; rw [hik]
  obtain ⟨a, h1, h2⟩ := insAsg_get h i k hik
  rw [Nat.zero_add] at h1
  obtain ⟨n, h3, h4⟩ := inK_spec (fun i k h => kdX_spec hG hi hkt i k h) h2
  have : (asgS τ l).ival i = n := by
    simp only [asgS, h1]
    cases a <;> simp only [inK, Bool.false_eq_true] at h2 <;> simp only [valS, h3, iOf]
  rw [this]; exact h4
end Go.Ev
