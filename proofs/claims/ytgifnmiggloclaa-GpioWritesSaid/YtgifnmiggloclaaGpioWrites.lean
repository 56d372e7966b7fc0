/-
  ploverlaw11.GpioWrites is true: reckoned by the proved evaluator with unknown numbers; one plain fact on the lowest byte.
  No conditions.
-/
import Derived.Test.YtgifnmiggloclaaRows
import Derived.WalkKit
import Derived.ProofKit
import Derived.OpenShut
import Derived.Below
import Derived.ChangeSame
import Derived.Test.YtgifnmiggloclaaEvR
namespace Go.Proofs.Ytgifnmiggloclaa.gpioWrites
open Go.ChangeShapes Go.WideShapes Go.ChangeAt Go.RowKit
set_option linter.unusedVariables false      -- a walk need not use every 'w<i>' (that an integer argument fits its kind)

theorem own : ownKnob Try.prog.godebug = none := by kernel_rfl

theorem mixed : Try.prog.follows .mixedOrders = true := Checked.mixed Try.checked

def G : List Ev.SDef := [.bin .xor (.symi .u8 1) (.int .u8 77),
  .conv .u8 (.symi .i32 2),
  .bin .and (.symi .i32 2) (.int .i32 255),
  .conv .i32 (.symi .u8 4),
  .bin .eql (.symi .i32 6) (.symi .i32 5),
  .conv .i32 (.symi .u8 1)]

def T : Ev.Tr := .node 7 (.leaf) (.dead)

theorem okg : Ev.okG G 3 = true := by kernel_rfl

theorem reck : Ev.okTree (fun F => Ev.isTrue (Ev.callA Try.prog (Ev.cxOf 0 3 Ev.noHook G F) 1000 40 8 [.symi .u8 0, .symi .u8 1, .symi .i32 2] ⟨⟨[], []⟩, [], []⟩)) T [] = true := by kernel_rfl

theorem and_low (v : Int) : (BitVec.ofInt 32 v &&& BitVec.ofInt 32 255).toNat = (v % 256).toNat := by
  rw [BitVec.toNat_and]
  have h : (BitVec.ofInt 32 255).toNat = 2 ^ 8 - 1 := by decide
  rw [h, Nat.and_two_pow_sub_one_eq_mod, BitVec.toNat_ofInt]
  omega

theorem low (v : Int) : IntKind.i32.wrap (IntKind.u8.wrap v) = IntKind.i32.wrap ((BitVec.ofInt 32 v &&& BitVec.ofInt 32 255).toNat : Int) := by
  rw [and_low]
  simp [IntKind.wrap, IntKind.bits, IntKind.signed]
  omega

theorem plain (σ : Ev.Sig) (e : Ev.Eqs σ 3 G) : Ev.deads σ T [] := by
  have e1 := e 1 _ rfl
  have e2 := e 2 _ rfl
  have e3 := e 3 _ rfl
  have e4 := e 4 _ rfl
  simp only [Ev.evalS, Ev.den, Ev.convS, Ev.binS, Ev.intA, Ev.resS, Ev.likeS, if_true, Option.some.injEq, Ev.AVal.int.injEq, true_and, Ev.AVal.bool.injEq, IntKind.bits] at e1 e2 e3 e4
  simp only [T, Ev.deads, Ev.Holds, Ev.Fact.holds, true_and, and_true, Bool.not_eq_false]
  rw [← e4, ← e3, ← e2, ← e1, beq_iff_eq]
  exact low _


theorem walk (a0 : Int) (a1 : Int) (a2 : Int) (w0 : (Lit.int .u8 a0).wf = true) (w1 : (Lit.int .u8 a1).wf = true) (w2 : (Lit.int .i32 a2).wf = true) (w : World) :
    Calls Try.prog 8 #[.int .u8 a0, .int .u8 a1, .int .i32 a2] w fun e w' => e = .returned (.bool true) ∧ Below w.heap.size w w' := by
  refine Ev.nums_true (l := [a0, a1, a2]) (b := []) mixed okg reck (fun σ e _ _ => plain σ e) (fun g hi _ => ?_) w
  exact .cons _ _ _ _ (Ev.rel_symi (hi 0 (by decide))) (.cons _ _ _ _ (Ev.rel_symi (hi 1 (by decide))) (.cons _ _ _ _ (Ev.rel_symi (hi 2 (by decide))) .nil))


section
variable {H : Type} {enc : TypeId × Value → H} {P : Program}
theorem post_of_below {f : Func} {s : ChangeSpec} {apart fresh handsOn again : Bool} {W W' : World} {args : Array Value} {v : Value} {ds gs : List (DataW H)} {before pa pv : List MemPlace}
    (hW : DataW.Whole enc P f.params.toList s.vars apart W args.toList ds gs before)
    (hres : ∀ (b : Nat) (sp : Nat → Bool) (hd : Bool), DataW.TrodAll enc P W' b sp hd f.resultTypes.toList (v.resultList f.resultTypes.size) (s.fn H (ds ++ gs)).results [])
    (hargs : ∀ sp : Nat → Bool, (∀ p ∈ before, sp p.block = true) → DataW.TrodAll enc P W' 0 sp true f.params.toList args.toList (s.fn H (ds ++ gs)).args pa)
    (hvars : ∀ sp : Nat → Bool, (∀ p ∈ before, sp p.block = true) → DataW.TrodVars enc P W' sp s.vars (s.fn H (ds ++ gs)).vars pv)
    (hps : before = pa ++ pv) (hb : Below W.heap.size W W')
    (hok : ∀ (j : Nat) (t : TypeId) (r : Value), f.resultTypes[j]? = some t → (v.resultList f.resultTypes.size)[j]? = some r → Value.okWide P W' .any 0 t r) :
    s.post enc P f apart fresh handsOn again W args v W' := by
  have hlt : ∀ p ∈ before, p.block < W.heap.size := fun p hp => hW.lt p hp
  have hold : ∀ p ∈ before, (fun b => decide (b < W.heap.size)) p.block = true := fun p hp => by simpa using hlt p hp
  refine ⟨ds, gs, before, [], pa, pv, hW, hres _ _ _, hargs _ hold, hvars _ hold, World.keptBut_mono (fun p hp => ⟨hp, ?_⟩) (hb.frame (· ∈ before)), fun _ => ?_⟩
  · rw [hps, List.mem_append] at hp
    exact Or.inr hp
  · obtain ⟨_, _, _, _, _, hz, hn⟩ := hW
    refine ⟨hok, _, _, ([] ++ pa) ++ pv, ⟨[] ++ pa, pv, trodAll_append (hargs _ (fun _ _ => rfl)) (hres _ _ _), hvars _ (fun _ _ => rfl), rfl, ?_, ?_⟩, ?_⟩
    · intro b off hp
      have hin : MemPlace.cell b off ∈ before := by rw [hps]; simpa using hp
      rw [hb.frozen (hlt _ hin)]
      exact hz b off hin
    · intro ha
      have := hn ha
      rw [hps] at this
      simpa using this
    · intro p hp _
      rw [hps]
      simpa using hp
end

/-! ### THE ROW's STEP: WRITTEN OUT: LEAVE IT -/
set_option maxRecDepth 100000 in
theorem lifted (os : Os) (started : os.Started) (H : Type) (enc : TypeId × Value → H) :
    ReturnsInHanded {} Try.checked os 8 .any (Rows.gpioWritesSpec.pre6 enc Try.prog Try.f8 Rows.gpioWritesRow.domain false) (Rows.gpioWritesSpec.post enc Try.prog Try.f8 false true false false) := by
  refine returnsInHanded_of_change (C := Try.checked) own started (by kernel_rfl) Try.func8
    (ChangeSpec.witness6 (enc := enc) (C := Try.checked) false ⟨#[], #[.int .u8 0, .int .u8 0, .int .i32 0], []⟩ 8 (by kernel_rfl) (by kernel_rfl) (by kernel_rfl) (by kernel_rfl)) ?_
  intro W base args ds gs before hval0 hW hcnd _
  have hval : ∀ (j : Nat) t v, Try.f8.params[j]? = some t → args[j]? = some v → Value.okWide Try.prog W .any base t v := hval0
  have hW' := hW
  obtain ⟨p, q, hA0, hV, rfl, hfz, hnd⟩ := hW
  have hA : DataW.TrodAll enc Try.prog W 0 (fun _ => true) true Try.f8.params.toList args.toList ds p := hA0
  rw [Try.params8] at hA hval
  obtain ⟨v0, vs0, d0, ds0, p0, q0, hargs, rfl, rfl, h0, r0⟩ := trodAll_cons hA
  obtain ⟨v1, vs1, d1, ds1, p1, q1, rfl, rfl, rfl, h1, r1⟩ := trodAll_cons r0
  obtain ⟨v2, vs2, d2, ds2, p2, q2, rfl, rfl, rfl, h2, r2⟩ := trodAll_cons r1
  obtain ⟨rfl, rfl, rfl⟩ := trodAll_nil r2
  obtain rfl : args = #[v0, v1, v2] := by cases args; simp_all
  obtain ⟨rfl, rfl⟩ := trodVars_none hV
  obtain ⟨a0, rfl, rfl, rfl, w0⟩ := open_int Try.underlying5 (hval 0 5 v0 rfl rfl) h0
  obtain ⟨a1, rfl, rfl, rfl, w1⟩ := open_int Try.underlying5 (hval 1 5 v1 rfl rfl) h1
  obtain ⟨a2, rfl, rfl, rfl, w2⟩ := open_int Try.underlying21 (hval 2 21 v2 rfl rfl) h2
  clear hA0 hval0
  simp only [List.append_nil] at hW'
  refine (walk a0 a1 a2 w0 w1 w2 W).mono fun e W' ⟨he, hg⟩ => ?_
  subst he
  exact ⟨_, rfl, post_of_below (pa := []) (pv := []) hW' (fun _ _ _ => (trodAll_cons_mk (shut_bool Try.underlying4 _) trodAll_mk0)) (fun sp _ => (trodAll_cons_mk (shut_int Try.underlying5 w0) (trodAll_cons_mk (shut_int Try.underlying5 w1) (trodAll_cons_mk (shut_int Try.underlying21 w2) trodAll_mk0)))) (fun _ _ => rfl) rfl
    hg (ok_one (by kernel_rfl) rfl (okWide_bool_mk Try.underlying4 _))⟩

theorem over : Rows.gpioWritesRow.holds Try.pinned (OpenSpec.ofChange Rows.gpioWritesSpec) :=
  OpenClaim.holds_of_wide 8 Try.f8 rfl rfl rfl rfl rfl rfl rfl ⟨rfl, rfl, rfl, rfl, rfl⟩ rfl rfl rfl rfl rfl (by kernel_rfl) Try.func8 (by kernel_rfl)
    (of_decide_eq_true (by kernel_rfl)) (by unfold Func.isWrapper; first | (rw [if_pos (by decide +kernel)]; kernel_rfl) | (rw [if_neg (by decide +kernel)]; exact ⟨rfl, rfl⟩))
    (fun os started H enc _ => lifted os started H enc)

/-- ████ THE STATEMENT ████ -/
theorem proved : Rows.GpioWritesSaid :=
  over
#print axioms proved
end Go.Proofs.Ytgifnmiggloclaa.gpioWrites
