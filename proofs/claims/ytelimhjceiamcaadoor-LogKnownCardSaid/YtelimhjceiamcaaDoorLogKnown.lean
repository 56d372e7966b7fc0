/-
  ploverlaw26.LogKnown is true: a law without arguments, reckoned in the kernel by the proved evaluator; errors.As and errors.Is by their contracts (..Fa).
  No conditions.
-/
import Derived.Test.YtelimhjceiamcaaDoorRows
import Derived.Test.YtelimhjceiamcaaDoorCards
import Derived.Test.YtelimhjceiamcaaDoorTie
import Derived.SevenTiedAt
import Derived.WalkKit
import Derived.ProofKit
import Derived.OpenShut
import Derived.Below
import Derived.ChangeSame
import Derived.Test.YtelimhjceiamcaaDoorFal
import Derived.Test.YtelimhjceiamcaaDoorEwX
import Derived.Test.YtelimhjceiamcaaDoorEwZq
namespace Go.Proofs.YtelimhjceiamcaaDoor.logKnown
open Go.ChangeShapes Go.WideShapes Go.ChangeAt Go.RowKit
open Go.Ev Go.Proofs.YtelimhjceiamcaaDoor.fa
set_option linter.unusedVariables false

theorem own : ownKnob Tryd.prog.godebug = none := by kernel_rfl
theorem mixed : Tryd.prog.follows .mixedOrders = true := Checked.mixed Tryd.checked

noncomputable def ing : Ing := { m := 0, G := [], T := .e, mh := asMh Tryd.prog 35 78 88 36 34, inv := OwnInv 0 isErr }
theorem hooks (F : List Fact) : Hooks Tryd.prog (cxOf ing F) :=
  ⟨fun f args v h => by simp only [ing, cxOf, noHook, reduceCtorEq] at h, fun f args hp v hp' h => as_mem (X := ing) rfl rfl as_ok is_ok (fun _ h => h) F f args hp v hp' h⟩

theorem err_inv (O : Obj) (σ : Sig) (hO : isErr O) (he : σ.ext = fun i => if i = 0 then some (errRow O) else none) : OwnInv 0 isErr σ := own_inv (r := 0) hO (by rw [he]; rfl)
theorem err_fz (O : Obj) (w : World) (hO : isErr O) (hw : w.heap[0]? = some O) : FzOk (errRow O) w := by
  obtain ⟨C, t, fr, rfl, hC⟩ := hO
  exact ⟨C, t, fr, hw, fun m j hm hj => absurd hj (Nat.not_lt_zero j), fun o ho => by cases ho; exact hw⟩
def lit0 : LitE := ⟨14, [], true⟩
theorem lit0_run : isBool lit0.b ((evD Tryd.prog (cxOf ing) true 1000 40).1 [] lit0.f lit0.args ⟨[], []⟩) = true := by kernel_rfl
theorem lit0_ok : LitOk Tryd.prog 0 isErr lit0 := closed_lit (X := ing) errRow ⟨rfl, rfl, rfl, rfl, rfl, rfl⟩ err_inv err_fz mixed hooks rfl lit0_run
def lit1 : LitE := ⟨21, [.str ⟨#[80]⟩, .int .i64 1], true⟩
theorem lit1_run : isBool lit1.b ((evD Tryd.prog (cxOf ing) true 1000 40).1 [] lit1.f lit1.args ⟨[], []⟩) = true := by kernel_rfl
theorem lit1_ok : LitOk Tryd.prog 0 isErr lit1 := closed_lit (X := ing) errRow ⟨rfl, rfl, rfl, rfl, rfl, rfl⟩ err_inv err_fz mixed hooks rfl lit1_run
def lit2 : LitE := ⟨21, [.str ⟨#[80, 76, 1, 0]⟩, .int .i64 3], true⟩
theorem lit2_run : isBool lit2.b ((evD Tryd.prog (cxOf ing) true 1000 40).1 [] lit2.f lit2.args ⟨[], []⟩) = true := by kernel_rfl
theorem lit2_ok : LitOk Tryd.prog 0 isErr lit2 := closed_lit (X := ing) errRow ⟨rfl, rfl, rfl, rfl, rfl, rfl⟩ err_inv err_fz mixed hooks rfl lit2_run
def lit3 : LitE := ⟨21, [.str ⟨#[80, 76, 1, 0, 0, 0, 0]⟩, .int .i64 7], true⟩
theorem lit3_run : isBool lit3.b ((evD Tryd.prog (cxOf ing) true 1000 40).1 [] lit3.f lit3.args ⟨[], []⟩) = true := by kernel_rfl
theorem lit3_ok : LitOk Tryd.prog 0 isErr lit3 := closed_lit (X := ing) errRow ⟨rfl, rfl, rfl, rfl, rfl, rfl⟩ err_inv err_fz mixed hooks rfl lit3_run
def lit4 : LitE := ⟨21, [.str ⟨#[80, 76, 1, 0, 0, 0, 0, 3]⟩, .int .i64 7], true⟩
theorem lit4_run : isBool lit4.b ((evD Tryd.prog (cxOf ing) true 1000 40).1 [] lit4.f lit4.args ⟨[], []⟩) = true := by kernel_rfl
theorem lit4_ok : LitOk Tryd.prog 0 isErr lit4 := closed_lit (X := ing) errRow ⟨rfl, rfl, rfl, rfl, rfl, rfl⟩ err_inv err_fz mixed hooks rfl lit4_run
def lit5 : LitE := ⟨21, [.str ⟨#[80, 76, 1, 0, 0, 0, 0, 1]⟩, .int .i64 8], true⟩
theorem lit5_run : isBool lit5.b ((evD Tryd.prog (cxOf ing) true 1000 40).1 [] lit5.f lit5.args ⟨[], []⟩) = true := by kernel_rfl
theorem lit5_ok : LitOk Tryd.prog 0 isErr lit5 := closed_lit (X := ing) errRow ⟨rfl, rfl, rfl, rfl, rfl, rfl⟩ err_inv err_fz mixed hooks rfl lit5_run
def lit6 : LitE := ⟨21, [.str ⟨#[80, 76, 1, 0, 0, 0, 0, 1, 64, 5]⟩, .int .i64 8], true⟩
theorem lit6_run : isBool lit6.b ((evD Tryd.prog (cxOf ing) true 1000 40).1 [] lit6.f lit6.args ⟨[], []⟩) = true := by kernel_rfl
theorem lit6_ok : LitOk Tryd.prog 0 isErr lit6 := closed_lit (X := ing) errRow ⟨rfl, rfl, rfl, rfl, rfl, rfl⟩ err_inv err_fz mixed hooks rfl lit6_run
def lit7 : LitE := ⟨21, [.str ⟨#[80, 76, 1, 0, 0, 0, 0, 1, 3, 4]⟩, .int .i64 9], true⟩
theorem lit7_run : isBool lit7.b ((evD Tryd.prog (cxOf ing) true 1000 40).1 [] lit7.f lit7.args ⟨[], []⟩) = true := by kernel_rfl
theorem lit7_ok : LitOk Tryd.prog 0 isErr lit7 := closed_lit (X := ing) errRow ⟨rfl, rfl, rfl, rfl, rfl, rfl⟩ err_inv err_fz mixed hooks rfl lit7_run
def lit8 : LitE := ⟨21, [.str ⟨#[80, 76, 1, 0, 0, 0, 0, 1, 3, 0]⟩, .int .i64 10], true⟩
theorem lit8_run : isBool lit8.b ((evD Tryd.prog (cxOf ing) true 1000 40).1 [] lit8.f lit8.args ⟨[], []⟩) = true := by kernel_rfl
theorem lit8_ok : LitOk Tryd.prog 0 isErr lit8 := closed_lit (X := ing) errRow ⟨rfl, rfl, rfl, rfl, rfl, rfl⟩ err_inv err_fz mixed hooks rfl lit8_run
def lit9 : LitE := ⟨21, [.str ⟨#[80, 76, 1, 0, 0, 0, 0, 1, 3, 0, 65]⟩, .int .i64 11], true⟩
theorem lit9_run : isBool lit9.b ((evD Tryd.prog (cxOf ing) true 1000 40).1 [] lit9.f lit9.args ⟨[], []⟩) = true := by kernel_rfl
theorem lit9_ok : LitOk Tryd.prog 0 isErr lit9 := closed_lit (X := ing) errRow ⟨rfl, rfl, rfl, rfl, rfl, rfl⟩ err_inv err_fz mixed hooks rfl lit9_run
def lit10 : LitE := ⟨21, [.str ⟨#[80, 76, 1, 0, 0, 0, 0, 1, 3, 0, 65, 0]⟩, .int .i64 11], true⟩
theorem lit10_run : isBool lit10.b ((evD Tryd.prog (cxOf ing) true 1000 40).1 [] lit10.f lit10.args ⟨[], []⟩) = true := by kernel_rfl
theorem lit10_ok : LitOk Tryd.prog 0 isErr lit10 := closed_lit (X := ing) errRow ⟨rfl, rfl, rfl, rfl, rfl, rfl⟩ err_inv err_fz mixed hooks rfl lit10_run
def lit11 : LitE := ⟨21, [.str ⟨#[80, 76, 1, 0, 0, 0, 0, 1, 3, 0, 65, 47, 1, 0]⟩, .int .i64 13], true⟩
theorem lit11_run : isBool lit11.b ((evD Tryd.prog (cxOf ing) true 1000 40).1 [] lit11.f lit11.args ⟨[], []⟩) = true := by kernel_rfl
theorem lit11_ok : LitOk Tryd.prog 0 isErr lit11 := closed_lit (X := ing) errRow ⟨rfl, rfl, rfl, rfl, rfl, rfl⟩ err_inv err_fz mixed hooks rfl lit11_run
def lit12 : LitE := ⟨21, [.str ⟨#[80, 76, 1, 0, 0, 0, 0, 1, 3, 0, 65, 47, 2, 0, 1]⟩, .int .i64 14], true⟩
theorem lit12_run : isBool lit12.b ((evD Tryd.prog (cxOf ing) true 1000 40).1 [] lit12.f lit12.args ⟨[], []⟩) = true := by kernel_rfl
theorem lit12_ok : LitOk Tryd.prog 0 isErr lit12 := closed_lit (X := ing) errRow ⟨rfl, rfl, rfl, rfl, rfl, rfl⟩ err_inv err_fz mixed hooks rfl lit12_run
def lit13 : LitE := ⟨21, [.str ⟨#[80, 76, 1, 0, 0, 0, 0, 1, 3, 0, 65, 47, 255, 1, 0, 4]⟩, .int .i64 15], true⟩
theorem lit13_run : isBool lit13.b ((evD Tryd.prog (cxOf ing) true 1000 40).1 [] lit13.f lit13.args ⟨[], []⟩) = true := by kernel_rfl
theorem lit13_ok : LitOk Tryd.prog 0 isErr lit13 := closed_lit (X := ing) errRow ⟨rfl, rfl, rfl, rfl, rfl, rfl⟩ err_inv err_fz mixed hooks rfl lit13_run
def lit14 : LitE := ⟨21, [.str ⟨#[80, 76, 1, 0, 0, 0, 0, 1, 3, 0, 65, 47, 255, 1, 0, 0, 7]⟩, .int .i64 16], true⟩
theorem lit14_run : isBool lit14.b ((evD Tryd.prog (cxOf ing) true 1000 40).1 [] lit14.f lit14.args ⟨[], []⟩) = true := by kernel_rfl
theorem lit14_ok : LitOk Tryd.prog 0 isErr lit14 := closed_lit (X := ing) errRow ⟨rfl, rfl, rfl, rfl, rfl, rfl⟩ err_inv err_fz mixed hooks rfl lit14_run
def lit15 : LitE := ⟨21, [.str ⟨#[80, 76, 1, 0, 0, 0, 0, 1, 3, 0, 65, 47, 255, 192, 0, 0, 0, 64, 0, 0, 1]⟩, .int .i64 13], true⟩
theorem lit15_run : isBool lit15.b ((evD Tryd.prog (cxOf ing) true 1000 40).1 [] lit15.f lit15.args ⟨[], []⟩) = true := by kernel_rfl
theorem lit15_ok : LitOk Tryd.prog 0 isErr lit15 := closed_lit (X := ing) errRow ⟨rfl, rfl, rfl, rfl, rfl, rfl⟩ err_inv err_fz mixed hooks rfl lit15_run
def lits : List LitE := [lit0, lit1, lit2, lit3, lit4, lit5, lit6, lit7, lit8, lit9, lit10, lit11, lit12, lit13, lit14, lit15]
theorem lits_ok : ∀ e, e ∈ lits → LitOk Tryd.prog 0 isErr e := by
  intro e he
  simp only [lits, List.mem_cons, List.not_mem_nil, or_false] at he
  rcases he with rfl | rfl | rfl | rfl | rfl | rfl | rfl | rfl | rfl | rfl | rfl | rfl | rfl | rfl | rfl | rfl
  · exact lit0_ok
  · exact lit1_ok
  · exact lit2_ok
  · exact lit3_ok
  · exact lit4_ok
  · exact lit5_ok
  · exact lit6_ok
  · exact lit7_ok
  · exact lit8_ok
  · exact lit9_ok
  · exact lit10_ok
  · exact lit11_ok
  · exact lit12_ok
  · exact lit13_ok
  · exact lit14_ok
  · exact lit15_ok

noncomputable def ingL : Ing := { m := 0, G := [], T := .e, mh := litMh lits, inv := OwnInv 0 isErr }
theorem hooksL (F : List Fact) : Hooks Tryd.prog (cxOf ingL F) :=
  ⟨fun f args v h => by simp only [ingL, cxOf, noHook, reduceCtorEq] at h, fun f args hp v hp' h => lit_mem lits_ok (fun _ h => h) F f args hp v hp' h⟩
theorem reck : isTrue ((evD Tryd.prog (cxOf ingL) true 1000 40).1 [] 6 [] ⟨[], []⟩) = true := by kernel_rfl

theorem walk (W : World) (hL : laidMetH Tryd.prog laid W) : Calls Tryd.prog 6 #[] W fun e W' => e = .returned (.bool true) ∧ Below W.heap.size W W' := by
  obtain ⟨O, hO, hY⟩ := err_of_cell (handle_of_laid hL)
  exact closed_own (Y := errRow O) ⟨rfl, rfl, rfl, rfl, rfl, rfl⟩ (fun σ he => own_inv (r := 0) hO (by rw [he]; rfl)) (hm := mixed) (hh := hooksL) (h := reck) (w := W) (hY := hY)

section
variable {H : Type} {enc : TypeId × Value → H} {P : Program}
theorem post_of_below {f : Func} {s : ChangeSpec} {apart fresh handsOn again : Bool} {W W' : World} {args : Array Value} {v : Value} {ds gs : List (DataW H)} {before pa pv : List MemPlace}
    (hW : DataW.Whole enc P f.params.toList s.vars apart W args.toList ds gs before)
    (hres : ∀ (b : Nat) (sp : Nat → Bool) (hd : Bool), DataW.TrodAll enc P W' b sp hd f.resultTypes.toList (v.resultList f.resultTypes.size) (s.fn H (ds ++ gs)).results [])
    (hargs : ∀ sp : Nat → Bool, (∀ p ∈ before, sp p.block = true) → DataW.TrodAll enc P W' 0 sp true f.params.toList args.toList (s.fn H (ds ++ gs)).args pa)
    (hvars : ∀ sp : Nat → Bool, (∀ p ∈ before, sp p.block = true) → DataW.TrodVars enc P W' sp s.vars (s.fn H (ds ++ gs)).vars pv)
    (hps : before = pa ++ pv) (hb : Below W.heap.size W W')
    (hok : ∀ (j : Nat) (t : TypeId) (r : Value), f.resultTypes[j]? = some t → (v.resultList f.resultTypes.size)[j]? = some r → Value.okWide P W' .any 0 t r) :
    s.post enc P f apart fresh handsOn again W args v W' := by
  have hlt : ∀ p ∈ before, p.block < W.heap.size := fun p hp => hW.lt p hp
  have hold : ∀ p ∈ before, (fun b => decide (b < W.heap.size)) p.block = true := fun p hp => by simpa using hlt p hp
  refine ⟨ds, gs, before, [], pa, pv, hW, hres _ _ _, hargs _ hold, hvars _ hold, World.keptBut_mono (fun p hp => ⟨hp, ?_⟩) (hb.frame (· ∈ before)), fun _ => ?_⟩
  · rw [hps, List.mem_append] at hp
    exact Or.inr hp
  · obtain ⟨_, _, _, _, _, hz, hn⟩ := hW
    refine ⟨hok, _, _, ([] ++ pa) ++ pv, ⟨[] ++ pa, pv, trodAll_append (hargs _ (fun _ _ => rfl)) (hres _ _ _), hvars _ (fun _ _ => rfl), rfl, ?_, ?_⟩, ?_⟩
    · intro b off hp
      have hin : MemPlace.cell b off ∈ before := by rw [hps]; simpa using hp
      rw [hb.frozen (hlt _ hin)]
      exact hz b off hin
    · intro ha
      have := hn ha
      rw [hps] at this
      simpa using this
    · intro p hp _
      rw [hps]
      simpa using hp
end



set_option maxRecDepth 100000 in
theorem lifted (os : Os) (started : os.Started) (H : Type) (enc : TypeId × Value → H) :
    ReturnsInHanded {} Tryd.checked os 6 .any (fun w args => (Rows.logKnownSpec.pre enc Tryd.prog Tryd.f6 [] false w args ∧ laidMetH Tryd.prog laid w) ∧ sizedMet enc Tryd.prog Tryd.f6 (OpenSpec.ofChange Rows.logKnownSpec) false w args)
      (Rows.logKnownSpec.post enc Tryd.prog Tryd.f6 false true false false) := by
  refine returnsInHanded_of_change_and (C := Tryd.checked) (X := fun w _ => laidMetH Tryd.prog laid w) (fun _ _ _ hh h => h.of_heap hh) own started (by kernel_rfl) Tryd.func6
    (ChangeSpec.witness_at (enc := enc) (C := Tryd.checked) (os := os) (X := fun w _ => laidMetH Tryd.prog laid w) false (laidWorld os) #[] 8 rfl (by kernel_rfl) (by kernel_rfl) (by kernel_rfl) (by kernel_rfl) (by kernel_rfl) (laidWorld_met os _)) ?_
  intro W base args ds gs before hval0 hW _ _ hL _
  have hW' := hW
  obtain ⟨p, q, hA0, hV, rfl, hfz, hnd⟩ := hW
  have hA : DataW.TrodAll enc Tryd.prog W 0 (fun _ => true) true Tryd.f6.params.toList args.toList ds p := hA0
  rw [Tryd.params6] at hA
  obtain ⟨rfl, rfl, rfl⟩ := trodAll_none hA
  obtain ⟨rfl, rfl⟩ := trodVars_none hV
  clear hA0 hval0
  simp only [List.append_nil] at hW'
  refine (walk W hL).mono fun e W' ⟨he, hg⟩ => ?_
  subst he
  exact ⟨_, rfl, post_of_below (pa := []) (pv := []) hW' (fun _ _ _ => (trodAll_cons_mk (shut_bool Tryd.underlying4 _) trodAll_mk0)) (fun sp _ => rfl) (fun _ _ => rfl) rfl
    hg (ok_one (by kernel_rfl) rfl (okWide_bool_mk Tryd.underlying4 _))⟩

theorem over : Rows.logKnownRow.holds Tryd.pinned (OpenSpec.ofChange Rows.logKnownSpec) :=
  OpenClaim.holds_of_wide 6 Tryd.f6 rfl rfl rfl rfl rfl rfl rfl ⟨rfl, rfl, rfl, rfl, rfl⟩ rfl rfl rfl rfl rfl (by kernel_rfl) Tryd.func6 (by kernel_rfl)
    (of_decide_eq_true (by kernel_rfl)) (by unfold Func.isWrapper; first | (rw [if_pos (by decide +kernel)]; kernel_rfl) | (rw [if_neg (by decide +kernel)]; exact ⟨rfl, rfl⟩))
    (fun os started H enc _ => lifted os started H enc)

/-- THE STATEMENT: the row's, and what it lists tied to the program's text (the tie is given). -/
theorem proved : Rows.LogKnownCardSaid :=
  Claim7.holds_tied_plain_at .later [] [.handle] true (true, "f7320017d8dbac5bf9390de536c7a94b842b6469bd8c9c4a50570fa0399e2027") true
    over (fun _ h => by cases h) (by kernel_rfl) (fun _ h => by cases h) logKnown_row_tie rfl ⟨rfl, rfl⟩ (by kernel_rfl) rfl
    (fun f fn hf hfn => by
      obtain rfl : f = 6 := Option.some.inj ((show Tryd.prog.funcNamed "plover/ploverlaw26.LogKnown" = some 6 by kernel_rfl).symm.trans hf) |>.symm
      obtain rfl : fn = Tryd.f6 := (Option.some.inj (Tryd.func6.symm.trans hfn)).symm
      exact ⟨by kernel_rfl, fun j t ht => by
        rw [Tryd.params6] at ht
        simp at ht⟩)
    (by kernel_rfl)
#print axioms proved
end Go.Proofs.YtelimhjceiamcaaDoor.logKnown
