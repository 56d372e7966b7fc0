/-
  WireReads is true: whatever is asked of any bytes is answered as the document says, and so is what is wrong.
  No conditions.
-/
import Derived.Test.YtapfkgenachpgaaDoorRows
import Derived.Test.YtapfkgenachpgaaDoorCards
import Derived.Test.YtapfkgenachpgaaDoorTie
import Derived.SevenTiedAt
import Derived.WalkKit
import Derived.ProofKit
import Derived.OpenShut
import Derived.Below
import Derived.ChangeSame
import Derived.ChangeMaps5
import Derived.Lib.Strings
import Derived.Test.YtapfkgenachpgaaDoorWrh
namespace Go.Proofs.YtapfkgenachpgaaDoor.wireReads
open Go.ChangeShapes Go.WideShapes Go.ChangeAt Go.RowKit
open Go.Ev Go.Proofs.YtapfkgenachpgaaDoor.fa Go.Proofs.YtapfkgenachpgaaDoor.wn Go.Proofs.YtapfkgenachpgaaDoor.wr
set_option linter.unusedVariables false
set_option linter.unusedSimpArgs false

theorem own : ownKnob Tryd.prog.godebug = none := by kernel_rfl

theorem endC {W : World} {τ : Sig} : EndZ wnTab 76 W (WZ W) .ret wrSE (asgS τ [(0, .bool true)]) := by
  intro en a w hxe hA
  obtain ⟨g, hg, hH, hT, _, _⟩ := hA.ex
  obtain ⟨u, h1, h2⟩ := hT (4, .symb 0) (by simp [wrSE])
  cases h2
  have hb : g.sig.bval 0 = true := by rw [hg]; rfl
  rw [hb] at h1
  have hres : (results Tryd.f5 a.tmps).run Tryd.prog w = .ok (.bool true) w := by
    rw [results_eq, Array.mapM_eq_mapM_toList, show Tryd.f5.results.toList = [.tmp 4] from rfl]
    simp only [Sem.run_bind, Sem.run_map, Sem.run_pure, List.mapM_cons, List.mapM_nil, resOne, Result.andThen_ok]
    have h1' : a.tmps.getD 4 undef = .bool true := by rw [Array.getD_eq_getD_getElem?, h1]; rfl
    simp [h1']
  have : a.defers = [] ∧ ∃ v, (results Tryd.f5 a.tmps).run Tryd.prog w = .ok v w ∧ (Ending.returned v = .returned (.bool true) ∧ RowKit.Below W.heap.size W w) := ⟨hA.defers, _, hres, rfl, hA.below.below⟩
  cases en with
  | ret => exact this
  | _ => exact hxe.elim

theorem walk (W : World) (hL : laidMetH Tryd.prog laid W) (s : ByteArray) (hs : s.size ≤ 9223372036854775807) (v1 : Value) (X : Fz) (hX : RowV W wrC2 v1 X) : Calls Tryd.prog 5 #[.string s, v1] W fun e W' => e = .returned (.bool true) ∧ Below W.heap.size W W' := by
  obtain ⟨O, hO, hY⟩ := err_of_cell (handle_of_laid hL)
  let σ0 : Sig := ⟨fun i => if i = 1 then (X.len : Int) else 0, fun _ => false, fun i => if i = 0 then s else .empty, wnTab, EE X O⟩
  have hl := hX.len
  have hC : Stage Tryd.prog wnTab 76 W (WZ W) ((flatC (bodyOf Tryd.f5)).drop 5) wrSe 0 [] (fun σ => σ.ext = EE X O) := by
    refine Stage.lastI mixed wrC_seg ⟨rfl, rfl⟩ (fun σ τ ag h => by rw [← ag.ext]; exact h) (fun τ h => rows_nil) (fun τ h => EE_inv hO h) (fun τ e ht hi hj => ?_)
    exact fun hF => endC (W := W)
  refine calls_of_stageG (σ0 := σ0) (tab := wnTab) (n := 76) (q := 2) (ins := [none, some .i64]) (args := [.syms 0, .row 0]) (J := fun σ => σ.ext = EE X O ∧ σ.ival 1 = X.len ∧ (σ.sval 0).size ≤ 9223372036854775807) Tryd.func5 rfl rfl rfl (.cons _ _ _ _ (.syms 0) (.cons _ _ _ _ (hX.rel _ 0 rfl) .nil)) (by simp) ?_ ?_ ⟨rfl, rfl, hs⟩ ?_
  · intro i Y h hlen
    have h : EE X O i = some Y := h
    unfold EE at h
    split at h
    · cases h; exact hX.ok hlen
    · split at h
      · cases h; exact hY
      · cases h
  · intro i k hi hk
    have : i = 0 ∨ i = 1 := by omega
    rcases this with rfl | rfl
    · cases hk
    · simp only [List.getElem?_cons_succ, List.getElem?_cons_zero, Option.getD_some, Option.some.injEq] at hk
      subst hk
      show IntKind.i64.wrap (X.len : Int) = X.len
      rw [wr_i64]; omega
  rw [show flatC (bodyOf Tryd.f5) = (flatC (bodyOf Tryd.f5)).take 4 ++ (.block (idOf (bodyOf Tryd.f5)) (.loop (loopOf (bodyOf Tryd.f5))) :: (flatC (bodyOf Tryd.f5)).drop 5) from rfl]
  refine Stage.seg (q2 := 6) (ins2 := wrK) (S2 := wrS false) (J2 := fun σ => RowE (EE X O) X σ ∧ J false σ) mixed wrA_seg ⟨rfl, rfl⟩ (fun σ τ ag h => ⟨by rw [← ag.ext]; exact h.1, by rw [← (ag.val 1 (by decide)).1]; exact h.2.1, by rw [← (ag.val 0 (by decide)).2.2]; exact h.2.2⟩) (fun τ h => ?_)
    (Stage.rowLoopF (J := J) (q := 6) (insq := wrK) hX rfl (by decide) (fun b => by cases b <;> kernel_rfl) (fun i σ τ ag h => h.agree ag) (fun k b => ?_) false) ?_
  · intro i r Y hr hYY
    have hr0 : i = 0 := by
      cases i with
      | zero => rfl
      | succ i => simp [wrAX] at hr
    subst hr0
    rw [h.1] at hYY
    cases hYY
    simp only [wrAX, List.getElem?_cons_zero, Option.some.injEq] at hr
    subst hr
    exact ⟨by show AVal.int .i64 _ = _; rw [h.2.1], fun p hp => by cases hp⟩
  · cases b
    · refine Stage.lastI mixed wrB0_seg ⟨rfl, rfl⟩ (fun σ τ ag h => ⟨h.1.agree ag, h.2.1.agree (ag.less (by decide)), by rw [← (ag.val 0 (by decide)).1]; exact h.2.2⟩) (fun τ h => h.1.rows hX (fun Y hy => by cases hy; rfl) (by decide)) (fun τ h => EE_inv hO (h.1.hd (by decide)).ext) (fun τ e ht hi hj => ?_)
      exact round0 hX hC τ e ht hi (hj.1.hd (by decide)) hj.2.1 hj.2.2
    · refine Stage.lastI mixed wrB1_seg ⟨rfl, rfl⟩ (fun σ τ ag h => ⟨h.1.agree ag, h.2.1.agree (ag.less (by decide)), by rw [← (ag.val 0 (by decide)).1]; exact h.2.2⟩) (fun τ h => h.1.rows hX (fun Y hy => by cases hy; rfl) (by decide)) (fun τ h => EE_inv hO (h.1.hd (by decide)).ext) (fun τ e ht hi hj => ?_)
      exact round1 hX hC τ e ht hi (hj.1.hd (by decide)) hj.2.1 hj.2.2
  · intro τ e ht hi hj
    have h2 : τ.ival 2 = ((τ.sval 0).size : Nat) := eqLen (e.at 0 _ rfl rfl)
    have h3 : τ.ival 3 = (if 200 < τ.ival 2 then 200 else τ.ival 2) := eqI (e.at 1 _ rfl rfl) rfl
    have h4 : τ.bval 4 = decide ((0 : Int) ≤ τ.ival 3) := eqB (e.at 2 _ rfl rfl) rfl
    have h5 : τ.bval 5 = decide (τ.ival 3 ≤ τ.ival 2) := eqB (e.at 3 _ rfl rfl) rfl
    have h6 : τ.sval 6 = (τ.sval 0).extract (0 : Int).toNat (τ.ival 3).toNat := eqSub (e.at 4 _ rfl rfl) (show den τ (.int .i64 0) = .int .i64 0 from rfl) (show den τ (.symi .i64 3) = .int .i64 (τ.ival 3) from rfl)
    have b3 : 0 ≤ τ.ival 3 ∧ τ.ival 3 ≤ 200 ∧ τ.ival 3 ≤ τ.ival 2 := by rw [h3]; split <;> omega
    have hsz : (τ.sval 6).size ≤ 200 := by rw [h6, ByteArray.size_extract]; omega
    refine ⟨⟨fun hF => .inl ⟨rfl, rfl, insOk_asg e hi 12 (by kernel_rfl), ⟨⟨hj.1, hj.2.1, Int.le_refl 0, Int.natCast_nonneg _⟩, ⟨Int.le_refl 0, Int.natCast_nonneg _, ?_, fun hb => by cases hb⟩⟩, ht⟩, fun hF => ?_⟩, fun hF => ?_⟩
    · show ((τ.sval 6).size : Int) ≤ 200
      omega
    · have := hF.1
      simp only [Fact.holds] at this
      rw [h5] at this
      simp only [decide_eq_false_iff_not] at this
      omega
    · have := hF.1
      simp only [Fact.holds] at this
      rw [h4] at this
      simp only [decide_eq_false_iff_not] at this
      omega

section
variable {H : Type} {enc : TypeId × Value → H} {P : Program}
theorem post_of_below {f : Func} {s : ChangeSpec} {apart fresh handsOn again : Bool} {W W' : World} {args : Array Value} {v : Value} {ds gs : List (DataW H)} {before pa pv : List MemPlace}
    (hW : DataW.Whole enc P f.params.toList s.vars apart W args.toList ds gs before)
    (hres : ∀ (b : Nat) (sp : Nat → Bool) (hd : Bool), DataW.TrodAll enc P W' b sp hd f.resultTypes.toList (v.resultList f.resultTypes.size) (s.fn H (ds ++ gs)).results [])
    (hargs : ∀ sp : Nat → Bool, (∀ p ∈ before, sp p.block = true) → DataW.TrodAll enc P W' 0 sp true f.params.toList args.toList (s.fn H (ds ++ gs)).args pa)
    (hvars : ∀ sp : Nat → Bool, (∀ p ∈ before, sp p.block = true) → DataW.TrodVars enc P W' sp s.vars (s.fn H (ds ++ gs)).vars pv)
    (hps : before = pa ++ pv) (hb : Below W.heap.size W W')
    (hok : ∀ (j : Nat) (t : TypeId) (r : Value), f.resultTypes[j]? = some t → (v.resultList f.resultTypes.size)[j]? = some r → Value.okWide P W' .any 0 t r) :
    s.post enc P f apart fresh handsOn again W args v W' := by
  have hlt : ∀ p ∈ before, p.block < W.heap.size := fun p hp => hW.lt p hp
  have hold : ∀ p ∈ before, (fun b => decide (b < W.heap.size)) p.block = true := fun p hp => by simpa using hlt p hp
  refine ⟨ds, gs, before, [], pa, pv, hW, hres _ _ _, hargs _ hold, hvars _ hold, World.keptBut_mono (fun p hp => ⟨hp, ?_⟩) (hb.frame (· ∈ before)), fun _ => ?_⟩
  · rw [hps, List.mem_append] at hp
    exact Or.inr hp
  · obtain ⟨_, _, _, _, _, hz, hn⟩ := hW
    refine ⟨hok, _, _, ([] ++ pa) ++ pv, ⟨[] ++ pa, pv, trodAll_append (hargs _ (fun _ _ => rfl)) (hres _ _ _), hvars _ (fun _ _ => rfl), rfl, ?_, ?_⟩, ?_⟩
    · intro b off hp
      have hin : MemPlace.cell b off ∈ before := by rw [hps]; simpa using hp
      rw [hb.frozen (hlt _ hin)]
      exact hz b off hin
    · intro ha
      have := hn ha
      rw [hps] at this
      simpa using this
    · intro p hp _
      rw [hps]
      simpa using hp
end


theorem size48 : Nat.beq (Tryd.prog.cellsOf 48) ([.i .u8, .i .i16] : List Cl).length = true := by kernel_rfl
theorem flat48 : flat Tryd.prog 4 48 = some [.i .u8, .i .i16] := by kernel_rfl

set_option maxRecDepth 100000 in
theorem lifted (os : Os) (started : os.Started) (H : Type) (enc : TypeId × Value → H) :
    ReturnsInHanded {} Tryd.checked os 5 .any (fun w args => (Rows.wireReadsSpec.pre enc Tryd.prog Tryd.f5 [] false w args ∧ laidMetH Tryd.prog laid w) ∧ sizedMet enc Tryd.prog Tryd.f5 (OpenSpec.ofChange Rows.wireReadsSpec) false w args) (Rows.wireReadsSpec.post enc Tryd.prog Tryd.f5 false true false false) := by
  refine returnsInHanded_of_change_and (C := Tryd.checked) (X := fun w _ => laidMetH Tryd.prog laid w) (fun _ _ _ hh h => h.of_heap hh) own started (by kernel_rfl) Tryd.func5
    (ChangeSpec.witness_at (enc := enc) (C := Tryd.checked) (os := os) (X := fun w _ => laidMetH Tryd.prog laid w) false (laidWorld os) #[.string .empty, .slice none 0 0] 8 rfl (by kernel_rfl) (by kernel_rfl) (by kernel_rfl) (by kernel_rfl) (by kernel_rfl) (laidWorld_met os _)) ?_
  intro W base args ds gs before hval0 hW _ _ hL _
  have hval : ∀ (j : Nat) t v, Tryd.f5.params[j]? = some t → args[j]? = some v → Value.okWide Tryd.prog W .any base t v := hval0
  have hW' := hW
  obtain ⟨p, q, hA0, hV, rfl, hfz, hnd⟩ := hW
  have hA : DataW.TrodAll enc Tryd.prog W 0 (fun _ => true) true Tryd.f5.params.toList args.toList ds p := hA0
  rw [Tryd.params5] at hA hval
  obtain ⟨v0, vs0, d0, ds0, p0, q0, hargs, rfl, rfl, h0, r0⟩ := trodAll_cons hA
  obtain ⟨v1, vs1, d1, ds1, p1, q1, rfl, rfl, rfl, h1, r1⟩ := trodAll_cons r0
  obtain ⟨rfl, rfl, rfl⟩ := trodAll_nil r1
  obtain rfl : args = #[v0, v1] := by cases args; simp_all
  obtain ⟨rfl, rfl⟩ := trodVars_none hV
  obtain ⟨s0, rfl, rfl, rfl, z0⟩ := Go.ChangeMaps.open_string Tryd.underlying9 (hval 0 9 v0 rfl rfl) h0
  obtain ⟨X1, R1⟩ := open_rows (cl := [.i .u8, .i .i16]) Tryd.underlying36 flat48 size48 rfl (hval 1 36 v1 rfl rfl) h1
  clear hA0 hval0
  simp only [List.append_nil] at hW'
  refine (walk W hL s0 z0 v1 X1 R1.row).mono fun e W' ⟨he, hg⟩ => ?_
  subst he
  exact ⟨_, rfl, post_of_below (pa := [] ++ (p1 ++ ([]))) (pv := []) hW' (fun _ _ _ => (trodAll_cons_mk (shut_bool Tryd.underlying4 _) trodAll_mk0)) (fun sp hsp => (trodAll_cons_mk (Go.ChangeMaps.shut_string Tryd.underlying9 z0) (trodAll_cons_mk (R1.again W' hg sp (fun z hz => hsp z (by simp [hz]))) trodAll_mk0))) (fun _ _ => rfl) (by simp)
    hg (ok_one (by kernel_rfl) rfl (okWide_bool_mk Tryd.underlying4 _))⟩

theorem over : Rows.wireReadsRow.holds Tryd.pinned (OpenSpec.ofChange Rows.wireReadsSpec) :=
  OpenClaim.holds_of_wide 5 Tryd.f5 rfl rfl rfl rfl rfl rfl rfl ⟨rfl, rfl, rfl, rfl, rfl⟩ rfl rfl rfl rfl rfl (by kernel_rfl) Tryd.func5 (by kernel_rfl)
    (of_decide_eq_true (by kernel_rfl)) (by unfold Func.isWrapper; first | (rw [if_pos (by decide +kernel)]; kernel_rfl) | (rw [if_neg (by decide +kernel)]; exact ⟨rfl, rfl⟩))
    (fun os started H enc _ => lifted os started H enc)

/-- THE STATEMENT: the row's, and what it lists tied to the program's text (the tie is given). -/
theorem proved : Rows.WireReadsCardSaid :=
  Claim7.holds_tied_plain_at .later [] [.handle] true (true, "c2838ca91c28a9fb7908c478833805ac40200ffe986e5b7931e25f0c134e5a5f") true
    over (fun _ h => by cases h) (by kernel_rfl) (fun _ h => by cases h) wireReads_row_tie rfl ⟨rfl, rfl⟩ (by kernel_rfl) rfl
    (fun f fn hf hfn => by
      obtain rfl : f = 5 := Option.some.inj ((show Tryd.prog.funcNamed "plover/ploverlaw01.WireReads" = some 5 by kernel_rfl).symm.trans hf) |>.symm
      obtain rfl : fn = Tryd.f5 := (Option.some.inj (Tryd.func5.symm.trans hfn)).symm
      exact ⟨by kernel_rfl, fun j t ht => by
        rw [Tryd.params5] at ht
        rcases j with _ | _ | j
        · obtain rfl : t = 9 := by simpa using ht.symm
          exact (show Tryd.prog.wantsStandIn 9 = false by kernel_rfl)
        · obtain rfl : t = 36 := by simpa using ht.symm
          exact (show Tryd.prog.wantsStandIn 36 = false by kernel_rfl)
        · simp at ht⟩)
    (by kernel_rfl)
#print axioms proved
end Go.Proofs.YtapfkgenachpgaaDoor.wireReads
