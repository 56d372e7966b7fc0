/-
  IrqTells is true: reckoned with unknown numbers; irq.Choose and ploverref14.Choose by their contracts.
  No conditions.
-/
import Derived.Test.YtgifnmiggloclaaRows
import Derived.WalkKit
import Derived.ProofKit
import Derived.OpenShut
import Derived.Below
import Derived.ChangeSame
import Derived.Test.YtgifnmiggloclaaCk
import Derived.Test.YtgifnmiggloclaaEwZ
namespace Go.Proofs.Ytgifnmiggloclaa.irqTells
open Go.ChangeShapes Go.WideShapes Go.ChangeAt Go.RowKit
open Go.Ev Go.Proofs.Ytgifnmiggloclaa.ck
set_option linter.unusedVariables false

theorem own : ownKnob Try.prog.godebug = none := by kernel_rfl

theorem works_run : isTrue ((evD Try.prog (cxOf noIng) true 1000 40).1 [] 48 [] ⟨[], []⟩) = true := by kernel_rfl
theorem works_contract : FnOk Try.prog 48 [] [.one .b] (fun _ => [1]) := fun l hl w => closed_hook ⟨rfl, rfl, rfl, rfl, rfl, rfl⟩ ck.mixed (fun F => no_hooks rfl F) works_run w

def ckFs : Nat → List Int → List Int
  | 0 => chooseF
  | _ => fun _ => [1]
def ckTbl : List Ent := [⟨49, ckIns, ckOuts, 0⟩, ⟨70, ckIns, ckOuts, 0⟩, ⟨48, [], [.one .b], 1⟩]

theorem ck_all : ∀ e, e ∈ ckTbl → (cellsOf e.outs).length ≤ 64 ∧ FnOk Try.prog e.f e.ins e.outs (ckFs e.id) := by
  intro e he
  simp only [ckTbl, List.mem_cons, List.not_mem_nil, or_false] at he
  rcases he with rfl | rfl | rfl
  · exact ⟨by decide, choose_contract⟩
  · exact ⟨by decide, rchoose_contract⟩
  · exact ⟨by decide, works_contract⟩

def irqtellsIns : List Sh := [.agg [.i .u8, .i .u8], .agg [.i .i64, .i .i64, .i .i64, .i .i64, .i .i64, .i .i64, .i .i64, .i .i64], .agg [.i .i64, .i .i64, .i .u8]]
set_option maxRecDepth 100000 in
def irqtellsG : List SDef := [.conv .u8 (.symi .i64 2),
  .bin .rem (.symi .u8 13) (.int .u8 9),
  .conv .i64 (.symi .u8 14),
  .conv .u8 (.symi .i64 3),
  .bin .rem (.symi .u8 16) (.int .u8 9),
  .conv .i64 (.symi .u8 17),
  .conv .u8 (.symi .i64 4),
  .bin .rem (.symi .u8 19) (.int .u8 9),
  .conv .i64 (.symi .u8 20),
  .conv .u8 (.symi .i64 5),
  .bin .rem (.symi .u8 22) (.int .u8 9),
  .conv .i64 (.symi .u8 23),
  .conv .u8 (.symi .i64 6),
  .bin .rem (.symi .u8 25) (.int .u8 9),
  .conv .i64 (.symi .u8 26),
  .conv .u8 (.symi .i64 7),
  .bin .rem (.symi .u8 28) (.int .u8 9),
  .conv .i64 (.symi .u8 29),
  .conv .u8 (.symi .i64 8),
  .bin .rem (.symi .u8 31) (.int .u8 9),
  .conv .i64 (.symi .u8 32),
  .conv .u8 (.symi .i64 9),
  .bin .rem (.symi .u8 34) (.int .u8 9),
  .conv .i64 (.symi .u8 35),
  .conv .u8 (.symi .i64 10),
  .bin .rem (.symi .u8 37) (.int .u8 9),
  .conv .i64 (.symi .u8 38),
  .conv .u8 (.symi .i64 11),
  .bin .rem (.symi .u8 40) (.int .u8 2),
  .conv .i64 (.symi .u8 41),
  .conv .i32 (.symi .i64 10),
  .fn 0 .i64 [.symi .u8 0, .symi .u8 1, .symi .i64 2, .symi .i64 3, .symi .i64 4, .symi .i64 5, .symi .i64 6, .symi .i64 7, .symi .i64 8, .symi .i64 9, .symi .i64 10, .symi .i64 11, .symi .u8 12],
  .fnb 1 [.symi .u8 0, .symi .u8 1, .symi .i64 2, .symi .i64 3, .symi .i64 4, .symi .i64 5, .symi .i64 6, .symi .i64 7, .symi .i64 8, .symi .i64 9, .symi .i64 10, .symi .i64 11, .symi .u8 12],
  .conv .u8 (.symi .i32 43),
  .bin .or (.symi .u8 1) (.symi .u8 46),
  .fn 0 .i64 [.symi .u8 0, .symi .u8 1, .symi .i64 15, .symi .i64 18, .symi .i64 21, .symi .i64 24, .symi .i64 27, .symi .i64 30, .symi .i64 33, .symi .i64 36, .symi .i64 39, .symi .i64 42, .symi .u8 12],
  .fnb 1 [.symi .u8 0, .symi .u8 1, .symi .i64 15, .symi .i64 18, .symi .i64 21, .symi .i64 24, .symi .i64 27, .symi .i64 30, .symi .i64 33, .symi .i64 36, .symi .i64 39, .symi .i64 42, .symi .u8 12],
  .bin .andNot (.symi .u8 1) (.int .u8 1),
  .bin .andNot (.symi .u8 1) (.int .u8 2),
  .bin .andNot (.symi .u8 1) (.int .u8 4),
  .bin .andNot (.symi .u8 1) (.int .u8 8),
  .bin .andNot (.symi .u8 1) (.int .u8 16),
  .bin .andNot (.symi .u8 1) (.int .u8 32),
  .bin .andNot (.symi .u8 1) (.int .u8 64),
  .bin .andNot (.symi .u8 1) (.int .u8 128),
  .conv .i32 (.symi .u8 0),
  .conv .i32 (.symi .u8 1),
  .bin .andNot (.symi .u8 1) (.symi .u8 46)]

set_option maxRecDepth 100000 in
def irqtellsT : LT := .n (.n (.n (.n (.n (.n (.e) 332 58 (.conv .i32 (.symi .u8 0)) (.e)) 59261904 40 (.conv .u8 (.symi .i64 11)) (.n (.e) 67836843 45 (.fnb 1 [.symi .u8 0, .symi .u8 1, .symi .i64 2, .symi .i64 3, .symi .i64 4, .symi .i64 5, .symi .i64 6, .symi .i64 7, .symi .i64 8, .symi .i64 9, .symi .i64 10, .symi .i64 11, .symi .u8 12]) (.e))) 74784739 33 (.conv .i64 (.symi .u8 32)) (.n (.n (.e) 74983672 23 (.bin .rem (.symi .u8 22) (.int .u8 9)) (.e)) 101060725 50 (.bin .andNot (.symi .u8 1) (.int .u8 1)) (.e))) 101110760 51 (.bin .andNot (.symi .u8 1) (.int .u8 2)) (.n (.n (.n (.e) 101210830 52 (.bin .andNot (.symi .u8 1) (.int .u8 4)) (.e)) 101410970 53 (.bin .andNot (.symi .u8 1) (.int .u8 8)) (.e)) 101811250 54 (.bin .andNot (.symi .u8 1) (.int .u8 16)) (.n (.n (.e) 102611810 55 (.bin .andNot (.symi .u8 1) (.int .u8 32)) (.e)) 103000641 59 (.conv .i32 (.symi .u8 1)) (.e)))) 104212930 56 (.bin .andNot (.symi .u8 1) (.int .u8 64)) (.n (.n (.n (.n (.e) 107415170 57 (.bin .andNot (.symi .u8 1) (.int .u8 128)) (.e)) 134046311 46 (.conv .u8 (.symi .i32 43)) (.e)) 206000950 13 (.conv .u8 (.symi .i64 2)) (.n (.n (.e) 213245481 35 (.bin .rem (.symi .u8 34) (.int .u8 9)) (.e)) 221523785 24 (.conv .i64 (.symi .u8 23)) (.e))) 239722772 14 (.bin .rem (.symi .u8 13) (.int .u8 9)) (.n (.n (.n (.e) 309001259 16 (.conv .u8 (.symi .i64 3)) (.e)) 368262831 15 (.conv .i64 (.symi .u8 14)) (.e)) 377984581 26 (.bin .rem (.symi .u8 25) (.int .u8 9)) (.n (.n (.e) 383785666 36 (.conv .i64 (.symi .u8 35)) (.e)) 412001568 19 (.conv .u8 (.symi .i64 4)) (.e))))) 491132779 49 (.fnb 1 [.symi .u8 0, .symi .u8 1, .symi .i64 15, .symi .i64 18, .symi .i64 21, .symi .i64 24, .symi .i64 27, .symi .i64 30, .symi .i64 33, .symi .i64 36, .symi .i64 39, .symi .i64 42, .symi .u8 12]) (.n (.n (.n (.n (.n (.e) 515001877 22 (.conv .u8 (.symi .i64 5)) (.e)) 516246390 38 (.bin .rem (.symi .u8 37) (.int .u8 9)) (.e)) 530524712 27 (.conv .i64 (.symi .u8 26)) (.n (.n (.e) 542723681 17 (.bin .rem (.symi .u8 16) (.int .u8 9)) (.e)) 618002186 25 (.conv .u8 (.symi .i64 6)) (.e))) 677263758 18 (.conv .i64 (.symi .u8 17)) (.n (.n (.n (.e) 680985490 29 (.bin .rem (.symi .u8 28) (.int .u8 9)) (.e)) 692786593 39 (.conv .i64 (.symi .u8 38)) (.e)) 721002495 28 (.conv .u8 (.symi .i64 7)) (.n (.n (.e) 785918732 44 (.fn 0 .i64 [.symi .u8 0, .symi .u8 1, .symi .i64 2, .symi .i64 3, .symi .i64 4, .symi .i64 5, .symi .i64 6, .symi .i64 7, .symi .i64 8, .symi .i64 9, .symi .i64 10, .symi .i64 11, .symi .u8 12]) (.e)) 818897054 41 (.bin .rem (.symi .u8 40) (.int .u8 2)) (.e)))) 824002804 31 (.conv .u8 (.symi .i64 8)) (.n (.n (.n (.n (.e) 839525639 30 (.conv .i64 (.symi .u8 29)) (.e)) 845724590 20 (.bin .rem (.symi .u8 19) (.int .u8 9)) (.e)) 862909686 47 (.bin .or (.symi .u8 1) (.symi .u8 46)) (.n (.n (.e) 862909714 60 (.bin .andNot (.symi .u8 1) (.symi .u8 46)) (.e)) 924200086 48 (.fn 0 .i64 [.symi .u8 0, .symi .u8 1, .symi .i64 15, .symi .i64 18, .symi .i64 21, .symi .i64 24, .symi .i64 27, .symi .i64 30, .symi .i64 33, .symi .i64 36, .symi .i64 39, .symi .i64 42, .symi .u8 12]) (.e))) 927003113 34 (.conv .u8 (.symi .i64 9)) (.n (.n (.n (.e) 983986399 32 (.bin .rem (.symi .u8 31) (.int .u8 9)) (.e)) 986264685 21 (.conv .i64 (.symi .u8 20)) (.e)) 1001787520 42 (.conv .i64 (.symi .u8 41)) (.n (.e) 1030003422 43 (.conv .i32 (.symi .i64 10)) (.n (.e) 1030003422 37 (.conv .u8 (.symi .i64 10)) (.e))))))


def irqtellsW : Wr' := .run (.leaf (.bool true))
def irqtellsX : Ing := { m := 13, ins := (cellsOf irqtellsIns).map kindC, G := irqtellsG, T := irqtellsT, hook := tblHook (tabOf ckFs) ckTbl, tab := tabOf ckFs }
theorem irqtells_ok : okG irqtellsG 13 = true := by kernel_rfl
theorem irqtells_lt : okLT 13 irqtellsG irqtellsT = true := by kernel_rfl
theorem irqtells_run : okW (fun F => (evD Try.prog (cxOf irqtellsX) true 1000 40).1 F 14 (symSh irqtellsIns 0) ⟨[], []⟩) irqtellsW [] = true := by kernel_rfl

theorem holds : FnOk Try.prog 14 irqtellsIns [.one .b] (fun _ => [1]) :=
  fn_of_run (X := irqtellsX) (W := irqtellsW) ck.mixed ⟨rfl, rfl, rfl, rfl, rfl⟩ irqtells_ok irqtells_lt (fun F => tbl_hooks irqtells_lt rfl rfl ck_all F) irqtells_run (fun l σ hl e _ hi _ => by
    intro _
    exact ⟨rfl, trivial⟩)
section
variable {H : Type} {enc : TypeId × Value → H} {P : Program}
theorem post_of_below {f : Func} {s : ChangeSpec} {apart fresh handsOn again : Bool} {W W' : World} {args : Array Value} {v : Value} {ds gs : List (DataW H)} {before pa pv : List MemPlace}
    (hW : DataW.Whole enc P f.params.toList s.vars apart W args.toList ds gs before)
    (hres : ∀ (b : Nat) (sp : Nat → Bool) (hd : Bool), DataW.TrodAll enc P W' b sp hd f.resultTypes.toList (v.resultList f.resultTypes.size) (s.fn H (ds ++ gs)).results [])
    (hargs : ∀ sp : Nat → Bool, (∀ p ∈ before, sp p.block = true) → DataW.TrodAll enc P W' 0 sp true f.params.toList args.toList (s.fn H (ds ++ gs)).args pa)
    (hvars : ∀ sp : Nat → Bool, (∀ p ∈ before, sp p.block = true) → DataW.TrodVars enc P W' sp s.vars (s.fn H (ds ++ gs)).vars pv)
    (hps : before = pa ++ pv) (hb : Below W.heap.size W W')
    (hok : ∀ (j : Nat) (t : TypeId) (r : Value), f.resultTypes[j]? = some t → (v.resultList f.resultTypes.size)[j]? = some r → Value.okWide P W' .any 0 t r) :
    s.post enc P f apart fresh handsOn again W args v W' := by
  have hlt : ∀ p ∈ before, p.block < W.heap.size := fun p hp => hW.lt p hp
  have hold : ∀ p ∈ before, (fun b => decide (b < W.heap.size)) p.block = true := fun p hp => by simpa using hlt p hp
  refine ⟨ds, gs, before, [], pa, pv, hW, hres _ _ _, hargs _ hold, hvars _ hold, World.keptBut_mono (fun p hp => ⟨hp, ?_⟩) (hb.frame (· ∈ before)), fun _ => ?_⟩
  · rw [hps, List.mem_append] at hp
    exact Or.inr hp
  · obtain ⟨_, _, _, _, _, hz, hn⟩ := hW
    refine ⟨hok, _, _, ([] ++ pa) ++ pv, ⟨[] ++ pa, pv, trodAll_append (hargs _ (fun _ _ => rfl)) (hres _ _ _), hvars _ (fun _ _ => rfl), rfl, ?_, ?_⟩, ?_⟩
    · intro b off hp
      have hin : MemPlace.cell b off ∈ before := by rw [hps]; simpa using hp
      rw [hb.frozen (hlt _ hin)]
      exact hz b off hin
    · intro ha
      have := hn ha
      rw [hps] at this
      simpa using this
    · intro p hp _
      rw [hps]
      simpa using hp
end


theorem flat92 : flat Try.prog 3 92 = some [.i .u8, .i .u8] := by kernel_rfl
theorem agg92 : Ev.isAgg Try.prog 92 = true := by kernel_rfl
theorem flat93 : flat Try.prog 3 93 = some [.i .i64, .i .i64, .i .i64, .i .i64, .i .i64, .i .i64, .i .i64, .i .i64] := by kernel_rfl
theorem agg93 : Ev.isAgg Try.prog 93 = true := by kernel_rfl
theorem flat99 : flat Try.prog 3 99 = some [.i .i64, .i .i64, .i .u8] := by kernel_rfl
theorem agg99 : Ev.isAgg Try.prog 99 = true := by kernel_rfl

set_option maxRecDepth 100000 in
theorem lifted (os : Os) (started : os.Started) (H : Type) (enc : TypeId × Value → H) :
    ReturnsInHanded {} Try.checked os 14 .any (Rows.irqTellsSpec.pre6 enc Try.prog Try.f14 Rows.irqTellsRow.domain false) (Rows.irqTellsSpec.post enc Try.prog Try.f14 false true false false) := by
  refine returnsInHanded_of_change (C := Try.checked) own started (by kernel_rfl) Try.func14
    (ChangeSpec.witness6 (enc := enc) (C := Try.checked) false ⟨#[], #[.agg #[.int .u8 0, .int .u8 0], .agg #[.int .i64 0, .int .i64 0, .int .i64 0, .int .i64 0, .int .i64 0, .int .i64 0, .int .i64 0, .int .i64 0], .agg #[.int .i64 0, .int .i64 0, .int .u8 0]], []⟩ 8 (by kernel_rfl) (by kernel_rfl) (by kernel_rfl) (by kernel_rfl)) ?_
  intro W base args ds gs before hval0 hW hcnd _
  have hval : ∀ (j : Nat) t v, Try.f14.params[j]? = some t → args[j]? = some v → Value.okWide Try.prog W .any base t v := hval0
  have hW' := hW
  obtain ⟨p, q, hA0, hV, rfl, hfz, hnd⟩ := hW
  have hA : DataW.TrodAll enc Try.prog W 0 (fun _ => true) true Try.f14.params.toList args.toList ds p := hA0
  rw [Try.params14] at hA hval
  obtain ⟨v0, vs0, d0, ds0, p0, q0, hargs, rfl, rfl, h0, r0⟩ := trodAll_cons hA
  obtain ⟨v1, vs1, d1, ds1, p1, q1, rfl, rfl, rfl, h1, r1⟩ := trodAll_cons r0
  obtain ⟨v2, vs2, d2, ds2, p2, q2, rfl, rfl, rfl, h2, r2⟩ := trodAll_cons r1
  obtain ⟨rfl, rfl, rfl⟩ := trodAll_nil r2
  obtain rfl : args = #[v0, v1, v2] := by cases args; simp_all
  obtain ⟨rfl, rfl⟩ := trodVars_none hV
  obtain ⟨l0, i0, rfl, rfl⟩ := open_agg flat92 agg92 (hval 0 92 v0 rfl rfl) h0
  obtain ⟨l1, i1, rfl, rfl⟩ := open_agg flat93 agg93 (hval 1 93 v1 rfl rfl) h1
  obtain ⟨l2, i2, rfl, rfl⟩ := open_agg flat99 agg99 (hval 2 99 v2 rfl rfl) h2
  clear hA0 hval0
  simp only [List.append_nil] at hW'
  have hc := holds (l0 ++ (l1 ++ (l2 ++ []))) (inR_append i0 (inR_append i1 (inR_append i2 rfl))) W
  rw [show encS irqtellsIns (l0 ++ (l1 ++ (l2 ++ []))) = [.agg (encCs [.i .u8, .i .u8] l0).toArray, .agg (encCs [.i .i64, .i .i64, .i .i64, .i .i64, .i .i64, .i .i64, .i .i64, .i .i64] l1).toArray, .agg (encCs [.i .i64, .i .i64, .i .u8] l2).toArray] from by
    simp only [irqtellsIns]
    rw [encS_agg i0, encS_agg i1, encS_agg i2]
    rfl] at hc
  refine hc.mono fun e W' ⟨he, hg⟩ => ?_
  subst he
  exact ⟨_, rfl, post_of_below (pa := []) (pv := []) hW' (fun _ _ _ => (trodAll_cons_mk (shut_bool Try.underlying4 _) trodAll_mk0)) (fun sp _ => (trodAll_cons_mk (shut_flat flat92 h0) (trodAll_cons_mk (shut_flat flat93 h1) (trodAll_cons_mk (shut_flat flat99 h2) trodAll_mk0)))) (fun _ _ => rfl) rfl
    hg (ok_one (by kernel_rfl) rfl (okWide_bool_mk Try.underlying4 _))⟩

theorem over : Rows.irqTellsRow.holds Try.pinned (OpenSpec.ofChange Rows.irqTellsSpec) :=
  OpenClaim.holds_of_wide 14 Try.f14 rfl rfl rfl rfl rfl rfl rfl ⟨rfl, rfl, rfl, rfl, rfl⟩ rfl rfl rfl rfl rfl (by kernel_rfl) Try.func14 (by kernel_rfl)
    (of_decide_eq_true (by kernel_rfl)) (by unfold Func.isWrapper; first | (rw [if_pos (by decide +kernel)]; kernel_rfl) | (rw [if_neg (by decide +kernel)]; exact ⟨rfl, rfl⟩))
    (fun os started H enc _ => lifted os started H enc)

/-- THE STATEMENT -/
theorem proved : Rows.IrqTellsSaid :=
  over
#print axioms proved
end Go.Proofs.Ytgifnmiggloclaa.irqTells
