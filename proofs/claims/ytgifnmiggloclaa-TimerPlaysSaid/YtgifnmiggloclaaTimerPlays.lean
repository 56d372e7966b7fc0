/-
  TimerPlays is true: a walk over the row of acts; the timer and the document's are one at the loop's head (shared unknowns).
  No conditions.
-/
import Derived.Test.YtgifnmiggloclaaRows
import Derived.WalkKit
import Derived.ProofKit
import Derived.OpenShut
import Derived.Below
import Derived.ChangeSame
import Derived.Test.YtgifnmiggloclaaTr
import Derived.Test.YtgifnmiggloclaaBda
namespace Go.Proofs.Ytgifnmiggloclaa.timerPlays
open Go.ChangeShapes Go.WideShapes Go.ChangeAt Go.RowKit
open Go.Ev Go.Proofs.Ytgifnmiggloclaa.tp Go.Proofs.Ytgifnmiggloclaa.tr
open Go.Proofs.Ytgifnmiggloclaa.tq (tkI tkO tkF tickF nextF ticks_contract tick_contract next_contract rtick_contract)
open Go.Proofs.Ytgifnmiggloclaa.bd (tpeekI tpeekO tpeekF twriteI twriteO twriteF tpeek_contract0 tpeek_contract1 twrite_contract0 twrite_contract1 t3)
set_option linter.unusedVariables false
set_option linter.unusedSimpArgs false

theorem own : ownKnob Try.prog.godebug = none := by kernel_rfl
theorem mixed : Try.prog.follows .mixedOrders = true := tq.mixed

theorem works_run : isTrue ((evD Try.prog (cxOf noIng) true 1000 40).1 [] 47 [] ⟨[], []⟩) = true := by kernel_rfl
theorem works_contract : FnOk Try.prog 47 [] [.one .b] (fun _ => [1]) := fun l hl w => closed_hook ⟨rfl, rfl, rfl, rfl, rfl, rfl⟩ (hm := mixed) (hh := fun F => no_hooks rfl F) (h := works_run) (w := w)

def tickI : List Sh := [t3]
def tickO : List Sh := [t3, .one .b]
def tyFs : Nat → List Int → List Int
  | 0 => tkF
  | 1 => tickF
  | 2 => nextF
  | 3 => twriteF
  | _ => tpeekF
def tyTbl : List Ent := [⟨43, tkI, tkO, 0⟩, ⟨44, tkI, tkO, 0⟩, ⟨41, tickI, tickO, 1⟩, ⟨42, tickI, tickO, 1⟩, ⟨37, tickI, [.one (.i .i64)], 2⟩, ⟨38, tickI, [.one (.i .i64)], 2⟩,
  ⟨39, twriteI, twriteO, 3⟩, ⟨40, twriteI, twriteO, 3⟩, ⟨45, tpeekI, tpeekO, 4⟩, ⟨46, tpeekI, tpeekO, 4⟩]
def tyTru : List Ent := [⟨47, [], [.one .b], 0⟩]
def tySs : List Sh := [.one (.i .u16), .one (.i .u16)]
def tyS0 : Shape := ⟨argT 0 (symSh tySs 0 ++ [.row 0]), []⟩
def tyS1 : Shape := ⟨[(2, .row 0), (7, .ptr 0 0), (8, .ptr 1 0), (9, .symi .i64 0)], [.cells [.symi .u16 2, .symi .u16 3, .symi .u16 4] 68, .cells [.symi .u16 2, .symi .u16 3, .symi .u16 4] 69]⟩
def tyS2 : Shape := ⟨[], []⟩
def tySE : Shape := ⟨[(6, .symb 0)], []⟩
def tyK : List (Option IntKind) := [some .i64, some .i64, some .u16, some .u16, some .u16]
theorem ty_tru : ∀ e, e ∈ tyTru → FnOk Try.prog e.f e.ins [.one .b] (fun _ => [1]) := by
  intro e he
  simp only [tyTru, List.mem_singleton] at he
  subst he
  exact works_contract
theorem ty_all : ∀ e, e ∈ tyTbl → (cellsOf e.outs).length ≤ 64 ∧ FnOk Try.prog e.f e.ins e.outs (tyFs e.id) := by
  intro e he
  simp only [tyTbl, List.mem_cons, List.not_mem_nil, or_false] at he
  rcases he with rfl | rfl | rfl | rfl | rfl | rfl | rfl | rfl | rfl | rfl
  · exact ⟨by decide, ticks_contract⟩
  · exact ⟨by decide, rticks_contract⟩
  · exact ⟨by decide, tick_contract⟩
  · exact ⟨by decide, rtick_contract⟩
  · exact ⟨by decide, next_contract⟩
  · exact ⟨by decide, rnext_contract⟩
  · exact ⟨by decide, twrite_contract0⟩
  · exact ⟨by decide, twrite_contract1⟩
  · exact ⟨by decide, tpeek_contract0⟩
  · exact ⟨by decide, tpeek_contract1⟩

set_option maxRecDepth 100000 in
def tyAG : List SDef := [.bin .xor (.symi .u16 0) (.symi .u16 1),
  .fn 128 .i64 [.symi .u16 0, .symi .u16 1, .symi .u16 3]]

def tyAT : LT := .n (.n (.e) 343383958 3 (.bin .xor (.symi .u16 0) (.symi .u16 1)) (.e)) 561095038 4 (.fn 128 .i64 [.symi .u16 0, .symi .u16 1, .symi .u16 3]) (.e)

set_option maxRecDepth 100000 in
def tyAW : Sw := .run (.leaf .normal tyS1 [(0, 0), (1, 0)] [(0, .int .i64 0), (2, .symi .u16 0), (3, .symi .u16 1), (4, .symi .u16 3), (2, .symi .u16 0), (3, .symi .u16 1), (4, .symi .u16 3)] [(1, .symi .i64 2)])
def tyAKd : KdT := .n (.n (.n .e (some .u16) .e) (some .u16) .e) (some .u16) (.n (.n .e (some .i64) .e) (some .i64) .e)
def tyL0 : List AVal := [.symi .u16 2, .symi .u16 3, .symi .u16 4, .symi .i64 13, .symi .i32 7]
set_option maxRecDepth 100000 in
def tyBG : List SDef := [.bin .lss (.symi .i64 0) (.symi .i64 1),
  .bin .lss (.symi .i64 0) (.int .i64 60),
  .bin .leq (.int .i64 0) (.symi .i64 0),
  .bin .rem (.symi .u8 5) (.int .u8 6),
  .bin .eql (.symi .u8 11) (.int .u8 0),
  .conv .i64 (.symi .i8 6),
  .fn 192 .u16 tyL0,
  .fn 193 .u16 tyL0,
  .fn 194 .u16 tyL0,
  .bin .lss (.symi .u8 11) (.int .u8 5),
  .fn 64 .u16 [.symi .u16 2, .symi .u16 3, .symi .u16 4],
  .fn 65 .u16 [.symi .u16 2, .symi .u16 3, .symi .u16 4],
  .fn 66 .u16 [.symi .u16 2, .symi .u16 3, .symi .u16 4],
  .fnb 67 [.symi .u16 2, .symi .u16 3, .symi .u16 4],
  .bin .rem (.symi .i32 7) (.int .i32 3000),
  .conv .i64 (.symi .i32 22),
  .fn 0 .u16 [.symi .u16 2, .symi .u16 3, .symi .u16 4, .symi .i64 23],
  .fn 1 .u16 [.symi .u16 2, .symi .u16 3, .symi .u16 4, .symi .i64 23],
  .fn 2 .u16 [.symi .u16 2, .symi .u16 3, .symi .u16 4, .symi .i64 23],
  .fn 3 .i64 [.symi .u16 2, .symi .u16 3, .symi .u16 4, .symi .i64 23],
  .ite (.symb 17) (.symi .u16 18) (.symi .u16 24),
  .ite (.symb 17) (.symi .u16 19) (.symi .u16 25),
  .ite (.symb 17) (.symi .u16 20) (.symi .u16 26),
  .ite (.symb 12) (.symi .u16 14) (.symi .u16 28),
  .ite (.symb 12) (.symi .u16 15) (.symi .u16 29),
  .ite (.symb 12) (.symi .u16 16) (.symi .u16 30),
  .fn 256 .i32 [.symi .u16 31, .symi .u16 32, .symi .u16 33, .int .i64 (-1)],
  .fn 256 .i32 [.symi .u16 31, .symi .u16 32, .symi .u16 33, .int .i64 0],
  .fn 256 .i32 [.symi .u16 31, .symi .u16 32, .symi .u16 33, .int .i64 1],
  .fn 256 .i32 [.symi .u16 31, .symi .u16 32, .symi .u16 33, .int .i64 2],
  .fn 256 .i32 [.symi .u16 31, .symi .u16 32, .symi .u16 33, .int .i64 3],
  .bin .add (.symi .i64 0) (.int .i64 1)]

def tyBT : LT := .n (.n (.n (.n (.n (.n (.e) 30227 10 (.bin .leq (.int .i64 0) (.symi .i64 0)) (.e)) 60352 39 (.bin .add (.symi .i64 0) (.int .i64 1)) (.e)) 3012508 9 (.bin .lss (.symi .i64 0) (.int .i64 60)) (.n (.e) 29293386 35 (.fn 256 .i32 [.symi .u16 31, .symi .u16 32, .symi .u16 33, .int .i64 0]) (.e))) 33196007 34 (.fn 256 .i32 [.symi .u16 31, .symi .u16 32, .symi .u16 33, .int .i64 (-1)]) (.n (.n (.e) 37271900 12 (.bin .eql (.symi .u8 11) (.int .u8 0)) (.e)) 37522089 17 (.bin .lss (.symi .u8 11) (.int .u8 5)) (.n (.e) 48806491 36 (.fn 256 .i32 [.symi .u16 31, .symi .u16 32, .symi .u16 33, .int .i64 1]) (.e)))) 68319596 37 (.fn 256 .i32 [.symi .u16 31, .symi .u16 32, .symi .u16 33, .int .i64 2]) (.n (.n (.n (.e) 79164215 28 (.ite (.symb 17) (.symi .u16 18) (.symi .u16 24)) (.e)) 87832701 38 (.fn 256 .i32 [.symi .u16 31, .symi .u16 32, .symi .u16 33, .int .i64 3]) (.n (.e) 118523476 23 (.conv .i64 (.symi .i32 22)) (.e))) 343384000 8 (.bin .lss (.symi .i64 0) (.symi .i64 1)) (.n (.n (.e) 379165115 29 (.ite (.symb 17) (.symi .u16 19) (.symi .u16 25)) (.e)) 465883131 31 (.ite (.symb 12) (.symi .u16 14) (.symi .u16 28)) (.n (.e) 505312070 11 (.bin .rem (.symi .u8 5) (.int .u8 6)) (.e))))) 618002186 13 (.conv .i64 (.symi .i8 6)) (.n (.n (.n (.n (.e) 618766736 18 (.fn 64 .u16 [.symi .u16 2, .symi .u16 3, .symi .u16 4]) (.e)) 618766779 19 (.fn 65 .u16 [.symi .u16 2, .symi .u16 3, .symi .u16 4]) (.n (.e) 618766822 20 (.fn 66 .u16 [.symi .u16 2, .symi .u16 3, .symi .u16 4]) (.e))) 630714875 21 (.fnb 67 [.symi .u16 2, .symi .u16 3, .symi .u16 4]) (.n (.n (.e) 679166015 30 (.ite (.symb 17) (.symi .u16 20) (.symi .u16 26)) (.e)) 750082278 14 (.fn 192 .u16 tyL0) (.n (.e) 750082321 15 (.fn 193 .u16 tyL0) (.e)))) 750082364 16 (.fn 194 .u16 tyL0) (.n (.n (.n (.e) 765884031 32 (.ite (.symb 12) (.symi .u16 15) (.symi .u16 29)) (.e)) 778061434 24 (.fn 0 .u16 [.symi .u16 2, .symi .u16 3, .symi .u16 4, .symi .i64 23]) (.n (.e) 778061477 25 (.fn 1 .u16 [.symi .u16 2, .symi .u16 3, .symi .u16 4, .symi .i64 23]) (.e))) 778061520 26 (.fn 2 .u16 [.symi .u16 2, .symi .u16 3, .symi .u16 4, .symi .i64 23]) (.n (.n (.e) 778061563 27 (.fn 3 .i64 [.symi .u16 2, .symi .u16 3, .symi .u16 4, .symi .i64 23]) (.e)) 857117466 22 (.bin .rem (.symi .i32 7) (.int .i32 3000)) (.n (.e) 1065884931 33 (.ite (.symb 12) (.symi .u16 16) (.symi .u16 30)) (.e)))))

set_option maxRecDepth 100000 in
def tyBW : Sw := .run (.node 8 (.node 9 (.node 10 (.leaf .normal tyS1 [(0, 0), (1, 0)] [(0, .symi .i64 39), (2, .symi .u16 31), (3, .symi .u16 32), (4, .symi .u16 33), (2, .symi .u16 31), (3, .symi .u16 32), (4, .symi .u16 33)] [(1, .symi .i64 1)]) (.dead)) (.leaf (.exit 0) tyS2 [] [] [])) (.leaf (.exit 0) tyS2 [] [] []))
def tyBKd : KdT := .n (.n (.n (.n (.n (.n .e (some .u16) .e) (some .u16) .e) (some .i32) (.n (.n .e (some .i64) .e) (some .i64) .e)) (some .u16) (.n (.n (.n .e (some .i32) .e) (some .u16) .e) (some .u8) (.n .e (some .i64) .e))) (some .i64) (.n (.n (.n (.n .e (some .u16) .e) none .e) none (.n .e (some .u16) .e)) (some .u8) (.n (.n (.n .e (some .i32) .e) none .e) (some .i64) (.n .e (some .u16) .e)))) (some .i64) (.n (.n (.n (.n (.n .e (some .u16) .e) (some .u16) .e) none (.n .e (some .u16) .e)) (some .u16) (.n (.n (.n .e (some .i32) .e) (some .u16) .e) none (.n .e (some .u16) .e))) (some .u16) (.n (.n (.n (.n .e (some .i32) .e) (some .u16) .e) none (.n .e (some .u16) .e)) (some .i8) (.n (.n (.n .e (some .i32) .e) (some .i32) .e) (some .u16) (.n .e (some .u16) .e))))
set_option maxRecDepth 100000 in
def tyCG : List SDef := []

def tyCT : LT := .e

set_option maxRecDepth 100000 in
def tyCW : Sw := .run (.leaf .ret tySE [] [(0, .bool true)] [])
def tyCKd : KdT := .e
def tyAX : Ing := { kb := 5, kt := tyAKd, m := 3, ins := [some .u16, some .u16, some .i64], G := tyAG, T := tyAT, hook := orHook (trueHook tyTru) (tblHook (tabOf tyFs) tyTbl), tab := tabOf tyFs, rows := [⟨.symi .i64 2, []⟩] }
theorem tyA_ok : okG tyAG 3 = true := by kernel_rfl
theorem tyA_lt : okLT 3 tyAG tyAT = true := by kernel_rfl
theorem tyA_seg : SegOk Try.prog (tabOf tyFs) 143 (preOf (bodyOf Try.f9)) tyS0 tyAX tyAW where
  lt := tyA_lt
  ok := tyA_ok
  hook := fun F => or_hooks tyA_lt rfl rfl ty_tru ty_all F
  n0 := rfl
  id := by kernel_rfl
  reck := by kernel_rfl
  tab := rfl
  cuts := rfl
  kt := by kernel_rfl
def tyBX : Ing := { kb := 40, kt := tyBKd, m := 8, ins := tyK ++ ([.i .u8, .i .i8, .i .i32] : List Cl).map kindC, G := tyBG, T := tyBT, hook := orHook (trueHook tyTru) (tblHook (tabOf tyFs) tyTbl), tab := tabOf tyFs, rows := [⟨.symi .i64 1, [(.symi .i64 0, elCells 5 [.i .u8, .i .i8, .i .i32])]⟩] }
theorem tyB_ok : okG tyBG 8 = true := by kernel_rfl
theorem tyB_lt : okLT 8 tyBG tyBT = true := by kernel_rfl
theorem tyB_seg : SegOk Try.prog (tabOf tyFs) 143 ([loopOf (bodyOf Try.f9)]) tyS1 tyBX tyBW where
  lt := tyB_lt
  ok := tyB_ok
  hook := fun F => or_hooks tyB_lt rfl rfl ty_tru ty_all F
  n0 := rfl
  id := by kernel_rfl
  reck := by kernel_rfl
  tab := rfl
  cuts := rfl
  kt := by kernel_rfl
def tyCX : Ing := { kb := 0, kt := tyCKd, m := 0, ins := [], G := tyCG, T := tyCT, hook := orHook (trueHook tyTru) (tblHook (tabOf tyFs) tyTbl), tab := tabOf tyFs, rows := [] }
theorem tyC_ok : okG tyCG 0 = true := by kernel_rfl
theorem tyC_lt : okLT 0 tyCG tyCT = true := by kernel_rfl
theorem tyC_seg : SegOk Try.prog (tabOf tyFs) 143 (postOf (bodyOf Try.f9)) tyS2 tyCX tyCW where
  lt := tyC_lt
  ok := tyC_ok
  hook := fun F => or_hooks tyC_lt rfl rfl ty_tru ty_all F
  n0 := rfl
  id := by kernel_rfl
  reck := by kernel_rfl
  tab := rfl
  cuts := rfl
  kt := by kernel_rfl

theorem hidOf : idOf (bodyOf Try.f9) = 0 := by kernel_rfl
set_option maxRecDepth 100000 in
theorem tyB_ob (τ : Sig) (e : Eqs τ 8 tyBX.G) (ht : τ.tab = tabOf tyFs) (hin : InsOk τ 8 (tyK ++ ([.i .u8, .i .i8, .i .i32] : List Cl).map kindC)) (h0 : 0 ≤ τ.ival 0) (h01 : τ.ival 0 ≤ τ.ival 1) (hlen : τ.ival 1 ≤ 9223372036854775807) :
    segsW τ (fun x s σ2 => (x = .normal ∧ s = tyS1 ∧ τ.ival 0 < τ.ival 1 ∧ σ2.ival 0 = τ.ival 0 + 1 ∧ σ2.ival 1 = τ.ival 1 ∧ InsOk σ2 5 tyK ∧ True ∧ σ2.tab = tabOf tyFs ∧ σ2.ext = τ.ext) ∨ (x = .exit (idOf (bodyOf Try.f9)) ∧ s = tyS2 ∧ InsOk σ2 0 [] ∧ True ∧ σ2.tab = tabOf tyFs)) tyBW [] := by
  have e8 : τ.bval 8 = decide (τ.ival 0 < τ.ival 1) := eqB (e.at 0 _ rfl rfl) rfl
  have e10 : τ.bval 10 = decide (0 ≤ τ.ival 0) := eqB (e.at 2 _ rfl rfl) rfl
  have e39 : τ.ival 39 = IntKind.i64.wrap (τ.ival 0 + 1) := eqI (e.at 31 _ rfl rfl) rfl
  refine ⟨⟨⟨fun hF => ?_, fun hF => ?_⟩, fun hF => ?_⟩, fun hF => ?_⟩
  · have h8 : τ.bval 8 = true := hF.2.2.1
    rw [e8, decide_eq_true_eq] at h8
    refine .inl ⟨rfl, rfl, h8, ?_, rfl, insOk_asg e hin 12 (by kernel_rfl), trivial, ht, rfl⟩
    show τ.ival 39 = τ.ival 0 + 1
    rw [e39]
    simp [IntKind.wrap, IntKind.bits, IntKind.signed]; omega
  · have h : τ.bval 10 = false := hF.1
    rw [e10, decide_eq_false_iff_not] at h
    exact h h0
  · exact .inr ⟨congrArg SEx.exit hidOf.symm, rfl, fun i k hi _ => absurd hi (by omega), trivial, ht⟩
  · exact .inr ⟨congrArg SEx.exit hidOf.symm, rfl, fun i k hi _ => absurd hi (by omega), trivial, ht⟩

theorem walk (W : World) (n0 : Int) (i0 : InR [.i .u16] [n0]) (n1 : Int) (i1 : InR [.i .u16] [n1]) (v2 : Value) (X2 : Fz) (r2 : RowV W [.i .u8, .i .i8, .i .i32] v2 X2) :
    Calls Try.prog 9 #[encC (.i .u16) n0, encC (.i .u16) n1, v2] W fun e W' => e = .returned (.bool true) ∧ Below W.heap.size W W' :=
  rows_walkG (q := 5) (k := 2) (n := 143) (ss := tySs) (insq := tyK) (ins2 := []) (S0 := tyS0) (S1 := tyS1) (S2 := tyS2) (SE := tySE) (J := fun _ _ => True) (K := fun _ _ => True) (vs := [.symb 0]) (l := [n0, n1])
    mixed Try.func9 (by kernel_rfl) (by kernel_rfl) (by kernel_rfl) rfl (by decide) rfl rfl (fun l => by simp [tySs, encS]) (by kernel_rfl) (by kernel_rfl)
    tyA_seg ⟨rfl, rfl, rfl⟩ tyB_seg ⟨rfl, rfl, rfl⟩ tyC_seg ⟨rfl, rfl⟩ (fun _ _ _ _ h => h) (fun _ _ _ _ h => h)
    (fun l τ hl e ht hin hi _ => ⟨rfl, rfl, rfl, rfl, insOk_asg e hin 12 (by kernel_rfl), trivial, ht, rfl⟩)
    (fun l τ hl e ht hin h0 h01 hlen _ => tyB_ob τ e ht hin h0 h01 hlen)
    (fun l τ hl e ht hin _ _ => ⟨.inl rfl, rfl, rfl, trivial⟩)
    r2 ⟨i0.1, i1.1, rfl⟩

section
variable {H : Type} {enc : TypeId × Value → H} {P : Program}
theorem post_of_below {f : Func} {s : ChangeSpec} {apart fresh handsOn again : Bool} {W W' : World} {args : Array Value} {v : Value} {ds gs : List (DataW H)} {before pa pv : List MemPlace}
    (hW : DataW.Whole enc P f.params.toList s.vars apart W args.toList ds gs before)
    (hres : ∀ (b : Nat) (sp : Nat → Bool) (hd : Bool), DataW.TrodAll enc P W' b sp hd f.resultTypes.toList (v.resultList f.resultTypes.size) (s.fn H (ds ++ gs)).results [])
    (hargs : ∀ sp : Nat → Bool, (∀ p ∈ before, sp p.block = true) → DataW.TrodAll enc P W' 0 sp true f.params.toList args.toList (s.fn H (ds ++ gs)).args pa)
    (hvars : ∀ sp : Nat → Bool, (∀ p ∈ before, sp p.block = true) → DataW.TrodVars enc P W' sp s.vars (s.fn H (ds ++ gs)).vars pv)
    (hps : before = pa ++ pv) (hb : Below W.heap.size W W')
    (hok : ∀ (j : Nat) (t : TypeId) (r : Value), f.resultTypes[j]? = some t → (v.resultList f.resultTypes.size)[j]? = some r → Value.okWide P W' .any 0 t r) :
    s.post enc P f apart fresh handsOn again W args v W' := by
  have hlt : ∀ p ∈ before, p.block < W.heap.size := fun p hp => hW.lt p hp
  have hold : ∀ p ∈ before, (fun b => decide (b < W.heap.size)) p.block = true := fun p hp => by simpa using hlt p hp
  refine ⟨ds, gs, before, [], pa, pv, hW, hres _ _ _, hargs _ hold, hvars _ hold, World.keptBut_mono (fun p hp => ⟨hp, ?_⟩) (hb.frame (· ∈ before)), fun _ => ?_⟩
  · rw [hps, List.mem_append] at hp
    exact Or.inr hp
  · obtain ⟨_, _, _, _, _, hz, hn⟩ := hW
    refine ⟨hok, _, _, ([] ++ pa) ++ pv, ⟨[] ++ pa, pv, trodAll_append (hargs _ (fun _ _ => rfl)) (hres _ _ _), hvars _ (fun _ _ => rfl), rfl, ?_, ?_⟩, ?_⟩
    · intro b off hp
      have hin : MemPlace.cell b off ∈ before := by rw [hps]; simpa using hp
      rw [hb.frozen (hlt _ hin)]
      exact hz b off hin
    · intro ha
      have := hn ha
      rw [hps] at this
      simpa using this
    · intro p hp _
      rw [hps]
      simpa using hp
end


theorem agg65 : Ev.isAgg Try.prog 65 = false := by kernel_rfl
theorem flat65 : flat Try.prog 4 65 = some [.i .u16] := by kernel_rfl
theorem size73 : Nat.beq (Try.prog.cellsOf 73) ([.i .u8, .i .i8, .i .i32] : List Cl).length = true := by kernel_rfl
theorem flat73 : flat Try.prog 4 73 = some [.i .u8, .i .i8, .i .i32] := by kernel_rfl

set_option maxRecDepth 100000 in
theorem lifted (os : Os) (started : os.Started) (H : Type) (enc : TypeId × Value → H) :
    ReturnsInHanded {} Try.checked os 9 .any (Rows.timerPlaysSpec.pre6 enc Try.prog Try.f9 Rows.timerPlaysRow.domain false) (Rows.timerPlaysSpec.post enc Try.prog Try.f9 false true false false) := by
  refine returnsInHanded_of_change (C := Try.checked) own started (by kernel_rfl) Try.func9
    (ChangeSpec.witness6 (enc := enc) (C := Try.checked) false ⟨#[], #[.int .u16 0, .int .u16 0, .slice none 0 0], []⟩ 8 (by kernel_rfl) (by kernel_rfl) (by kernel_rfl) (by kernel_rfl)) ?_
  intro W base args ds gs before hval0 hW hcnd _
  have hval : ∀ (j : Nat) t v, Try.f9.params[j]? = some t → args[j]? = some v → Value.okWide Try.prog W .any base t v := hval0
  have hW' := hW
  obtain ⟨p, q, hA0, hV, rfl, hfz, hnd⟩ := hW
  have hA : DataW.TrodAll enc Try.prog W 0 (fun _ => true) true Try.f9.params.toList args.toList ds p := hA0
  rw [Try.params9] at hA hval
  obtain ⟨v0, vs0, d0, ds0, p0, q0, hargs, rfl, rfl, h0, r0⟩ := trodAll_cons hA
  obtain ⟨v1, vs1, d1, ds1, p1, q1, rfl, rfl, rfl, h1, r1⟩ := trodAll_cons r0
  obtain ⟨v2, vs2, d2, ds2, p2, q2, rfl, rfl, rfl, h2, r2⟩ := trodAll_cons r1
  obtain ⟨rfl, rfl, rfl⟩ := trodAll_nil r2
  obtain rfl : args = #[v0, v1, v2] := by cases args; simp_all
  obtain ⟨rfl, rfl⟩ := trodVars_none hV
  obtain ⟨n0, i0, rfl, rfl⟩ := open_one flat65 agg65 (hval 0 65 v0 rfl rfl) h0
  obtain ⟨n1, i1, rfl, rfl⟩ := open_one flat65 agg65 (hval 1 65 v1 rfl rfl) h1
  obtain ⟨X2, R2⟩ := open_rows (cl := [.i .u8, .i .i8, .i .i32]) Try.underlying66 flat73 size73 rfl (hval 2 66 v2 rfl rfl) h2
  clear hA0 hval0
  simp only [List.append_nil] at hW'
  refine (walk W n0 i0 n1 i1 v2 X2 R2.row).mono fun e W' ⟨he, hg⟩ => ?_
  subst he
  exact ⟨_, rfl, post_of_below (pa := [] ++ ([] ++ (p2 ++ ([])))) (pv := []) hW' (fun _ _ _ => (trodAll_cons_mk (shut_bool Try.underlying4 _) trodAll_mk0)) (fun sp hsp => (trodAll_cons_mk (shut_flat flat65 h0) (trodAll_cons_mk (shut_flat flat65 h1) (trodAll_cons_mk (R2.again W' hg sp (fun z hz => hsp z (by simp [hz]))) trodAll_mk0)))) (fun _ _ => rfl) (by simp)
    hg (ok_one (by kernel_rfl) rfl (okWide_bool_mk Try.underlying4 _))⟩

theorem over : Rows.timerPlaysRow.holds Try.pinned (OpenSpec.ofChange Rows.timerPlaysSpec) :=
  OpenClaim.holds_of_wide 9 Try.f9 rfl rfl rfl rfl rfl rfl rfl ⟨rfl, rfl, rfl, rfl, rfl⟩ rfl rfl rfl rfl rfl (by kernel_rfl) Try.func9 (by kernel_rfl)
    (of_decide_eq_true (by kernel_rfl)) (by unfold Func.isWrapper; first | (rw [if_pos (by decide +kernel)]; kernel_rfl) | (rw [if_neg (by decide +kernel)]; exact ⟨rfl, rfl⟩))
    (fun os started H enc _ => lifted os started H enc)

/-- THE STATEMENT -/
theorem proved : Rows.TimerPlaysSaid :=
  over
#print axioms proved
end Go.Proofs.Ytgifnmiggloclaa.timerPlays
