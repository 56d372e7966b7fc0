/-
  BankTicks is true: the bank behind the acts is any bank (a contract of 'played', by the row); a walk over the ticks: the bank's uart and the one alone are one (shared unknowns), its timers are what Ticks makes.
  No conditions.
-/
import Derived.Test.YtgifnmiggloclabRows
import Derived.WalkKit
import Derived.ProofKit
import Derived.OpenShut
import Derived.Below
import Derived.ChangeSame
import Derived.Test.YtgifnmiggloclabPl
import Derived.Test.YtgifnmiggloclabTqb
import Derived.Test.YtgifnmiggloclabEwZj
namespace Go.Proofs.Ytgifnmiggloclab.bankTicks
open Go.ChangeShapes Go.WideShapes Go.ChangeAt Go.RowKit
open Go.Ev Go.Proofs.Ytgifnmiggloclab.fc Go.Proofs.Ytgifnmiggloclab.uc Go.Proofs.Ytgifnmiggloclab.bp Go.Proofs.Ytgifnmiggloclab.pl Go.Proofs.Ytgifnmiggloclab.tp
open Go.Proofs.Ytgifnmiggloclab.tq (tkI tkO tkF tickI tickO tickF ticks_contract tick_contract wrC wrT wrK one_K w64 i64_range tk0 u16_range)
set_option linter.unusedVariables false
set_option linter.unusedSimpArgs false

theorem own : ownKnob Try.prog.godebug = none := by kernel_rfl

theorem works_run : isTrue ((evD Try.prog (cxOf noIng) true 1000 40).1 [] 29 [] ⟨[], []⟩) = true := by kernel_rfl
theorem works_contract : FnOk Try.prog 29 [] [.one .b] (fun _ => [1]) := fun l hl w => closed_hook ⟨rfl, rfl, rfl, rfl, rfl, rfl⟩ (hm := fc.mixed) (hh := fun F => no_hooks rfl F) (h := works_run) (w := w)

/-! ### bank.Tick, with the timers' plain functions -/

def btFs : Nat → List Int → List Int
  | 4 => utickF
  | 9 => tickF
  | _ => tkF
def bsTbl : List Ent := [⟨23, utickI, utickO, 4⟩, ⟨64, tickI, tickO, 9⟩]
theorem bs_all : ∀ e, e ∈ bsTbl → (cellsOf e.outs).length ≤ 64 ∧ FnOk Try.prog e.f e.ins e.outs (btFs e.id) := by
  intro e he
  simp only [bsTbl, List.mem_cons, List.not_mem_nil, or_false] at he
  rcases he with rfl | rfl
  · exact ⟨by decide, utick_contract⟩
  · exact ⟨by decide, tick_contract⟩
def bsX : Ing := { m := 32, ins := (cellsOf btickI).map kindC, G := btickG, T := btickT, hook := tblHook (tabOf btFs) bsTbl, tab := tabOf btFs }
theorem bs_run : okW (fun F => (evD Try.prog (cxOf bsX) true 1000 40).1 F 34 (symSh btickI 0) ⟨[], []⟩) (.run (.leaf (.tuple [.agg [.symi .u8 0, .symi .u8 1, .symi .u8 2, .symi .i64 44, .symi .u8 45, .symi .u8 46, .symi .u8 47, .symi .u8 48, .symi .u8 49, .symi .u8 50, .symi .u8 51, .symi .u8 52, .symi .i64 53, .symi .u8 54, .symi .u8 55, .symi .u8 56, .symi .u8 57, .symi .u8 58, .symi .u8 59, .symi .u8 60, .symi .u8 61, .symb 62, .symi .u8 63, .symi .u8 64, .symi .u16 32, .symi .u16 33, .symi .u16 34, .symi .u16 38, .symi .u16 39, .symi .u16 40, .symi .u8 30, .symi .u8 69], .symi .u8 65, .symb 66]))) [] = true := by kernel_rfl
theorem bs_contract : FnOk Try.prog 34 btickI btickO (dagF (tabOf btFs) 32 btickG btickA) :=
  dag_contract (X := bsX) (cs := btickA) (cs1 := btickA) 12 fc.mixed ⟨rfl, rfl, rfl, rfl, rfl⟩ btick_ok btick_lt (fun F => tbl_hooks btick_lt rfl rfl bs_all F) bs_run (by kernel_rfl) (by kernel_rfl) (fun σ _ _ _ => rfl)
theorem bs_mac : MacOk Try.prog (tabOf btFs) btickM := ⟨bs_contract, btick_ok, rfl, by kernel_rfl⟩

def btTru : List Ent := [⟨29, [], [.one .b], 0⟩]
def btL0 : List AVal := [.symi .i64 35, .symi .u8 36, .symi .u8 37, .symi .u8 38, .symi .u8 39, .symi .u8 40, .symi .u8 41, .symi .u8 42, .symi .u8 43, .symi .i64 44, .symi .u8 45, .symi .u8 46, .symi .u8 47, .symi .u8 48, .symi .u8 49, .symi .u8 50, .symi .u8 51, .symi .u8 52, .symb 53, .symi .u8 54, .symi .u8 55]
def btS1 : Shape := ⟨[(1, .symi .u8 1), (5, .ptr 0 0), (6, .ptr 1 0), (7, .ptr 2 0), (8, .symi .u8 2), (9, .symi .i64 0)], [.cells [.symi .u8 3, .symi .u8 4, .symi .u8 5, .symi .i64 6, .symi .u8 7, .symi .u8 8, .symi .u8 9, .symi .u8 10, .symi .u8 11, .symi .u8 12, .symi .u8 13, .symi .u8 14, .symi .i64 15, .symi .u8 16, .symi .u8 17, .symi .u8 18, .symi .u8 19, .symi .u8 20, .symi .u8 21, .symi .u8 22, .symi .u8 23, .symb 24, .symi .u8 25, .symi .u8 26, .symi .u16 27, .symi .u16 28, .symi .u16 29, .symi .u16 30, .symi .u16 31, .symi .u16 32, .symi .u8 33, .symi .u8 34] 68, .cells [.symi .u8 3, .symi .u8 4, .symi .u8 5, .symi .i64 35, .symi .u8 36, .symi .u8 37, .symi .u8 38, .symi .u8 39, .symi .u8 40, .symi .u8 41, .symi .u8 42, .symi .u8 43, .symi .i64 44, .symi .u8 45, .symi .u8 46, .symi .u8 47, .symi .u8 48, .symi .u8 49, .symi .u8 50, .symi .u8 51, .symi .u8 52, .symb 53, .symi .u8 54, .symi .u8 55, .symi .u16 56, .symi .u16 57, .symi .u16 58, .symi .u16 59, .symi .u16 60, .symi .u16 61, .symi .u8 33, .symi .u8 62] 68, .cells btL0 41]⟩
def btS2 : Shape := ⟨[(1, .symi .u8 1), (5, .ptr 0 0), (6, .ptr 1 0), (7, .ptr 2 0), (8, .symi .u8 2)], btS1.heap⟩
def btSE : Shape := ⟨[(4, .symb 0)], []⟩
def btK : List (Option IntKind) := [some .i64, some .u8, some .u8, some .u8, some .u8, some .u8, some .i64, some .u8, some .u8, some .u8, some .u8, some .u8, some .u8, some .u8, some .u8, some .i64, some .u8, some .u8, some .u8, some .u8, some .u8, some .u8, some .u8, some .u8, none, some .u8, some .u8, some .u16, some .u16, some .u16, some .u16, some .u16, some .u16, some .u8, some .u8, some .i64, some .u8, some .u8, some .u8, some .u8, some .u8, some .u8, some .u8, some .u8, some .i64, some .u8, some .u8, some .u8, some .u8, some .u8, some .u8, some .u8, some .u8, none, some .u8, some .u8, some .u16, some .u16, some .u16, some .u16, some .u16, some .u16, some .u8]
def btK2 : List (Option IntKind) := none :: btK.tail
theorem bt_tru : ∀ e, e ∈ btTru → FnOk Try.prog e.f e.ins [.one .b] (fun _ => [1]) := by
  intro e he
  simp only [btTru, List.mem_singleton] at he
  subst he
  exact works_contract
def btTbl : List Ent := [⟨23, utickI, utickO, 4⟩, ⟨37, tkI, tkO, 14⟩]
theorem bt_all : ∀ e, e ∈ btTbl → (cellsOf e.outs).length ≤ 64 ∧ FnOk Try.prog e.f e.ins e.outs (btFs e.id) := by
  intro e he
  simp only [btTbl, List.mem_cons, List.not_mem_nil, or_false] at he
  rcases he with rfl | rfl
  · exact ⟨by decide, utick_contract⟩
  · exact ⟨by decide, ticks_contract⟩
theorem bt_macs : ∀ e, e ∈ [btickM] → MacOk Try.prog (tabOf btFs) e := by
  intro e he
  simp only [List.mem_singleton] at he
  subst he
  exact bs_mac
def btHook : HookF := orHook (trueHook btTru) (orHook (macHook [btickM]) (tblHook (tabOf btFs) btTbl))
theorem bt_hooks {X : Ing} (hT : okLT X.m X.G X.T = true) (hX : X.hook = btHook) (ht : X.tab = tabOf btFs) (F : List Fact) : Hooks Try.prog (cxOf X F) := by
  intro f' args v hv hp
  replace hv : X.hook (symS (baseOf X F)) (kdX X) f' args = some v := hv
  rw [hX] at hv
  exact or_at (fun f args v hp hv => true_at bt_tru F f args v hv hp) (or_at (fun f args v hp hv => mac_at hT (by rw [ht]; exact bt_macs) F f args v hv hp) (fun f args v hp hv => tbl_at hT ht bt_all F f args v hv hp)) f' args v hp hv
theorem bt_hooksA {X : Ing} {W0 : World} {v0 : Value} {Y : Fz} {l : List Int} (hY : RowV W0 [.i .u8, .i .i8, .i .i32] v0 Y) (hT : okLT X.m X.G X.T = true) (hX : X.hook = orHook (rowHook 30 0 (.agg (symCs b32c l.length))) btHook) (ht : X.tab = tabOf btFs)
    (hinv : X.inv = rowInv Y X.m (l ++ playedF Y)) (hm : X.m = l.length + 32) (F : List Fact) : Hooks Try.prog (cxOf X F) := by
  intro f' args v hv hp
  replace hv : X.hook (symS (baseOf X F)) (kdX X) f' args = some v := hv
  rw [hX] at hv
  have hin : InR b32c (playedF Y) := by
    have : InR (b32c ++ []) (playedF Y) := (played_fn W0 v0 Y hY).1
    simpa using this
  refine or_at (fun f args v hp hv => row_at played_fn hY ?_ F f args v hv hp) (or_at (fun f args v hp hv => true_at bt_tru F f args v hv hp) (or_at (fun f args v hp hv => mac_at hT (by rw [ht]; exact bt_macs) F f args v hv hp) (fun f args v hp hv => tbl_at hT ht bt_all F f args v hv hp))) f' args v hp hv
  intro σ hσ
  rw [hinv] at hσ
  obtain ⟨g1, g2⟩ := hσ
  refine ⟨g1, outCs_sym b32c (playedF Y) l.length hin (fun i hi => ?_), trivial⟩
  have hlen : (playedF Y).length = 32 := inR_length hin
  have := g2 (l.length + i) (by omega)
  have e1 : (l ++ playedF Y).getD (l.length + i) 0 = (playedF Y).getD i 0 := by
    simp [List.getD_eq_getElem?_getD, List.getElem?_append_right]
  rw [e1] at this
  exact this

set_option maxRecDepth 100000 in
def btAG : List SDef := []

def btAT : LT := .e

set_option maxRecDepth 100000 in
def btAW : Sw := .run (.leaf .normal btS1 [(0, 0), (1, 0), (2, 0)] [(1, .symi .u8 0), (2, .int .u8 0), (0, .int .i64 0), (3, .symi .u8 1), (4, .symi .u8 2), (5, .symi .u8 3), (6, .symi .i64 4), (7, .symi .u8 5), (8, .symi .u8 6), (9, .symi .u8 7), (10, .symi .u8 8), (11, .symi .u8 9), (12, .symi .u8 10), (13, .symi .u8 11), (14, .symi .u8 12), (15, .symi .i64 13), (16, .symi .u8 14), (17, .symi .u8 15), (18, .symi .u8 16), (19, .symi .u8 17), (20, .symi .u8 18), (21, .symi .u8 19), (22, .symi .u8 20), (23, .symi .u8 21), (24, .symb 22), (25, .symi .u8 23), (26, .symi .u8 24), (27, .symi .u16 25), (28, .symi .u16 26), (29, .symi .u16 27), (30, .symi .u16 28), (31, .symi .u16 29), (32, .symi .u16 30), (33, .symi .u8 31), (34, .symi .u8 32), (3, .symi .u8 1), (4, .symi .u8 2), (5, .symi .u8 3), (35, .symi .i64 4), (36, .symi .u8 5), (37, .symi .u8 6), (38, .symi .u8 7), (39, .symi .u8 8), (40, .symi .u8 9), (41, .symi .u8 10), (42, .symi .u8 11), (43, .symi .u8 12), (44, .symi .i64 13), (45, .symi .u8 14), (46, .symi .u8 15), (47, .symi .u8 16), (48, .symi .u8 17), (49, .symi .u8 18), (50, .symi .u8 19), (51, .symi .u8 20), (52, .symi .u8 21), (53, .symb 22), (54, .symi .u8 23), (55, .symi .u8 24), (56, .symi .u16 25), (57, .symi .u16 26), (58, .symi .u16 27), (59, .symi .u16 28), (60, .symi .u16 29), (61, .symi .u16 30), (33, .symi .u8 31), (62, .symi .u8 32), (35, .symi .i64 4), (36, .symi .u8 5), (37, .symi .u8 6), (38, .symi .u8 7), (39, .symi .u8 8), (40, .symi .u8 9), (41, .symi .u8 10), (42, .symi .u8 11), (43, .symi .u8 12), (44, .symi .i64 13), (45, .symi .u8 14), (46, .symi .u8 15), (47, .symi .u8 16), (48, .symi .u8 17), (49, .symi .u8 18), (50, .symi .u8 19), (51, .symi .u8 20), (52, .symi .u8 21), (53, .symb 22), (54, .symi .u8 23), (55, .symi .u8 24)] [])
def btAKd : KdT := .n (.n (.n (.n (.n (.n .e (some .u8) .e) (some .u8) .e) (some .u8) (.n .e (some .u8) .e)) (some .u8) (.n (.n .e (some .u8) .e) (some .u8) (.n .e (some .u16) .e))) (some .u8) (.n (.n (.n .e (some .u8) .e) (some .u8) (.n .e (some .u16) .e)) (some .u8) (.n (.n .e (some .u8) .e) (some .i64) (.n .e (some .u16) .e)))) (some .u8) (.n (.n (.n (.n (.n .e (some .u8) .e) (some .u8) .e) (some .u8) (.n .e (some .u8) .e)) (some .i64) (.n (.n .e (some .u8) .e) (some .u8) (.n .e (some .u16) .e))) (some .u8) (.n (.n (.n .e (some .u8) .e) (some .u8) (.n .e (some .u16) .e)) (some .u8) (.n (.n .e none .e) (some .u8) (.n .e (some .u16) .e))))
set_option maxRecDepth 100000 in
def btBG : List SDef := [.bin .rem (.symi .u8 1) (.int .u8 101),
  .conv .i64 (.symi .u8 63),
  .bin .lss (.symi .i64 0) (.symi .i64 64),
  .fn 576 .u16 [.symi .u16 56, .symi .u16 57, .symi .u16 58],
  .fn 577 .u16 [.symi .u16 56, .symi .u16 57, .symi .u16 58],
  .fn 578 .u16 [.symi .u16 56, .symi .u16 57, .symi .u16 58],
  .fnb 579 [.symi .u16 56, .symi .u16 57, .symi .u16 58],
  .bin .or (.symi .u8 62) (.int .u8 8),
  .ite (.symb 69) (.symi .u8 70) (.symi .u8 62),
  .fn 576 .u16 [.symi .u16 59, .symi .u16 60, .symi .u16 61],
  .fn 577 .u16 [.symi .u16 59, .symi .u16 60, .symi .u16 61],
  .fn 578 .u16 [.symi .u16 59, .symi .u16 60, .symi .u16 61],
  .fnb 579 [.symi .u16 59, .symi .u16 60, .symi .u16 61],
  .bin .or (.symi .u8 71) (.int .u8 16),
  .ite (.symb 75) (.symi .u8 76) (.symi .u8 71),
  .fn 256 .i64 btL0,
  .fn 257 .u8 btL0,
  .fn 258 .u8 btL0,
  .fn 259 .u8 btL0,
  .fn 260 .u8 btL0,
  .fn 261 .u8 btL0,
  .fn 262 .u8 btL0,
  .fn 263 .u8 btL0,
  .fn 264 .u8 btL0,
  .fn 265 .i64 btL0,
  .fn 266 .u8 btL0,
  .fn 267 .u8 btL0,
  .fn 268 .u8 btL0,
  .fn 269 .u8 btL0,
  .fn 270 .u8 btL0,
  .fn 271 .u8 btL0,
  .fn 272 .u8 btL0,
  .fn 273 .u8 btL0,
  .fnb 274 btL0,
  .fn 275 .u8 btL0,
  .fn 276 .u8 btL0,
  .fn 277 .u8 btL0,
  .fnb 278 btL0,
  .fnb 279 btL0,
  .bin .or (.symi .u8 77) (.int .u8 4),
  .ite (.symb 101) (.symi .u8 102) (.symi .u8 77),
  .bin .or (.symi .u8 2) (.int .u8 4),
  .ite (.symb 101) (.symi .u8 104) (.symi .u8 2),
  .bin .add (.symi .i64 0) (.int .i64 1)]

def btBT : LT := .n (.n (.n (.n (.n (.n (.e) 60352 106 (.bin .add (.symi .i64 0) (.int .i64 1)) (.e)) 46568837 64 (.conv .i64 (.symi .u8 63)) (.e)) 62356270 103 (.ite (.symb 101) (.symi .u8 102) (.symi .u8 77)) (.n (.n (.e) 106064183 63 (.bin .rem (.symi .u8 1) (.int .u8 101)) (.e)) 110975683 72 (.fn 576 .u16 [.symi .u16 59, .symi .u16 60, .symi .u16 61]) (.e))) 110975726 73 (.fn 577 .u16 [.symi .u16 59, .symi .u16 60, .symi .u16 61]) (.n (.n (.n (.e) 110975769 74 (.fn 578 .u16 [.symi .u16 59, .symi .u16 60, .symi .u16 61]) (.e)) 202211105 104 (.bin .or (.symi .u8 2) (.int .u8 4)) (.e)) 258157284 77 (.ite (.symb 75) (.symi .u8 76) (.symi .u8 71)) (.n (.n (.e) 261041041 102 (.bin .or (.symi .u8 77) (.int .u8 4)) (.e)) 325200319 69 (.fnb 579 [.symi .u16 56, .symi .u16 57, .symi .u16 58]) (.e)))) 392348484 71 (.ite (.symb 69) (.symi .u8 70) (.symi .u8 62)) (.n (.n (.n (.n (.e) 427530428 75 (.fnb 579 [.symi .u16 59, .symi .u16 60, .symi .u16 61]) (.e)) 469386538 78 (.fn 256 .i64 btL0) (.e)) 469386581 79 (.fn 257 .u8 btL0) (.n (.n (.e) 469386624 80 (.fn 258 .u8 btL0) (.e)) 469386667 81 (.fn 259 .u8 btL0) (.e))) 469386710 82 (.fn 260 .u8 btL0) (.n (.n (.n (.e) 469386753 83 (.fn 261 .u8 btL0) (.e)) 469386796 84 (.fn 262 .u8 btL0) (.e)) 469386839 85 (.fn 263 .u8 btL0) (.n (.e) 469386882 86 (.fn 264 .u8 btL0) (.e))))) 469386925 87 (.fn 265 .i64 btL0) (.n (.n (.n (.n (.n (.e) 469386968 88 (.fn 266 .u8 btL0) (.e)) 469387011 89 (.fn 267 .u8 btL0) (.e)) 469387054 90 (.fn 268 .u8 btL0) (.n (.n (.e) 469387097 91 (.fn 269 .u8 btL0) (.e)) 469387140 92 (.fn 270 .u8 btL0) (.e))) 469387183 93 (.fn 271 .u8 btL0) (.n (.n (.n (.e) 469387226 94 (.fn 272 .u8 btL0) (.e)) 469387269 95 (.fn 273 .u8 btL0) (.e)) 469387355 97 (.fn 275 .u8 btL0) (.n (.e) 469387398 98 (.fn 276 .u8 btL0) (.e)))) 469387441 99 (.fn 277 .u8 btL0) (.n (.n (.n (.n (.e) 499822874 65 (.bin .lss (.symi .i64 0) (.symi .i64 64)) (.e)) 702829964 66 (.fn 576 .u16 [.symi .u16 56, .symi .u16 57, .symi .u16 58]) (.e)) 702830007 67 (.fn 577 .u16 [.symi .u16 56, .symi .u16 57, .symi .u16 58]) (.n (.n (.e) 702830050 68 (.fn 578 .u16 [.symi .u16 56, .symi .u16 57, .symi .u16 58]) (.e)) 729381470 76 (.bin .or (.symi .u8 71) (.int .u8 16)) (.e))) 846483286 105 (.ite (.symb 101) (.symi .u8 104) (.symi .u8 2)) (.n (.n (.n (.e) 893720290 70 (.bin .or (.symi .u8 62) (.int .u8 8)) (.e)) 974481825 96 (.fnb 274 btL0) (.e)) 974482037 100 (.fnb 278 btL0) (.n (.e) 974482090 101 (.fnb 279 btL0) (.e)))))

set_option maxRecDepth 100000 in
def btBW : Sw := .run (.node 65 (.leaf .normal btS1 [(0, 0), (1, 0), (2, 0)] [(1, .symi .u8 1), (2, .symi .u8 105), (0, .symi .i64 106), (3, .symi .u8 3), (4, .symi .u8 4), (5, .symi .u8 5), (6, .symi .i64 6), (7, .symi .u8 7), (8, .symi .u8 8), (9, .symi .u8 9), (10, .symi .u8 10), (11, .symi .u8 11), (12, .symi .u8 12), (13, .symi .u8 13), (14, .symi .u8 14), (15, .symi .i64 15), (16, .symi .u8 16), (17, .symi .u8 17), (18, .symi .u8 18), (19, .symi .u8 19), (20, .symi .u8 20), (21, .symi .u8 21), (22, .symi .u8 22), (23, .symi .u8 23), (24, .symb 24), (25, .symi .u8 25), (26, .symi .u8 26), (27, .symi .u16 27), (28, .symi .u16 28), (29, .symi .u16 29), (30, .symi .u16 30), (31, .symi .u16 31), (32, .symi .u16 32), (33, .symi .u8 33), (34, .symi .u8 34), (3, .symi .u8 3), (4, .symi .u8 4), (5, .symi .u8 5), (35, .symi .i64 78), (36, .symi .u8 79), (37, .symi .u8 80), (38, .symi .u8 81), (39, .symi .u8 82), (40, .symi .u8 83), (41, .symi .u8 84), (42, .symi .u8 85), (43, .symi .u8 86), (44, .symi .i64 87), (45, .symi .u8 88), (46, .symi .u8 89), (47, .symi .u8 90), (48, .symi .u8 91), (49, .symi .u8 92), (50, .symi .u8 93), (51, .symi .u8 94), (52, .symi .u8 95), (53, .symb 96), (54, .symi .u8 97), (55, .symi .u8 98), (56, .symi .u16 66), (57, .symi .u16 67), (58, .symi .u16 68), (59, .symi .u16 72), (60, .symi .u16 73), (61, .symi .u16 74), (33, .symi .u8 33), (62, .symi .u8 103), (35, .symi .i64 78), (36, .symi .u8 79), (37, .symi .u8 80), (38, .symi .u8 81), (39, .symi .u8 82), (40, .symi .u8 83), (41, .symi .u8 84), (42, .symi .u8 85), (43, .symi .u8 86), (44, .symi .i64 87), (45, .symi .u8 88), (46, .symi .u8 89), (47, .symi .u8 90), (48, .symi .u8 91), (49, .symi .u8 92), (50, .symi .u8 93), (51, .symi .u8 94), (52, .symi .u8 95), (53, .symb 96), (54, .symi .u8 97), (55, .symi .u8 98)] []) (.leaf (.exit 0) btS2 [(0, 0), (1, 0), (2, 0)] [(1, .symi .u8 1), (2, .symi .u8 2), (3, .symi .u8 3), (4, .symi .u8 4), (5, .symi .u8 5), (6, .symi .i64 6), (7, .symi .u8 7), (8, .symi .u8 8), (9, .symi .u8 9), (10, .symi .u8 10), (11, .symi .u8 11), (12, .symi .u8 12), (13, .symi .u8 13), (14, .symi .u8 14), (15, .symi .i64 15), (16, .symi .u8 16), (17, .symi .u8 17), (18, .symi .u8 18), (19, .symi .u8 19), (20, .symi .u8 20), (21, .symi .u8 21), (22, .symi .u8 22), (23, .symi .u8 23), (24, .symb 24), (25, .symi .u8 25), (26, .symi .u8 26), (27, .symi .u16 27), (28, .symi .u16 28), (29, .symi .u16 29), (30, .symi .u16 30), (31, .symi .u16 31), (32, .symi .u16 32), (33, .symi .u8 33), (34, .symi .u8 34), (3, .symi .u8 3), (4, .symi .u8 4), (5, .symi .u8 5), (35, .symi .i64 35), (36, .symi .u8 36), (37, .symi .u8 37), (38, .symi .u8 38), (39, .symi .u8 39), (40, .symi .u8 40), (41, .symi .u8 41), (42, .symi .u8 42), (43, .symi .u8 43), (44, .symi .i64 44), (45, .symi .u8 45), (46, .symi .u8 46), (47, .symi .u8 47), (48, .symi .u8 48), (49, .symi .u8 49), (50, .symi .u8 50), (51, .symi .u8 51), (52, .symi .u8 52), (53, .symb 53), (54, .symi .u8 54), (55, .symi .u8 55), (56, .symi .u16 56), (57, .symi .u16 57), (58, .symi .u16 58), (59, .symi .u16 59), (60, .symi .u16 60), (61, .symi .u16 61), (33, .symi .u8 33), (62, .symi .u8 62), (35, .symi .i64 35), (36, .symi .u8 36), (37, .symi .u8 37), (38, .symi .u8 38), (39, .symi .u8 39), (40, .symi .u8 40), (41, .symi .u8 41), (42, .symi .u8 42), (43, .symi .u8 43), (44, .symi .i64 44), (45, .symi .u8 45), (46, .symi .u8 46), (47, .symi .u8 47), (48, .symi .u8 48), (49, .symi .u8 49), (50, .symi .u8 50), (51, .symi .u8 51), (52, .symi .u8 52), (53, .symb 53), (54, .symi .u8 54), (55, .symi .u8 55)] []))
def btBKd : KdT := .n (.n (.n (.n (.n (.n (.n .e (some .u8) .e) (some .u16) (.n .e (some .u8) .e)) (some .i64) (.n (.n .e (some .u8) .e) (some .u8) .e)) (some .u8) (.n (.n (.n .e (some .u8) .e) (some .u8) (.n .e (some .u8) .e)) (some .u8) (.n (.n .e (some .i64) .e) (some .u8) .e))) (some .u8) (.n (.n (.n (.n .e (some .u16) .e) (some .i64) (.n .e (some .u8) .e)) (some .u8) (.n (.n .e (some .u8) .e) (some .u8) .e)) (some .u8) (.n (.n (.n .e none .e) (some .u8) .e) (some .u16) (.n (.n .e (some .u8) .e) (some .u16) .e)))) (some .u8) (.n (.n (.n (.n (.n .e none .e) (some .u8) (.n .e (some .u8) .e)) (some .u8) (.n (.n .e (some .u8) .e) (some .u8) .e)) (some .u8) (.n (.n (.n .e (some .u16) .e) (some .u8) (.n .e (some .u8) .e)) (some .u8) (.n (.n .e (some .u8) .e) (some .u16) .e))) (some .u8) (.n (.n (.n (.n .e none .e) (some .u8) (.n .e none .e)) (some .u8) (.n (.n .e (some .u8) .e) none .e)) (some .u8) (.n (.n (.n .e (some .u8) .e) (some .u8) .e) (some .u16) (.n (.n .e (some .u8) .e) (some .u16) .e))))) (some .i64) (.n (.n (.n (.n (.n (.n .e (some .i64) .e) (some .u16) (.n .e none .e)) (some .u8) (.n (.n .e (some .u8) .e) (some .u8) .e)) (some .u8) (.n (.n (.n .e (some .u16) .e) (some .u8) (.n .e (some .u8) .e)) none (.n (.n .e (some .u8) .e) (some .u16) .e))) (some .u8) (.n (.n (.n (.n .e (some .u16) .e) (some .u8) (.n .e none .e)) (some .u8) (.n (.n .e (some .u8) .e) (some .u8) .e)) (some .u8) (.n (.n (.n .e (some .u8) .e) (some .i64) .e) (some .u16) (.n (.n .e (some .u8) .e) (some .u16) .e)))) (some .u8) (.n (.n (.n (.n (.n .e (some .u16) .e) (some .u8) (.n .e (some .u8) .e)) (some .u8) (.n (.n .e (some .u8) .e) (some .u8) .e)) (some .u8) (.n (.n (.n .e (some .u16) .e) (some .u8) (.n .e (some .i64) .e)) (some .u8) (.n (.n .e (some .u8) .e) (some .u16) .e))) (some .i64) (.n (.n (.n (.n .e (some .u8) .e) (some .u8) (.n .e (some .u8) .e)) (some .u8) (.n (.n .e (some .u8) .e) (some .u8) .e)) (some .u8) (.n (.n (.n .e (some .i64) .e) (some .u8) .e) (some .u16) (.n (.n .e (some .u8) .e) (some .u8) .e)))))
set_option maxRecDepth 100000 in
def btCG : List SDef := [.bin .rem (.symi .u8 1) (.int .u8 101),
  .conv .i64 (.symi .u8 63),
  .fn 896 .u16 [.symi .u16 27, .symi .u16 28, .symi .u16 29, .symi .i64 64],
  .fn 897 .u16 [.symi .u16 27, .symi .u16 28, .symi .u16 29, .symi .i64 64],
  .fn 898 .u16 [.symi .u16 27, .symi .u16 28, .symi .u16 29, .symi .i64 64],
  .fn 899 .i64 [.symi .u16 27, .symi .u16 28, .symi .u16 29, .symi .i64 64],
  .all [(.symi .u16 56, .symi .u16 65), (.symi .u16 57, .symi .u16 66), (.symi .u16 58, .symi .u16 67)],
  .un .not (.symb 69),
  .bin .gtr (.symi .i64 68) (.int .i64 0),
  .bin .or (.symi .u8 2) (.int .u8 8),
  .ite (.symb 71) (.symi .u8 72) (.symi .u8 2),
  .fn 896 .u16 [.symi .u16 30, .symi .u16 31, .symi .u16 32, .symi .i64 64],
  .fn 897 .u16 [.symi .u16 30, .symi .u16 31, .symi .u16 32, .symi .i64 64],
  .fn 898 .u16 [.symi .u16 30, .symi .u16 31, .symi .u16 32, .symi .i64 64],
  .fn 899 .i64 [.symi .u16 30, .symi .u16 31, .symi .u16 32, .symi .i64 64],
  .all [(.symi .u16 59, .symi .u16 74), (.symi .u16 60, .symi .u16 75), (.symi .u16 61, .symi .u16 76)],
  .un .not (.symb 78),
  .bin .gtr (.symi .i64 77) (.int .i64 0),
  .bin .or (.symi .u8 73) (.int .u8 16),
  .ite (.symb 80) (.symi .u8 81) (.symi .u8 73),
  .bin .or (.symi .u8 34) (.symi .u8 82),
  .bin .eql (.symi .u8 62) (.symi .u8 83)]

def btCT : LT := .n (.n (.n (.n (.n (.e) 46568837 64 (.conv .i64 (.symi .u8 63)) (.e)) 106064183 63 (.bin .rem (.symi .u8 1) (.int .u8 101)) (.e)) 202411245 72 (.bin .or (.symi .u8 2) (.int .u8 8)) (.n (.n (.e) 260840964 80 (.bin .gtr (.symi .i64 77) (.int .i64 0)) (.e)) 362067911 79 (.un .not (.symb 78)) (.e))) 400657704 84 (.bin .eql (.symi .u8 62) (.symi .u8 83)) (.n (.n (.n (.e) 406535455 69 (.all [(.symi .u16 56, .symi .u16 65), (.symi .u16 57, .symi .u16 66), (.symi .u16 58, .symi .u16 67)]) (.e)) 425580064 71 (.bin .gtr (.symi .i64 68) (.int .i64 0)) (.e)) 446870676 78 (.all [(.symi .u16 59, .symi .u16 74), (.symi .u16 60, .symi .u16 75), (.symi .u16 61, .symi .u16 76)]) (.n (.n (.e) 450521088 83 (.bin .or (.symi .u8 34) (.symi .u8 82)) (.e)) 498265988 73 (.ite (.symb 71) (.symi .u8 72) (.symi .u8 2)) (.e)))) 506566874 65 (.fn 896 .u16 [.symi .u16 27, .symi .u16 28, .symi .u16 29, .symi .i64 64]) (.n (.n (.n (.n (.e) 506566917 66 (.fn 897 .u16 [.symi .u16 27, .symi .u16 28, .symi .u16 29, .symi .i64 64]) (.e)) 506566960 67 (.fn 898 .u16 [.symi .u16 27, .symi .u16 28, .symi .u16 29, .symi .i64 64]) (.e)) 506567003 68 (.fn 899 .i64 [.symi .u16 27, .symi .u16 28, .symi .u16 29, .symi .i64 64]) (.n (.n (.e) 526779741 70 (.un .not (.symb 69)) (.e)) 926441533 82 (.ite (.symb 80) (.symi .u8 81) (.symi .u8 73)) (.e))) 931382076 81 (.bin .or (.symi .u8 73) (.int .u8 16)) (.n (.n (.n (.e) 988454420 74 (.fn 896 .u16 [.symi .u16 30, .symi .u16 31, .symi .u16 32, .symi .i64 64]) (.e)) 988454463 75 (.fn 897 .u16 [.symi .u16 30, .symi .u16 31, .symi .u16 32, .symi .i64 64]) (.e)) 988454506 76 (.fn 898 .u16 [.symi .u16 30, .symi .u16 31, .symi .u16 32, .symi .i64 64]) (.n (.e) 988454549 77 (.fn 899 .i64 [.symi .u16 30, .symi .u16 31, .symi .u16 32, .symi .i64 64]) (.e))))

set_option maxRecDepth 100000 in
def btCW : Sw := .run (.node 70 (.dead) (.node 79 (.dead) (.leaf .ret btSE [] [(0, .symb 84)] [])))
def btCKd : KdT := .n (.n (.n (.n (.n (.n (.n .e (some .u8) .e) (some .u16) .e) (some .i64) (.n (.n .e none .e) (some .u8) .e)) (some .u8) (.n (.n (.n .e none .e) (some .u8) .e) (some .u8) (.n .e (some .u8) .e))) (some .u8) (.n (.n (.n (.n .e (some .u16) .e) (some .i64) .e) (some .u8) (.n (.n .e (some .u8) .e) (some .u8) .e)) (some .u8) (.n (.n (.n .e (some .u16) .e) (some .u8) .e) (some .u16) (.n .e (some .u16) .e)))) (some .u8) (.n (.n (.n (.n (.n .e (some .u16) .e) (some .u8) .e) (some .u8) (.n (.n .e (some .u8) .e) (some .u8) .e)) (some .u8) (.n (.n (.n .e (some .u8) .e) (some .u8) .e) (some .u8) (.n .e (some .u16) .e))) (some .u8) (.n (.n (.n (.n .e none .e) (some .u8) .e) (some .u8) (.n .e none .e)) (some .u8) (.n (.n (.n .e (some .i64) .e) (some .u8) .e) (some .u16) (.n .e (some .u16) .e))))) none (.n (.n (.n (.n (.n (.n .e (some .i64) .e) (some .u16) .e) (some .u8) (.n (.n .e none .e) (some .u8) .e)) (some .u8) (.n (.n (.n .e (some .u8) .e) (some .u8) .e) none (.n .e (some .u16) .e))) (some .u8) (.n (.n (.n (.n .e (some .i64) .e) (some .u8) .e) (some .u8) (.n (.n .e none .e) (some .u8) .e)) (some .u8) (.n (.n (.n .e (some .u16) .e) (some .i64) .e) (some .u16) (.n .e (some .u16) .e)))) (some .u8) (.n (.n (.n (.n (.n .e (some .u16) .e) (some .u8) .e) (some .u8) (.n (.n .e (some .u8) .e) (some .u8) .e)) (some .u8) (.n (.n (.n .e (some .u16) .e) (some .u8) .e) (some .u8) (.n .e (some .u16) .e))) (some .i64) (.n (.n (.n (.n .e none .e) (some .u8) .e) (some .u8) (.n .e (some .u8) .e)) (some .u8) (.n (.n (.n .e none .e) (some .u8) .e) (some .u16) (.n .e (some .u8) .e)))))
def btBX : Ing := { kb := 107, kt := btBKd, m := 63, ins := btK, G := btBG, T := btBT, hook := btHook, tab := tabOf btFs }
theorem btB_ok : okG btBG 63 = true := by kernel_rfl
theorem btB_lt : okLT 63 btBG btBT = true := by kernel_rfl
theorem btB_seg : SegOk Try.prog (tabOf btFs) 118 ([loopOf (bodyOf Try.f9)]) btS1 btBX btBW where
  lt := btB_lt
  ok := btB_ok
  hook := fun F => bt_hooks btB_lt rfl rfl F
  n0 := rfl
  id := by kernel_rfl
  reck := by kernel_rfl
  tab := rfl
  cuts := rfl
  kt := by kernel_rfl
def btCX : Ing := { kb := 85, kt := btCKd, m := 63, ins := btK2, G := btCG, T := btCT, hook := btHook, tab := tabOf btFs }
theorem btC_ok : okG btCG 63 = true := by kernel_rfl
theorem btC_lt : okLT 63 btCG btCT = true := by kernel_rfl
theorem btC_seg : SegOk Try.prog (tabOf btFs) 118 (postOf (bodyOf Try.f9)) btS2 btCX btCW where
  lt := btC_lt
  ok := btC_ok
  hook := fun F => bt_hooks btC_lt rfl rfl F
  n0 := rfl
  id := by kernel_rfl
  reck := by kernel_rfl
  tab := rfl
  cuts := rfl
  kt := by kernel_rfl
def btAX (inv : Sig → Prop) : Ing := { kb := 33, kt := btAKd, m := 33, ins := some .u8 :: b32c.map kindC, G := btAG, T := btAT, hook := orHook (rowHook 30 0 (.agg (symCs b32c 1))) btHook, tab := tabOf btFs, inv := inv }
theorem btA_reck (inv : Sig → Prop) : okSw (runOf Try.prog (btAX inv) (preOf (bodyOf Try.f9)) ⟨argT 0 (.row 0 :: symSh [.one (.i .u8)] 0), []⟩ 118) btAW [] = true := by kernel_rfl
theorem hidOf : idOf (bodyOf Try.f9) = 0 := by kernel_rfl

/-! ### The plain law -/

def o8 (a b : Int) : Int := IntKind.u8.wrap (BitVec.ofInt IntKind.u8.bits a ||| BitVec.ofInt IntKind.u8.bits b).toNat
theorem u8r {n : Int} (h : IntKind.u8.wrap n = n) : 0 ≤ n ∧ n ≤ 255 := by
  simp [IntKind.wrap, IntKind.bits, IntKind.signed] at h; omega
theorem ofInt8 {a : Int} (h0 : 0 ≤ a) (h1 : a ≤ 255) : (BitVec.ofInt IntKind.u8.bits a).toNat = a.toNat := by
  rw [BitVec.toNat_ofInt]; simp only [IntKind.bits]; omega
theorem wr8 {k : Nat} (h : k < 256) : IntKind.u8.wrap (k : Int) = k := by simp [IntKind.wrap, IntKind.bits, IntKind.signed]; omega
/-- what is requested at most: a bit more of n -/
def may (n k : Int) (c : Bool) : Int := bif c then o8 n k else n
def may3 (n : Int) (a b c : Bool) : Int := may (may (may n 8 a) 16 b) 4 c
theorem o8_nat {n : Int} {k : Nat} (h0 : 0 ≤ n) (h1 : n ≤ 255) (hk : k ≤ 255) : o8 n (k : Int) = ((n.toNat ||| k : Nat) : Int) := by
  unfold o8
  rw [BitVec.toNat_or, ofInt8 h0 h1, ofInt8 (a := (k : Int)) (by omega) (by omega)]
  have hb : n.toNat ||| (k : Int).toNat < 2 ^ 8 := Nat.or_lt_two_pow (by omega) (by omega)
  rw [wr8 hb]
  simp
def mayN (n k : Nat) (c : Bool) : Nat := bif c then n ||| k else n
theorem mayN_lt {n k : Nat} {c : Bool} (h : n < 256) (hk : k < 256) : mayN n k c < 256 := by
  unfold mayN
  cases c
  · exact h
  · exact Nat.or_lt_two_pow (n := 8) h hk
theorem may_nat {n : Nat} {k : Nat} {c : Bool} (h1 : n < 256) (hk : k ≤ 255) : may (n : Int) (k : Int) c = (mayN n k c : Int) := by
  unfold may mayN
  cases c
  · rfl
  · show o8 (n : Int) (k : Int) = _
    rw [o8_nat (by omega) (by omega) hk]; simp
theorem may3_nat {n : Nat} {a b c : Bool} (h : n < 256) : may3 (n : Int) a b c = (mayN (mayN (mayN n 8 a) 16 b) 4 c : Nat) := by
  unfold may3
  rw [show (8 : Int) = ((8 : Nat) : Int) from rfl, may_nat h (by decide), show (16 : Int) = ((16 : Nat) : Int) from rfl, may_nat (mayN_lt h (by decide)) (by decide), show (4 : Int) = ((4 : Nat) : Int) from rfl, may_nat (mayN_lt (mayN_lt h (by decide)) (by decide)) (by decide)]
theorem may3_step {n : Int} (h0 : 0 ≤ n) (h1 : n ≤ 255) (r0 r1 ra a0 a1 rq : Bool) : may3 (may3 n r0 r1 ra) a0 a1 rq = may3 n (r0 || a0) (r1 || a1) (ra || rq) := by
  obtain ⟨N, rfl⟩ : ∃ N : Nat, n = N := ⟨n.toNat, by omega⟩
  have hN : N < 256 := by omega
  rw [may3_nat hN, may3_nat hN, may3_nat (mayN_lt (mayN_lt (mayN_lt hN (by decide)) (by decide)) (by decide))]
  congr 1
  cases r0 <;> cases r1 <;> cases ra <;> cases a0 <;> cases a1 <;> cases rq <;> simp only [mayN, cond_true, cond_false, Nat.or_assoc, Bool.or_true, Bool.or_false, Bool.true_or, Bool.false_or, Nat.reduceOr]
def askI (ra : Bool) : Int := bif ra then 4 else 0
theorem ask_step (ra rq : Bool) : may (askI ra) 4 rq = askI (ra || rq) := by cases ra <;> cases rq <;> rfl
theorem last {n : Int} (h0 : 0 ≤ n) (h1 : n ≤ 255) (r0 r1 ra : Bool) : may3 n r0 r1 ra = o8 n (may (may (askI ra) 8 r0) 16 r1) := by
  obtain ⟨N, rfl⟩ : ∃ N : Nat, n = N := ⟨n.toNat, by omega⟩
  have hN : N < 256 := by omega
  have ha : askI ra = ((bif ra then 4 else 0 : Nat) : Int) := by cases ra <;> rfl
  have hl : (bif ra then 4 else 0 : Nat) < 256 := by cases ra <;> decide
  rw [may3_nat hN, ha, show (8 : Int) = ((8 : Nat) : Int) from rfl, may_nat hl (by decide), show (16 : Int) = ((16 : Nat) : Int) from rfl, may_nat (mayN_lt hl (by decide)) (by decide),
    o8_nat (by omega) (by omega) (by have := mayN_lt (c := r1) (k := 16) (mayN_lt (c := r0) (k := 8) hl (by decide)) (by decide); omega)]
  rw [Int.toNat_natCast]
  congr 1
  cases r0 <;> cases r1 <;> cases ra <;> simp only [mayN, cond_true, cond_false, Nat.or_assoc, Nat.or_zero, Nat.zero_or, Nat.reduceOr]

/-- the timers, and what is requested, behind i ticks -/
def At (σ : Sig) (i : Int) : Prop := σ.ival 56 = tkC (σ.ival 27) (σ.ival 28) (σ.ival 29) i ∧ σ.ival 57 = σ.ival 28 ∧ σ.ival 58 = tkT (σ.ival 27) (σ.ival 28) (σ.ival 29) i
  ∧ σ.ival 59 = tkC (σ.ival 30) (σ.ival 31) (σ.ival 32) i ∧ σ.ival 60 = σ.ival 31 ∧ σ.ival 61 = tkT (σ.ival 30) (σ.ival 31) (σ.ival 32) i
  ∧ ∃ ra : Bool, σ.ival 2 = askI ra ∧ σ.ival 62 = may3 (σ.ival 34) (decide (tkK (σ.ival 27) (σ.ival 28) (σ.ival 29) i > 0)) (decide (tkK (σ.ival 30) (σ.ival 31) (σ.ival 32) i > 0)) ra
def J (σ : Sig) : Prop := 0 ≤ σ.ival 0 ∧ σ.ival 0 ≤ σ.ival 1 % 101 ∧ At σ (σ.ival 0)
def K (σ : Sig) : Prop := At σ (σ.ival 1 % 101)
theorem At_agree (σ τ : Sig) (ag : Agree 63 σ τ) (i : Int) (h : At σ i) : At τ i := by
  have v : ∀ i, i < 63 → τ.ival i = σ.ival i := fun i hi => (ag.val i hi).1.symm
  unfold At
  rw [v 2 (by decide), v 27 (by decide), v 28 (by decide), v 29 (by decide), v 30 (by decide), v 31 (by decide), v 32 (by decide), v 34 (by decide), v 56 (by decide), v 57 (by decide), v 58 (by decide), v 59 (by decide), v 60 (by decide), v 61 (by decide), v 62 (by decide)]
  exact h
theorem J_agree (σ τ : Sig) (ag : Agree 63 σ τ) (h : J σ) : J τ := by
  have v : ∀ i, i < 63 → τ.ival i = σ.ival i := fun i hi => (ag.val i hi).1.symm
  unfold J
  rw [v 0 (by decide), v 1 (by decide)]
  exact ⟨h.1, h.2.1, At_agree σ τ ag _ h.2.2⟩
theorem K_agree (σ τ : Sig) (ag : Agree 63 σ τ) (h : K σ) : K τ := by
  have v : ∀ i, i < 63 → τ.ival i = σ.ival i := fun i hi => (ag.val i hi).1.symm
  unfold K
  rw [v 1 (by decide)]
  exact At_agree σ τ ag _ h

/-- one tick of a timer, more -/
theorem one_more {c p t i : Int} (w0 : IntKind.u16.wrap c = c) (w1 : IntKind.u16.wrap p = p) (w2 : IntKind.u16.wrap t = t) (h0 : 0 ≤ i) (h1 : i ≤ 200) :
    IntKind.u16.wrap (tkC (tkC c p t i) p (tkT c p t i) 1) = tkC c p t (i + 1) ∧ IntKind.u16.wrap (tkT (tkC c p t i) p (tkT c p t i) 1) = tkT c p t (i + 1)
    ∧ decide (tkK c p t (i + 1) > 0) = (decide (tkK c p t i > 0) || decide (IntKind.i64.wrap (tkK (tkC c p t i) p (tkT c p t i) 1) > 0)) := by
  obtain ⟨c0, c1⟩ := u16_range w0
  obtain ⟨p0, p1⟩ := u16_range w1
  obtain ⟨t0, t1⟩ := u16_range w2
  obtain ⟨r0, r1⟩ := tkC_range (t := t) (n := i) c0 c1 p0 p1 h0 (by omega)
  obtain ⟨x1, x2, x3⟩ := add_all (t := t) (n := i) (m := 1) c0 c1 p0 p1 t0 t1 h0 (by decide) (by omega)
  have k1 := one_K (c := tkC c p t i) (p := p) (t := tkT c p t i) r0 r1 p0 p1
  obtain ⟨g0, g1⟩ := tkK_range (t := t) (n := i) c0 c1 p0 p1 h0 (by omega)
  refine ⟨?_, ?_, ?_⟩
  · rw [← x1]; exact wrC (wrC w0)
  · rw [← x2]; exact wrT (wrT w2)
  · rw [wrK, ← x3]
    rcases k1 with k | k <;> rw [k] <;> by_cases h : tkK c p t i > 0 <;> simp <;> omega

theorem askB (c p t : Int) : (!((tabOf btFs) 579 [c, p, t] == 0)) = decide (IntKind.i64.wrap (tkK c p t 1) > 0) := by
  show (!((if IntKind.i64.wrap (tkK c p t 1) > 0 then 1 else 0 : Int) == 0)) = _
  by_cases h : IntKind.i64.wrap (tkK c p t 1) > 0
  · rw [if_pos h, decide_eq_true h]; rfl
  · rw [if_neg h, decide_eq_false h]; rfl

set_option maxRecDepth 100000 in
theorem btB_ob (τ : Sig) (e : Eqs τ 63 btBX.G) (ht : τ.tab = tabOf btFs) (hin : InsOk τ 63 btK) (hj : J τ) :
    segsW τ (fun x s σ2 => (x = .normal ∧ s = btS1 ∧ InsOk σ2 63 btK ∧ J σ2 ∧ σ2.tab = tabOf btFs ∧ (fun σ : Sig => (σ.ival 1 % 101 - σ.ival 0).toNat) σ2 < (fun σ : Sig => (σ.ival 1 % 101 - σ.ival 0).toNat) τ) ∨ (x = .exit (idOf (bodyOf Try.f9)) ∧ s = btS2 ∧ InsOk σ2 btCX.m btK2 ∧ K σ2 ∧ σ2.tab = tabOf btFs)
      ∨ (x = .ret ∧ s = btSE ∧ OutOk σ2 [.one .b] (packA [.symb 0]) [1])) btBW [] := by
  obtain ⟨j0, j1, t0, t1, t2, t3, t4, t5, ra, a2, a62⟩ := hj
  have w27 : IntKind.u16.wrap (τ.ival 27) = τ.ival 27 := hin 27 .u16 (by decide) rfl
  have w28 : IntKind.u16.wrap (τ.ival 28) = τ.ival 28 := hin 28 .u16 (by decide) rfl
  have w29 : IntKind.u16.wrap (τ.ival 29) = τ.ival 29 := hin 29 .u16 (by decide) rfl
  have w30 : IntKind.u16.wrap (τ.ival 30) = τ.ival 30 := hin 30 .u16 (by decide) rfl
  have w31 : IntKind.u16.wrap (τ.ival 31) = τ.ival 31 := hin 31 .u16 (by decide) rfl
  have w32 : IntKind.u16.wrap (τ.ival 32) = τ.ival 32 := hin 32 .u16 (by decide) rfl
  obtain ⟨p0, p1⟩ := u8r (hin 34 .u8 (by decide) rfl)
  obtain ⟨n0, n1⟩ := u8r (hin 1 .u8 (by decide) rfl)
  have e63 : τ.ival 63 = ((τ.ival 1 : Int).tmod (101)) := eqI (e.at 0 _ rfl rfl) rfl
  have e64 : τ.ival 64 = IntKind.i64.wrap (τ.ival 63) := eqI (e.at 1 _ rfl rfl) rfl
  have e65 : τ.bval 65 = decide (τ.ival 0 < τ.ival 64) := eqB (e.at 2 _ rfl rfl) rfl
  have e66 : τ.ival 66 = IntKind.u16.wrap (τ.tab 576 [τ.ival 56, τ.ival 57, τ.ival 58]) := eqI (e.at 3 _ rfl rfl) rfl
  have e67 : τ.ival 67 = IntKind.u16.wrap (τ.tab 577 [τ.ival 56, τ.ival 57, τ.ival 58]) := eqI (e.at 4 _ rfl rfl) rfl
  have e68 : τ.ival 68 = IntKind.u16.wrap (τ.tab 578 [τ.ival 56, τ.ival 57, τ.ival 58]) := eqI (e.at 5 _ rfl rfl) rfl
  have e69 : τ.bval 69 = (!(τ.tab 579 [τ.ival 56, τ.ival 57, τ.ival 58] == 0)) := eqB (e.at 6 _ rfl rfl) rfl
  have e70 : τ.ival 70 = IntKind.u8.wrap (BitVec.ofInt IntKind.u8.bits (τ.ival 62) ||| BitVec.ofInt IntKind.u8.bits (8)).toNat := eqI (e.at 7 _ rfl rfl) rfl
  have e71 : τ.ival 71 = (bif τ.bval 69 then τ.ival 70 else τ.ival 62) := eqIteI (e.at 8 _ rfl rfl) rfl rfl rfl
  have e72 : τ.ival 72 = IntKind.u16.wrap (τ.tab 576 [τ.ival 59, τ.ival 60, τ.ival 61]) := eqI (e.at 9 _ rfl rfl) rfl
  have e73 : τ.ival 73 = IntKind.u16.wrap (τ.tab 577 [τ.ival 59, τ.ival 60, τ.ival 61]) := eqI (e.at 10 _ rfl rfl) rfl
  have e74 : τ.ival 74 = IntKind.u16.wrap (τ.tab 578 [τ.ival 59, τ.ival 60, τ.ival 61]) := eqI (e.at 11 _ rfl rfl) rfl
  have e75 : τ.bval 75 = (!(τ.tab 579 [τ.ival 59, τ.ival 60, τ.ival 61] == 0)) := eqB (e.at 12 _ rfl rfl) rfl
  have e76 : τ.ival 76 = IntKind.u8.wrap (BitVec.ofInt IntKind.u8.bits (τ.ival 71) ||| BitVec.ofInt IntKind.u8.bits (16)).toNat := eqI (e.at 13 _ rfl rfl) rfl
  have e77 : τ.ival 77 = (bif τ.bval 75 then τ.ival 76 else τ.ival 71) := eqIteI (e.at 14 _ rfl rfl) rfl rfl rfl
  have e102 : τ.ival 102 = IntKind.u8.wrap (BitVec.ofInt IntKind.u8.bits (τ.ival 77) ||| BitVec.ofInt IntKind.u8.bits (4)).toNat := eqI (e.at 39 _ rfl rfl) rfl
  have e103 : τ.ival 103 = (bif τ.bval 101 then τ.ival 102 else τ.ival 77) := eqIteI (e.at 40 _ rfl rfl) rfl rfl rfl
  have e104 : τ.ival 104 = IntKind.u8.wrap (BitVec.ofInt IntKind.u8.bits (τ.ival 2) ||| BitVec.ofInt IntKind.u8.bits (4)).toNat := eqI (e.at 41 _ rfl rfl) rfl
  have e105 : τ.ival 105 = (bif τ.bval 101 then τ.ival 104 else τ.ival 2) := eqIteI (e.at 42 _ rfl rfl) rfl rfl rfl
  have e106 : τ.ival 106 = IntKind.i64.wrap (τ.ival 0 + 1) := eqI (e.at 43 _ rfl rfl) rfl
  have e64 : τ.ival 64 = τ.ival 1 % 101 := by
    rw [e64, e63, Int.tmod_eq_emod_of_nonneg n0]; exact w64 (by omega) (by omega)
  rw [e64] at e65
  rw [t0, t1, t2, ht] at e66 e67 e68 e69
  rw [t3, t4, t5, ht] at e72 e73 e74 e75
  rw [askB] at e69 e75
  obtain ⟨u1, u2, u3⟩ := one_more (i := τ.ival 0) w27 w28 w29 j0 (by omega)
  obtain ⟨v1, v2, v3⟩ := one_more (i := τ.ival 0) w30 w31 w32 j0 (by omega)
  have e106 : τ.bval 65 = true → τ.ival 106 = τ.ival 0 + 1 := by
    intro h; rw [e65, decide_eq_true_eq] at h; rw [e106]; exact w64 (by omega) (by omega)
  refine ⟨fun hF => .inl ⟨rfl, rfl, insOk_asg e hin 12 (by kernel_rfl), ?_, ht, ?_⟩, fun hF => .inr (.inl ⟨congrArg SEx.exit hidOf.symm, rfl, insOk_asg e hin 12 (by kernel_rfl), ?_, ht⟩)⟩
  · have h65 : τ.bval 65 = true := hF.1
    have e106 := e106 h65
    rw [e65, decide_eq_true_eq] at h65
    refine ⟨?_, ?_, ?_, ?_, ?_, ?_, ?_, ?_, (ra || τ.bval 101), ?_, ?_⟩
    · show 0 ≤ τ.ival 106; omega
    · show τ.ival 106 ≤ τ.ival 1 % 101; omega
    · show τ.ival 66 = tkC (τ.ival 27) (τ.ival 28) (τ.ival 29) (τ.ival 106); rw [e106, e66, ← u1]; rfl
    · show τ.ival 67 = τ.ival 28; rw [e67]; exact w28
    · show τ.ival 68 = tkT (τ.ival 27) (τ.ival 28) (τ.ival 29) (τ.ival 106); rw [e106, e68, ← u2]; rfl
    · show τ.ival 72 = tkC (τ.ival 30) (τ.ival 31) (τ.ival 32) (τ.ival 106); rw [e106, e72, ← v1]; rfl
    · show τ.ival 73 = τ.ival 31; rw [e73]; exact w31
    · show τ.ival 74 = tkT (τ.ival 30) (τ.ival 31) (τ.ival 32) (τ.ival 106); rw [e106, e74, ← v2]; rfl
    · show τ.ival 105 = _
      rw [← ask_step, ← a2, e105, e104]; rfl
    · show τ.ival 103 = may3 (τ.ival 34) (decide (tkK (τ.ival 27) (τ.ival 28) (τ.ival 29) (τ.ival 106) > 0)) (decide (tkK (τ.ival 30) (τ.ival 31) (τ.ival 32) (τ.ival 106) > 0)) _
      rw [e106, u3, v3, ← may3_step p0 p1, ← a62, e103, e102, e77, e76, e71, e70, e69, e75]; rfl
  · have h65 : τ.bval 65 = true := hF.1
    have e106 := e106 h65
    rw [e65, decide_eq_true_eq] at h65
    show (τ.ival 1 % 101 - τ.ival 106).toNat < (τ.ival 1 % 101 - τ.ival 0).toNat
    omega
  · have h65 : τ.bval 65 = false := hF.1
    rw [e65, decide_eq_false_iff_not] at h65
    have hi : τ.ival 1 % 101 = τ.ival 0 := by omega
    show At _ (τ.ival 1 % 101)
    rw [hi]
    exact ⟨t0, t1, t2, t3, t4, t5, ra, a2, a62⟩

set_option maxRecDepth 100000 in
theorem btC_ob (τ : Sig) (e : Eqs τ 63 btCX.G) (ht : τ.tab = tabOf btFs) (hin : InsOk τ 63 btK2) (hk : K τ) :
    segsW τ (fun x s σ2 => (x = .ret ∨ x = .normal) ∧ s = btSE ∧ OutOk σ2 [.one .b] (packA [.symb 0]) [1]) btCW [] := by
  obtain ⟨t0, t1, t2, t3, t4, t5, ra, a2, a62⟩ := hk
  have w27 : IntKind.u16.wrap (τ.ival 27) = τ.ival 27 := hin 27 .u16 (by decide) rfl
  have w28 : IntKind.u16.wrap (τ.ival 28) = τ.ival 28 := hin 28 .u16 (by decide) rfl
  have w29 : IntKind.u16.wrap (τ.ival 29) = τ.ival 29 := hin 29 .u16 (by decide) rfl
  have w30 : IntKind.u16.wrap (τ.ival 30) = τ.ival 30 := hin 30 .u16 (by decide) rfl
  have w31 : IntKind.u16.wrap (τ.ival 31) = τ.ival 31 := hin 31 .u16 (by decide) rfl
  have w32 : IntKind.u16.wrap (τ.ival 32) = τ.ival 32 := hin 32 .u16 (by decide) rfl
  obtain ⟨p0, p1⟩ := u8r (hin 34 .u8 (by decide) rfl)
  obtain ⟨n0, n1⟩ := u8r (hin 1 .u8 (by decide) rfl)
  have e63 : τ.ival 63 = ((τ.ival 1 : Int).tmod (101)) := eqI (e.at 0 _ rfl rfl) rfl
  have e64 : τ.ival 64 = IntKind.i64.wrap (τ.ival 63) := eqI (e.at 1 _ rfl rfl) rfl
  have e65 : τ.ival 65 = IntKind.u16.wrap (τ.tab 896 [τ.ival 27, τ.ival 28, τ.ival 29, τ.ival 64]) := eqI (e.at 2 _ rfl rfl) rfl
  have e66 : τ.ival 66 = IntKind.u16.wrap (τ.tab 897 [τ.ival 27, τ.ival 28, τ.ival 29, τ.ival 64]) := eqI (e.at 3 _ rfl rfl) rfl
  have e67 : τ.ival 67 = IntKind.u16.wrap (τ.tab 898 [τ.ival 27, τ.ival 28, τ.ival 29, τ.ival 64]) := eqI (e.at 4 _ rfl rfl) rfl
  have e68 : τ.ival 68 = IntKind.i64.wrap (τ.tab 899 [τ.ival 27, τ.ival 28, τ.ival 29, τ.ival 64]) := eqI (e.at 5 _ rfl rfl) rfl
  have e69 : τ.bval 69 = ((τ.ival 56 == τ.ival 65) && ((τ.ival 57 == τ.ival 66) && ((τ.ival 58 == τ.ival 67) && true))) := eqB (e.at 6 _ rfl rfl) rfl
  have e70 : τ.bval 70 = (!τ.bval 69) := eqB (e.at 7 _ rfl rfl) rfl
  have e71 : τ.bval 71 = decide (τ.ival 68 > 0) := eqB (e.at 8 _ rfl rfl) rfl
  have e72 : τ.ival 72 = IntKind.u8.wrap (BitVec.ofInt IntKind.u8.bits (τ.ival 2) ||| BitVec.ofInt IntKind.u8.bits (8)).toNat := eqI (e.at 9 _ rfl rfl) rfl
  have e73 : τ.ival 73 = (bif τ.bval 71 then τ.ival 72 else τ.ival 2) := eqIteI (e.at 10 _ rfl rfl) rfl rfl rfl
  have e74 : τ.ival 74 = IntKind.u16.wrap (τ.tab 896 [τ.ival 30, τ.ival 31, τ.ival 32, τ.ival 64]) := eqI (e.at 11 _ rfl rfl) rfl
  have e75 : τ.ival 75 = IntKind.u16.wrap (τ.tab 897 [τ.ival 30, τ.ival 31, τ.ival 32, τ.ival 64]) := eqI (e.at 12 _ rfl rfl) rfl
  have e76 : τ.ival 76 = IntKind.u16.wrap (τ.tab 898 [τ.ival 30, τ.ival 31, τ.ival 32, τ.ival 64]) := eqI (e.at 13 _ rfl rfl) rfl
  have e77 : τ.ival 77 = IntKind.i64.wrap (τ.tab 899 [τ.ival 30, τ.ival 31, τ.ival 32, τ.ival 64]) := eqI (e.at 14 _ rfl rfl) rfl
  have e78 : τ.bval 78 = ((τ.ival 59 == τ.ival 74) && ((τ.ival 60 == τ.ival 75) && ((τ.ival 61 == τ.ival 76) && true))) := eqB (e.at 15 _ rfl rfl) rfl
  have e79 : τ.bval 79 = (!τ.bval 78) := eqB (e.at 16 _ rfl rfl) rfl
  have e80 : τ.bval 80 = decide (τ.ival 77 > 0) := eqB (e.at 17 _ rfl rfl) rfl
  have e81 : τ.ival 81 = IntKind.u8.wrap (BitVec.ofInt IntKind.u8.bits (τ.ival 73) ||| BitVec.ofInt IntKind.u8.bits (16)).toNat := eqI (e.at 18 _ rfl rfl) rfl
  have e82 : τ.ival 82 = (bif τ.bval 80 then τ.ival 81 else τ.ival 73) := eqIteI (e.at 19 _ rfl rfl) rfl rfl rfl
  have e83 : τ.ival 83 = IntKind.u8.wrap (BitVec.ofInt IntKind.u8.bits (τ.ival 34) ||| BitVec.ofInt IntKind.u8.bits (τ.ival 82)).toNat := eqI (e.at 20 _ rfl rfl) rfl
  have e84 : τ.bval 84 = (τ.ival 62 == τ.ival 83) := eqB (e.at 21 _ rfl rfl) rfl
  have e64 : τ.ival 64 = τ.ival 1 % 101 := by
    rw [e64, e63, Int.tmod_eq_emod_of_nonneg n0]; exact w64 (by omega) (by omega)
  rw [e64, ht] at e65 e66 e67 e68 e74 e75 e76 e77
  have f65 : τ.ival 65 = τ.ival 56 := by rw [e65, t0]; exact wrC w27
  have f66 : τ.ival 66 = τ.ival 57 := by rw [e66, t1]; exact w28
  have f67 : τ.ival 67 = τ.ival 58 := by rw [e67, t2]; exact wrT w29
  have f68 : τ.ival 68 = tkK (τ.ival 27) (τ.ival 28) (τ.ival 29) (τ.ival 1 % 101) := by rw [e68]; exact wrK
  have f74 : τ.ival 74 = τ.ival 59 := by rw [e74, t3]; exact wrC w30
  have f75 : τ.ival 75 = τ.ival 60 := by rw [e75, t4]; exact w31
  have f76 : τ.ival 76 = τ.ival 61 := by rw [e76, t5]; exact wrT w32
  have f77 : τ.ival 77 = tkK (τ.ival 30) (τ.ival 31) (τ.ival 32) (τ.ival 1 % 101) := by rw [e77]; exact wrK
  have c70 : τ.bval 70 = false := by rw [e70, e69, f65, f66, f67]; simp
  have c79 : τ.bval 79 = false := by rw [e79, e78, f74, f75, f76]; simp
  have c84 : τ.bval 84 = true := by
    rw [e84, a62, last p0 p1, e83, e82, e81, e80, e73, e72, e71, f68, f77, ← a2]
    exact beq_self_eq_true _
  refine ⟨fun hF => Bool.noConfusion (c70.symm.trans hF.1), ⟨fun hF => Bool.noConfusion (c79.symm.trans hF.1), fun hF => ⟨.inl rfl, rfl, congrArg AVal.bool c84, trivial⟩⟩⟩

set_option maxRecDepth 100000 in
theorem walk (W : World) (v0 : Value) (X0 : Fz) (r0 : RowV W [.i .u8, .i .i8, .i .i32] v0 X0) (n1 : Int) (i1 : InR [.i .u8] [n1]) :
    Calls Try.prog 9 #[v0, encC (.i .u8) n1] W fun e W' => e = .returned (.bool true) ∧ Below W.heap.size W W' := by
  have he : InR b32c (playedF X0) := by
    have : InR (b32c ++ []) (playedF X0) := (played_fn W v0 X0 r0).1
    simpa using this
  exact row_loop (q := 63) (insq := btK) (ins2 := btK2) (ss := [.one (.i .u8)]) (ecl := b32c) (S1 := btS1) (S2 := btS2) (SE := btSE) (XA := btAX (rowInv X0 33 ([n1] ++ playedF X0))) (WA := btAW) (J := J) (K := K) (μ := fun σ => (σ.ival 1 % 101 - σ.ival 0).toNat) (vs := [.symb 0]) (tab := tabOf btFs) (l := [n1]) (e := playedF X0) (n := 118)
    fc.mixed Try.func9 (by kernel_rfl) (by kernel_rfl) (by kernel_rfl) (by simp [encS]) ⟨rfl, rfl, rfl, rfl, rfl, rfl, rfl⟩ rfl rfl
    (fun F => bt_hooksA (l := [n1]) r0 rfl rfl rfl rfl rfl F)
    (by kernel_rfl) (by kernel_rfl) (btA_reck _) (by kernel_rfl) btB_seg ⟨rfl, rfl, rfl⟩ btC_seg ⟨rfl, rfl⟩ ⟨i1.1, rfl⟩ he J_agree K_agree
    (fun σ τ ag => by rw [(ag.val 1 (by decide)).1, (ag.val 0 (by decide)).1])
    (fun τ e ht hin hv _ => by
      obtain ⟨n0, n1'⟩ := u8r (hin 0 .u8 (show 0 < 33 by decide) rfl)
      refine ⟨rfl, rfl, insOk_asg e hin 12 (by kernel_rfl), ⟨Int.le_refl _, ?_, ?_, rfl, ?_, ?_, rfl, ?_, false, rfl, ?_⟩, ht⟩
      · show (0 : Int) ≤ τ.ival 0 % 101; omega
      · rfl
      · rfl
      · rfl
      · rfl
      · rfl)
    btB_ob btC_ob r0

section
variable {H : Type} {enc : TypeId × Value → H} {P : Program}
theorem post_of_below {f : Func} {s : ChangeSpec} {apart fresh handsOn again : Bool} {W W' : World} {args : Array Value} {v : Value} {ds gs : List (DataW H)} {before pa pv : List MemPlace}
    (hW : DataW.Whole enc P f.params.toList s.vars apart W args.toList ds gs before)
    (hres : ∀ (b : Nat) (sp : Nat → Bool) (hd : Bool), DataW.TrodAll enc P W' b sp hd f.resultTypes.toList (v.resultList f.resultTypes.size) (s.fn H (ds ++ gs)).results [])
    (hargs : ∀ sp : Nat → Bool, (∀ p ∈ before, sp p.block = true) → DataW.TrodAll enc P W' 0 sp true f.params.toList args.toList (s.fn H (ds ++ gs)).args pa)
    (hvars : ∀ sp : Nat → Bool, (∀ p ∈ before, sp p.block = true) → DataW.TrodVars enc P W' sp s.vars (s.fn H (ds ++ gs)).vars pv)
    (hps : before = pa ++ pv) (hb : Below W.heap.size W W')
    (hok : ∀ (j : Nat) (t : TypeId) (r : Value), f.resultTypes[j]? = some t → (v.resultList f.resultTypes.size)[j]? = some r → Value.okWide P W' .any 0 t r) :
    s.post enc P f apart fresh handsOn again W args v W' := by
  have hlt : ∀ p ∈ before, p.block < W.heap.size := fun p hp => hW.lt p hp
  have hold : ∀ p ∈ before, (fun b => decide (b < W.heap.size)) p.block = true := fun p hp => by simpa using hlt p hp
  refine ⟨ds, gs, before, [], pa, pv, hW, hres _ _ _, hargs _ hold, hvars _ hold, World.keptBut_mono (fun p hp => ⟨hp, ?_⟩) (hb.frame (· ∈ before)), fun _ => ?_⟩
  · rw [hps, List.mem_append] at hp
    exact Or.inr hp
  · obtain ⟨_, _, _, _, _, hz, hn⟩ := hW
    refine ⟨hok, _, _, ([] ++ pa) ++ pv, ⟨[] ++ pa, pv, trodAll_append (hargs _ (fun _ _ => rfl)) (hres _ _ _), hvars _ (fun _ _ => rfl), rfl, ?_, ?_⟩, ?_⟩
    · intro b off hp
      have hin : MemPlace.cell b off ∈ before := by rw [hps]; simpa using hp
      rw [hb.frozen (hlt _ hin)]
      exact hz b off hin
    · intro ha
      have := hn ha
      rw [hps] at this
      simpa using this
    · intro p hp _
      rw [hps]
      simpa using hp
end


theorem size60 : Nat.beq (Try.prog.cellsOf 60) ([.i .u8, .i .i8, .i .i32] : List Cl).length = true := by kernel_rfl
theorem flat60 : flat Try.prog 4 60 = some [.i .u8, .i .i8, .i .i32] := by kernel_rfl
theorem agg5 : Ev.isAgg Try.prog 5 = false := by kernel_rfl
theorem flat5 : flat Try.prog 4 5 = some [.i .u8] := by kernel_rfl

set_option maxRecDepth 100000 in
theorem lifted (os : Os) (started : os.Started) (H : Type) (enc : TypeId × Value → H) :
    ReturnsInHanded {} Try.checked os 9 .any (Rows.bankTicksSpec.pre6 enc Try.prog Try.f9 Rows.bankTicksRow.domain false) (Rows.bankTicksSpec.post enc Try.prog Try.f9 false true false false) := by
  refine returnsInHanded_of_change (C := Try.checked) own started (by kernel_rfl) Try.func9
    (ChangeSpec.witness6 (enc := enc) (C := Try.checked) false ⟨#[], #[.slice none 0 0, .int .u8 0], []⟩ 8 (by kernel_rfl) (by kernel_rfl) (by kernel_rfl) (by kernel_rfl)) ?_
  intro W base args ds gs before hval0 hW hcnd _
  have hval : ∀ (j : Nat) t v, Try.f9.params[j]? = some t → args[j]? = some v → Value.okWide Try.prog W .any base t v := hval0
  have hW' := hW
  obtain ⟨p, q, hA0, hV, rfl, hfz, hnd⟩ := hW
  have hA : DataW.TrodAll enc Try.prog W 0 (fun _ => true) true Try.f9.params.toList args.toList ds p := hA0
  rw [Try.params9] at hA hval
  obtain ⟨v0, vs0, d0, ds0, p0, q0, hargs, rfl, rfl, h0, r0⟩ := trodAll_cons hA
  obtain ⟨v1, vs1, d1, ds1, p1, q1, rfl, rfl, rfl, h1, r1⟩ := trodAll_cons r0
  obtain ⟨rfl, rfl, rfl⟩ := trodAll_nil r1
  obtain rfl : args = #[v0, v1] := by cases args; simp_all
  obtain ⟨rfl, rfl⟩ := trodVars_none hV
  obtain ⟨X0, R0⟩ := open_rows (cl := [.i .u8, .i .i8, .i .i32]) Try.underlying57 flat60 size60 rfl (hval 0 57 v0 rfl rfl) h0
  obtain ⟨n1, i1, rfl, rfl⟩ := open_one flat5 agg5 (hval 1 5 v1 rfl rfl) h1
  clear hA0 hval0
  simp only [List.append_nil] at hW'
  refine (walk W v0 X0 R0.row n1 i1).mono fun e W' ⟨he, hg⟩ => ?_
  subst he
  exact ⟨_, rfl, post_of_below (pa := p0 ++ ([] ++ ([]))) (pv := []) hW' (fun _ _ _ => (trodAll_cons_mk (shut_bool Try.underlying4 _) trodAll_mk0)) (fun sp hsp => (trodAll_cons_mk (R0.again W' hg sp (fun z hz => hsp z (by simp [hz]))) (trodAll_cons_mk (shut_flat flat5 h1) trodAll_mk0))) (fun _ _ => rfl) (by simp)
    hg (ok_one (by kernel_rfl) rfl (okWide_bool_mk Try.underlying4 _))⟩

theorem over : Rows.bankTicksRow.holds Try.pinned (OpenSpec.ofChange Rows.bankTicksSpec) :=
  OpenClaim.holds_of_wide 9 Try.f9 rfl rfl rfl rfl rfl rfl rfl ⟨rfl, rfl, rfl, rfl, rfl⟩ rfl rfl rfl rfl rfl (by kernel_rfl) Try.func9 (by kernel_rfl)
    (of_decide_eq_true (by kernel_rfl)) (by unfold Func.isWrapper; first | (rw [if_pos (by decide +kernel)]; kernel_rfl) | (rw [if_neg (by decide +kernel)]; exact ⟨rfl, rfl⟩))
    (fun os started H enc _ => lifted os started H enc)

/-- THE STATEMENT -/
theorem proved : Rows.BankTicksSaid :=
  over
#print axioms proved
end Go.Proofs.Ytgifnmiggloclab.bankTicks
