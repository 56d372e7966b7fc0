/-
  UartOrder is true: a walk over the row of acts; the queues' lengths are the shape, 100 of them.
  No conditions.
-/
import Derived.Test.YtgifnmiggloclabRows
import Derived.WalkKit
import Derived.ProofKit
import Derived.OpenShut
import Derived.Below
import Derived.ChangeSame
import Derived.Test.YtgifnmiggloclabUok
import Derived.Test.YtgifnmiggloclabUoa
import Derived.Test.YtgifnmiggloclabUob
import Derived.Test.YtgifnmiggloclabUoc
import Derived.Test.YtgifnmiggloclabUod
import Derived.Test.YtgifnmiggloclabUoe
namespace Go.Proofs.Ytgifnmiggloclab.uartOrder
open Go.ChangeShapes Go.WideShapes Go.ChangeAt Go.RowKit
open Go.Ev Go.Proofs.Ytgifnmiggloclab.fc Go.Proofs.Ytgifnmiggloclab.uc Go.Proofs.Ytgifnmiggloclab.us Go.Proofs.Ytgifnmiggloclab.uo
set_option linter.unusedVariables false
set_option linter.unusedSimpArgs false

theorem own : ownKnob Try.prog.godebug = none := by kernel_rfl
theorem works_run : isTrue ((evD Try.prog (cxOf noIng) true 1000 40).1 [] 19 [] ⟨[], []⟩) = true := by kernel_rfl
theorem works_contract : FnOk Try.prog 19 [] [.one .b] (fun _ => [1]) := fun l hl w => closed_hook ⟨rfl, rfl, rfl, rfl, rfl, rfl⟩ (hm := mixed) (hh := fun F => no_hooks rfl F) (h := works_run) (w := w)
theorem uo_tru : ∀ e, e ∈ uoTru → FnOk Try.prog e.f e.ins [.one .b] (fun _ => [1]) := by
  intro e he
  simp only [uoTru, List.mem_cons, List.not_mem_nil, or_false] at he
  subst he
  exact works_contract
theorem uo_sym : ∀ e, e ∈ uoSym → SymOk Try.prog e := by
  intro e he
  simp only [uoSym, List.mem_cons, List.not_mem_nil, or_false] at he
  rcases he with rfl | rfl | rfl | rfl | rfl
  · exact mend_sym
  · exact push_sym
  · exact pop_sym
  · exact umend_sym
  · exact peek_sym

set_option maxRecDepth 100000 in
def uoAG : List SDef := []

def uoAT : LT := .e

set_option maxRecDepth 100000 in
def uoAW : Sw := .run (.leaf .normal (uoS (uoO 9) (uoO 9)) [(0, 0)] [(2, .int .u8 0), (3, .bool false), (0, .int .i64 0), (3, .bool false), (2, .int .u8 0)] [(1, .symi .i64 0)])
def uoAKd : KdT := .n .e (some .i64) .e
set_option maxRecDepth 100000 in
def uoCG : List SDef := []

def uoCT : LT := .e

set_option maxRecDepth 100000 in
def uoCW : Sw := .run (.leaf .ret uoSE [] [(0, .bool true)] [])
def uoCKd : KdT := .e
def uoAX : Ing := { m := 1, ins := [some .i64], G := uoAG, T := uoAT, hook := orHook (symHook uoSym) (trueHook uoTru), rows := [⟨.symi .i64 0, []⟩] }
theorem uoA_ok : okG uoAG 1 = true := by kernel_rfl
theorem uoA_lt : okLT 1 uoAG uoAT = true := by kernel_rfl
theorem uoA_seg : SegOk Try.prog noTab 221 (preOf (bodyOf Try.f4)) uoS0 uoAX uoAW where
  lt := uoA_lt
  ok := uoA_ok
  hook := fun F => sym_true_hooks uoA_lt rfl uo_sym uo_tru F
  n0 := rfl
  id := by kernel_rfl
  reck := by kernel_rfl
  tab := rfl
  cuts := rfl
def uoCX : Ing := { m := 0, ins := [], G := uoCG, T := uoCT, hook := orHook (symHook uoSym) (trueHook uoTru), rows := [] }
theorem uoC_ok : okG uoCG 0 = true := by kernel_rfl
theorem uoC_lt : okLT 0 uoCG uoCT = true := by kernel_rfl
theorem uoC_seg : SegOk Try.prog noTab 221 (postOf (bodyOf Try.f4)) uoS2 uoCX uoCW where
  lt := uoC_lt
  ok := uoC_ok
  hook := fun F => sym_true_hooks uoC_lt rfl uo_sym uo_tru F
  n0 := rfl
  id := by kernel_rfl
  reck := by kernel_rfl
  tab := rfl
  cuts := rfl
def uoW0q : Nat → Uw
  | 0 => uoW00
  | 1 => uoW01
  | 2 => uoW02
  | 3 => uoW03
  | 4 => uoW04
  | 5 => uoW05
  | 6 => uoW06
  | 7 => uoW07
  | 8 => uoW08
  | 9 => uoW0n
  | _ => .dead
def uoW1q : Nat → Uw
  | 0 => uoW10
  | 1 => uoW11
  | 2 => uoW12
  | 3 => uoW13
  | 4 => uoW14
  | 5 => uoW15
  | 6 => uoW16
  | 7 => uoW17
  | 8 => uoW18
  | 9 => uoW1n
  | _ => .dead
def uoW2q : Nat → Uw
  | 0 => uoW20
  | 1 => uoW21
  | 2 => uoW22
  | 3 => uoW23
  | 4 => uoW24
  | 5 => uoW25
  | 6 => uoW26
  | 7 => uoW27
  | 8 => uoW28
  | 9 => uoW2n
  | _ => .dead
def uoW3q : Nat → Uw
  | 0 => uoW30
  | 1 => uoW31
  | 2 => uoW32
  | 3 => uoW33
  | 4 => uoW34
  | 5 => uoW35
  | 6 => uoW36
  | 7 => uoW37
  | 8 => uoW38
  | 9 => uoW3n
  | _ => .dead
def uoW4q : Nat → Uw
  | 0 => uoW40
  | 1 => uoW41
  | 2 => uoW42
  | 3 => uoW43
  | 4 => uoW44
  | 5 => uoW45
  | 6 => uoW46
  | 7 => uoW47
  | 8 => uoW48
  | 9 => uoW4n
  | _ => .dead
def uoW5q : Nat → Uw
  | 0 => uoW50
  | 1 => uoW51
  | 2 => uoW52
  | 3 => uoW53
  | 4 => uoW54
  | 5 => uoW55
  | 6 => uoW56
  | 7 => uoW57
  | 8 => uoW58
  | 9 => uoW5n
  | _ => .dead
def uoW6q : Nat → Uw
  | 0 => uoW60
  | 1 => uoW61
  | 2 => uoW62
  | 3 => uoW63
  | 4 => uoW64
  | 5 => uoW65
  | 6 => uoW66
  | 7 => uoW67
  | 8 => uoW68
  | 9 => uoW6n
  | _ => .dead
def uoW7q : Nat → Uw
  | 0 => uoW70
  | 1 => uoW71
  | 2 => uoW72
  | 3 => uoW73
  | 4 => uoW74
  | 5 => uoW75
  | 6 => uoW76
  | 7 => uoW77
  | 8 => uoW78
  | 9 => uoW7n
  | _ => .dead
def uoW8q : Nat → Uw
  | 0 => uoW80
  | 1 => uoW81
  | 2 => uoW82
  | 3 => uoW83
  | 4 => uoW84
  | 5 => uoW85
  | 6 => uoW86
  | 7 => uoW87
  | 8 => uoW88
  | 9 => uoW8n
  | _ => .dead
def uoW9q : Nat → Uw
  | 0 => uoWn0
  | 1 => uoWn1
  | 2 => uoWn2
  | 3 => uoWn3
  | 4 => uoWn4
  | 5 => uoWn5
  | 6 => uoWn6
  | 7 => uoWn7
  | 8 => uoWn8
  | 9 => uoWnn
  | _ => .dead
def uoWt : Nat → Nat → Uw
  | 0 => uoW0q
  | 1 => uoW1q
  | 2 => uoW2q
  | 3 => uoW3q
  | 4 => uoW4q
  | 5 => uoW5q
  | 6 => uoW6q
  | 7 => uoW7q
  | 8 => uoW8q
  | 9 => uoW9q
  | _ => fun _ => .dead
theorem reck0 : ∀ q, q < 10 → okSw (runOf Try.prog uoX [loopOf (bodyOf Try.f4)] (uoS (uoO 0) (uoO q)) 221) (uoWt 0 q).sw [] = true
  | 0, _ => uo_r00
  | 1, _ => uo_r01
  | 2, _ => uo_r02
  | 3, _ => uo_r03
  | 4, _ => uo_r04
  | 5, _ => uo_r05
  | 6, _ => uo_r06
  | 7, _ => uo_r07
  | 8, _ => uo_r08
  | 9, _ => uo_r0n
  | q + 10, h => absurd h (by omega)
theorem reck1 : ∀ q, q < 10 → okSw (runOf Try.prog uoX [loopOf (bodyOf Try.f4)] (uoS (uoO 1) (uoO q)) 221) (uoWt 1 q).sw [] = true
  | 0, _ => uo_r10
  | 1, _ => uo_r11
  | 2, _ => uo_r12
  | 3, _ => uo_r13
  | 4, _ => uo_r14
  | 5, _ => uo_r15
  | 6, _ => uo_r16
  | 7, _ => uo_r17
  | 8, _ => uo_r18
  | 9, _ => uo_r1n
  | q + 10, h => absurd h (by omega)
theorem reck2 : ∀ q, q < 10 → okSw (runOf Try.prog uoX [loopOf (bodyOf Try.f4)] (uoS (uoO 2) (uoO q)) 221) (uoWt 2 q).sw [] = true
  | 0, _ => uo_r20
  | 1, _ => uo_r21
  | 2, _ => uo_r22
  | 3, _ => uo_r23
  | 4, _ => uo_r24
  | 5, _ => uo_r25
  | 6, _ => uo_r26
  | 7, _ => uo_r27
  | 8, _ => uo_r28
  | 9, _ => uo_r2n
  | q + 10, h => absurd h (by omega)
theorem reck3 : ∀ q, q < 10 → okSw (runOf Try.prog uoX [loopOf (bodyOf Try.f4)] (uoS (uoO 3) (uoO q)) 221) (uoWt 3 q).sw [] = true
  | 0, _ => uo_r30
  | 1, _ => uo_r31
  | 2, _ => uo_r32
  | 3, _ => uo_r33
  | 4, _ => uo_r34
  | 5, _ => uo_r35
  | 6, _ => uo_r36
  | 7, _ => uo_r37
  | 8, _ => uo_r38
  | 9, _ => uo_r3n
  | q + 10, h => absurd h (by omega)
theorem reck4 : ∀ q, q < 10 → okSw (runOf Try.prog uoX [loopOf (bodyOf Try.f4)] (uoS (uoO 4) (uoO q)) 221) (uoWt 4 q).sw [] = true
  | 0, _ => uo_r40
  | 1, _ => uo_r41
  | 2, _ => uo_r42
  | 3, _ => uo_r43
  | 4, _ => uo_r44
  | 5, _ => uo_r45
  | 6, _ => uo_r46
  | 7, _ => uo_r47
  | 8, _ => uo_r48
  | 9, _ => uo_r4n
  | q + 10, h => absurd h (by omega)
theorem reck5 : ∀ q, q < 10 → okSw (runOf Try.prog uoX [loopOf (bodyOf Try.f4)] (uoS (uoO 5) (uoO q)) 221) (uoWt 5 q).sw [] = true
  | 0, _ => uo_r50
  | 1, _ => uo_r51
  | 2, _ => uo_r52
  | 3, _ => uo_r53
  | 4, _ => uo_r54
  | 5, _ => uo_r55
  | 6, _ => uo_r56
  | 7, _ => uo_r57
  | 8, _ => uo_r58
  | 9, _ => uo_r5n
  | q + 10, h => absurd h (by omega)
theorem reck6 : ∀ q, q < 10 → okSw (runOf Try.prog uoX [loopOf (bodyOf Try.f4)] (uoS (uoO 6) (uoO q)) 221) (uoWt 6 q).sw [] = true
  | 0, _ => uo_r60
  | 1, _ => uo_r61
  | 2, _ => uo_r62
  | 3, _ => uo_r63
  | 4, _ => uo_r64
  | 5, _ => uo_r65
  | 6, _ => uo_r66
  | 7, _ => uo_r67
  | 8, _ => uo_r68
  | 9, _ => uo_r6n
  | q + 10, h => absurd h (by omega)
theorem reck7 : ∀ q, q < 10 → okSw (runOf Try.prog uoX [loopOf (bodyOf Try.f4)] (uoS (uoO 7) (uoO q)) 221) (uoWt 7 q).sw [] = true
  | 0, _ => uo_r70
  | 1, _ => uo_r71
  | 2, _ => uo_r72
  | 3, _ => uo_r73
  | 4, _ => uo_r74
  | 5, _ => uo_r75
  | 6, _ => uo_r76
  | 7, _ => uo_r77
  | 8, _ => uo_r78
  | 9, _ => uo_r7n
  | q + 10, h => absurd h (by omega)
theorem reck8 : ∀ q, q < 10 → okSw (runOf Try.prog uoX [loopOf (bodyOf Try.f4)] (uoS (uoO 8) (uoO q)) 221) (uoWt 8 q).sw [] = true
  | 0, _ => uo_r80
  | 1, _ => uo_r81
  | 2, _ => uo_r82
  | 3, _ => uo_r83
  | 4, _ => uo_r84
  | 5, _ => uo_r85
  | 6, _ => uo_r86
  | 7, _ => uo_r87
  | 8, _ => uo_r88
  | 9, _ => uo_r8n
  | q + 10, h => absurd h (by omega)
theorem reck9 : ∀ q, q < 10 → okSw (runOf Try.prog uoX [loopOf (bodyOf Try.f4)] (uoS (uoO 9) (uoO q)) 221) (uoWt 9 q).sw [] = true
  | 0, _ => uo_rn0
  | 1, _ => uo_rn1
  | 2, _ => uo_rn2
  | 3, _ => uo_rn3
  | 4, _ => uo_rn4
  | 5, _ => uo_rn5
  | 6, _ => uo_rn6
  | 7, _ => uo_rn7
  | 8, _ => uo_rn8
  | 9, _ => uo_rnn
  | q + 10, h => absurd h (by omega)
theorem reck : ∀ p q, p < 10 → q < 10 → okSw (runOf Try.prog uoX [loopOf (bodyOf Try.f4)] (uoS (uoO p) (uoO q)) 221) (uoWt p q).sw [] = true
  | 0, q, _, h => reck0 q h
  | 1, q, _, h => reck1 q h
  | 2, q, _, h => reck2 q h
  | 3, q, _, h => reck3 q h
  | 4, q, _, h => reck4 q h
  | 5, q, _, h => reck5 q h
  | 6, q, _, h => reck6 q h
  | 7, q, _, h => reck7 q h
  | 8, q, _, h => reck8 q h
  | 9, q, _, h => reck9 q h
  | p + 10, _, h, _ => absurd h (by omega)
theorem chk0 : ((List.range 10).all fun q => chkW (!Nat.beq (uoN (uoO q)) 0) (uoWt 0 q) []) = true := by kernel_rfl
theorem chk1 : ((List.range 10).all fun q => chkW (!Nat.beq (uoN (uoO q)) 0) (uoWt 1 q) []) = true := by kernel_rfl
theorem chk2 : ((List.range 10).all fun q => chkW (!Nat.beq (uoN (uoO q)) 0) (uoWt 2 q) []) = true := by kernel_rfl
theorem chk3 : ((List.range 10).all fun q => chkW (!Nat.beq (uoN (uoO q)) 0) (uoWt 3 q) []) = true := by kernel_rfl
theorem chk4 : ((List.range 10).all fun q => chkW (!Nat.beq (uoN (uoO q)) 0) (uoWt 4 q) []) = true := by kernel_rfl
theorem chk5 : ((List.range 10).all fun q => chkW (!Nat.beq (uoN (uoO q)) 0) (uoWt 5 q) []) = true := by kernel_rfl
theorem chk6 : ((List.range 10).all fun q => chkW (!Nat.beq (uoN (uoO q)) 0) (uoWt 6 q) []) = true := by kernel_rfl
theorem chk7 : ((List.range 10).all fun q => chkW (!Nat.beq (uoN (uoO q)) 0) (uoWt 7 q) []) = true := by kernel_rfl
theorem chk8 : ((List.range 10).all fun q => chkW (!Nat.beq (uoN (uoO q)) 0) (uoWt 8 q) []) = true := by kernel_rfl
theorem chk9 : ((List.range 10).all fun q => chkW (!Nat.beq (uoN (uoO q)) 0) (uoWt 9 q) []) = true := by kernel_rfl
theorem chk (p q : Nat) (hp : p < 10) (hq : q < 10) : chkW (!Nat.beq (uoN (uoO q)) 0) (uoWt p q) [] = true := by
  have h : ∀ p, p < 10 → ((List.range 10).all fun q => chkW (!Nat.beq (uoN (uoO q)) 0) (uoWt p q) []) = true := fun
    | 0, _ => chk0
    | 1, _ => chk1
    | 2, _ => chk2
    | 3, _ => chk3
    | 4, _ => chk4
    | 5, _ => chk5
    | 6, _ => chk6
    | 7, _ => chk7
    | 8, _ => chk8
    | 9, _ => chk9
    | p + 10, h => absurd h (by omega)
  exact List.all_eq_true.1 (h p hp) q (List.mem_range.2 hq)
theorem ids : ((List.range 10).all fun p => (List.range 10).all fun q => idOk (uoS (uoO p) (uoO q)) 22) = true := by kernel_rfl
theorem ids24 : ((List.range 10).all fun p => (List.range 10).all fun q => idOk (uoS (uoO p) (uoO q)) 24) = true := by kernel_rfl
theorem id22 (i : Fin 10 × Fin 10) : idOk (uoS (uoO i.1.val) (uoO i.2.val)) 22 = true :=
  List.all_eq_true.1 (List.all_eq_true.1 ids i.1.val (List.mem_range.2 i.1.isLt)) i.2.val (List.mem_range.2 i.2.isLt)
theorem id24 (i : Fin 10 × Fin 10) : idOk (uoS (uoO i.1.val) (uoO i.2.val)) 24 = true :=
  List.all_eq_true.1 (List.all_eq_true.1 ids24 i.1.val (List.mem_range.2 i.1.isLt)) i.2.val (List.mem_range.2 i.2.isLt)
theorem uoB_seg (i : Fin 10 × Fin 10) : SegOk Try.prog noTab 221 [loopOf (bodyOf Try.f4)] (uoS (uoO i.1.val) (uoO i.2.val)) uoX (uoWt i.1.val i.2.val).sw where
  lt := uo_lt
  ok := uo_ok
  hook := fun F => sym_true_hooks uo_lt rfl uo_sym uo_tru F
  n0 := rfl
  id := id24 i
  reck := reck _ _ i.1.isLt i.2.isLt
  tab := rfl
  cuts := rfl
  kt := by kernel_rfl
theorem hidOf : idOf (bodyOf Try.f4) = 0 := by kernel_rfl
theorem uoA_z : insZ (kdF 1 [some .i64] uoAG 12) (asgOf uoAW) uoK 0 = true := by kernel_rfl

theorem walk (W : World) (v0 : Value) (X0 : Fz) (r0 : RowV W [.i .u8, .i .u8] v0 X0) :
    Calls Try.prog 4 #[v0] W fun e W' => e = .returned (.bool true) ∧ Below W.heap.size W W' :=
  rows_walkF (ι := Fin 10 × Fin 10) (q := 22) (k := 0) (n := 221) (ss := []) (insq := uoK) (ins2 := []) (S0 := uoS0) (S1 := fun i => uoS (uoO i.1.val) (uoO i.2.val)) (S2 := uoS2) (SE := uoSE) (WB := fun i => (uoWt i.1.val i.2.val).sw) (J := fun _ i σ => uoJ i.2.val σ) (K := fun _ _ => True) (vs := [.symb 0]) (l := [])
    mixed Try.func4 (by kernel_rfl) (by kernel_rfl) (by kernel_rfl) rfl (by decide) rfl rfl (fun l => by simp [encS]) id22 (by kernel_rfl)
    uoA_seg ⟨rfl, rfl, rfl⟩ (fun i _ _ _ => uoB_seg i) ⟨rfl, rfl, rfl⟩ uoC_seg ⟨rfl, rfl⟩ (fun _ i σ τ ag h hq => by rw [← (ag.val 20 (by decide)).1, ← (ag.val 21 (by decide)).1]; exact h hq) (fun _ _ _ _ h => h)
    (fun l τ hl e ht hin hi => fun _ => ⟨rfl, ⟨(⟨9, by decide⟩, ⟨9, by decide⟩), rfl, rfl, rfl, insOk_z e hin 12 uoA_z, fun h => absurd rfl h, ht, rfl⟩⟩)
    (fun i l τ hl e ht hin h0 h01 hlen hj => segsW_weak (fun x s σ2 h => by
      rcases h with ⟨rfl, ⟨j, rfl, hj⟩, h1, h2, h3, h4, h5, h6⟩ | ⟨rfl, rfl, h1, _, h2⟩
      · exact .inl ⟨rfl, ⟨j, rfl, hj⟩, h1, h2, h3, h4, by rw [h5, ht], h6⟩
      · exact .inr ⟨congrArg SEx.exit hidOf.symm, rfl, h1, trivial, by rw [h2, ht]⟩) (chkW_ok ⟨e, hin, h0, h01, hlen, hj⟩ (chk _ _ i.1.isLt i.2.isLt)))
    (fun l τ hl e ht hin _ _ => ⟨.inl rfl, rfl, rfl, trivial⟩)
    r0 rfl

section
variable {H : Type} {enc : TypeId × Value → H} {P : Program}
theorem post_of_below {f : Func} {s : ChangeSpec} {apart fresh handsOn again : Bool} {W W' : World} {args : Array Value} {v : Value} {ds gs : List (DataW H)} {before pa pv : List MemPlace}
    (hW : DataW.Whole enc P f.params.toList s.vars apart W args.toList ds gs before)
    (hres : ∀ (b : Nat) (sp : Nat → Bool) (hd : Bool), DataW.TrodAll enc P W' b sp hd f.resultTypes.toList (v.resultList f.resultTypes.size) (s.fn H (ds ++ gs)).results [])
    (hargs : ∀ sp : Nat → Bool, (∀ p ∈ before, sp p.block = true) → DataW.TrodAll enc P W' 0 sp true f.params.toList args.toList (s.fn H (ds ++ gs)).args pa)
    (hvars : ∀ sp : Nat → Bool, (∀ p ∈ before, sp p.block = true) → DataW.TrodVars enc P W' sp s.vars (s.fn H (ds ++ gs)).vars pv)
    (hps : before = pa ++ pv) (hb : Below W.heap.size W W')
    (hok : ∀ (j : Nat) (t : TypeId) (r : Value), f.resultTypes[j]? = some t → (v.resultList f.resultTypes.size)[j]? = some r → Value.okWide P W' .any 0 t r) :
    s.post enc P f apart fresh handsOn again W args v W' := by
  have hlt : ∀ p ∈ before, p.block < W.heap.size := fun p hp => hW.lt p hp
  have hold : ∀ p ∈ before, (fun b => decide (b < W.heap.size)) p.block = true := fun p hp => by simpa using hlt p hp
  refine ⟨ds, gs, before, [], pa, pv, hW, hres _ _ _, hargs _ hold, hvars _ hold, World.keptBut_mono (fun p hp => ⟨hp, ?_⟩) (hb.frame (· ∈ before)), fun _ => ?_⟩
  · rw [hps, List.mem_append] at hp
    exact Or.inr hp
  · obtain ⟨_, _, _, _, _, hz, hn⟩ := hW
    refine ⟨hok, _, _, ([] ++ pa) ++ pv, ⟨[] ++ pa, pv, trodAll_append (hargs _ (fun _ _ => rfl)) (hres _ _ _), hvars _ (fun _ _ => rfl), rfl, ?_, ?_⟩, ?_⟩
    · intro b off hp
      have hin : MemPlace.cell b off ∈ before := by rw [hps]; simpa using hp
      rw [hb.frozen (hlt _ hin)]
      exact hz b off hin
    · intro ha
      have := hn ha
      rw [hps] at this
      simpa using this
    · intro p hp _
      rw [hps]
      simpa using hp
end


theorem size44 : Nat.beq (Try.prog.cellsOf 44) ([.i .u8, .i .u8] : List Cl).length = true := by kernel_rfl
theorem flat44 : flat Try.prog 4 44 = some [.i .u8, .i .u8] := by kernel_rfl

set_option maxRecDepth 100000 in
theorem lifted (os : Os) (started : os.Started) (H : Type) (enc : TypeId × Value → H) :
    ReturnsInHanded {} Try.checked os 4 .any (Rows.uartOrderSpec.pre6 enc Try.prog Try.f4 Rows.uartOrderRow.domain false) (Rows.uartOrderSpec.post enc Try.prog Try.f4 false true false false) := by
  refine returnsInHanded_of_change (C := Try.checked) own started (by kernel_rfl) Try.func4
    (ChangeSpec.witness6 (enc := enc) (C := Try.checked) false ⟨#[], #[.slice none 0 0], []⟩ 8 (by kernel_rfl) (by kernel_rfl) (by kernel_rfl) (by kernel_rfl)) ?_
  intro W base args ds gs before hval0 hW hcnd _
  have hval : ∀ (j : Nat) t v, Try.f4.params[j]? = some t → args[j]? = some v → Value.okWide Try.prog W .any base t v := hval0
  have hW' := hW
  obtain ⟨p, q, hA0, hV, rfl, hfz, hnd⟩ := hW
  have hA : DataW.TrodAll enc Try.prog W 0 (fun _ => true) true Try.f4.params.toList args.toList ds p := hA0
  rw [Try.params4] at hA hval
  obtain ⟨v0, vs0, d0, ds0, p0, q0, hargs, rfl, rfl, h0, r0⟩ := trodAll_cons hA
  obtain ⟨rfl, rfl, rfl⟩ := trodAll_nil r0
  obtain rfl : args = #[v0] := by cases args; simp_all
  obtain ⟨rfl, rfl⟩ := trodVars_none hV
  obtain ⟨X0, R0⟩ := open_rows (cl := [.i .u8, .i .u8]) Try.underlying37 flat44 size44 rfl (hval 0 37 v0 rfl rfl) h0
  clear hA0 hval0
  simp only [List.append_nil] at hW'
  refine (walk W v0 X0 R0.row).mono fun e W' ⟨he, hg⟩ => ?_
  subst he
  exact ⟨_, rfl, post_of_below (pa := p0 ++ ([])) (pv := []) hW' (fun _ _ _ => (trodAll_cons_mk (shut_bool Try.underlying4 _) trodAll_mk0)) (fun sp hsp => (trodAll_cons_mk (R0.again W' hg sp (fun z hz => hsp z (by simp [hz]))) trodAll_mk0)) (fun _ _ => rfl) (by simp)
    hg (ok_one (by kernel_rfl) rfl (okWide_bool_mk Try.underlying4 _))⟩

theorem over : Rows.uartOrderRow.holds Try.pinned (OpenSpec.ofChange Rows.uartOrderSpec) :=
  OpenClaim.holds_of_wide 4 Try.f4 rfl rfl rfl rfl rfl rfl rfl ⟨rfl, rfl, rfl, rfl, rfl⟩ rfl rfl rfl rfl rfl (by kernel_rfl) Try.func4 (by kernel_rfl)
    (of_decide_eq_true (by kernel_rfl)) (by unfold Func.isWrapper; first | (rw [if_pos (by decide +kernel)]; kernel_rfl) | (rw [if_neg (by decide +kernel)]; exact ⟨rfl, rfl⟩))
    (fun os started H enc _ => lifted os started H enc)

/-- THE STATEMENT -/
theorem proved : Rows.UartOrderSaid :=
  over
#print axioms proved
end Go.Proofs.Ytgifnmiggloclab.uartOrder
