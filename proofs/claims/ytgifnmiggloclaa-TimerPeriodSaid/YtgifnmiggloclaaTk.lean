/-
  The contracts of timer.Ticks and timer.Next, reckoned with unknown numbers.
  No conditions.
-/
import Derived.Test.YtgifnmiggloclaaChecked
import Derived.Test.YtgifnmiggloclaaEvR
import Derived.ProofKit
import Derived.OpenShut
import Derived.ChangeSame
import Derived.Laws.IdiomArrays
namespace Go.Proofs.Ytgifnmiggloclaa.tk
set_option linter.unusedVariables false
open Go.RowKit Go.Ev

--DEFS
def low1 (t : Int) : Int := IntKind.u16.wrap (BitVec.ofInt 16 t &&& BitVec.ofInt 16 1).toNat
def low2 (t : Int) : Int := IntKind.u16.wrap (BitVec.ofInt 16 t &&& BitVec.ofInt 16 2).toNat
def drop1 (t : Int) : Int := IntKind.u16.wrap (BitVec.ofInt 16 t &&& ~~~BitVec.ofInt 16 1).toNat
def first (c p : Int) : Int := IntKind.i64.wrap (IntKind.i64.wrap (IntKind.u16.wrap (IntKind.u16.wrap (p - c) - 1)) + 1)
def over (c p n : Int) : Int := IntKind.i64.wrap (n - first c p)
def per (p : Int) : Int := if p = 0 then 65536 else IntKind.i64.wrap p
def tkC (c p t n : Int) : Int :=
  if n ≤ 0 then c else if low1 t = 0 then c else if n < first c p then IntKind.u16.wrap (c + IntKind.u16.wrap n) else if low2 t = 0 then 0 else IntKind.u16.wrap ((over c p n).tmod (per p))
def tkT (c p t n : Int) : Int := if n ≤ 0 then t else if low1 t = 0 then t else if n < first c p then t else if low2 t = 0 then drop1 t else t
def tkK (c p t n : Int) : Int :=
  if n ≤ 0 then 0 else if low1 t = 0 then 0 else if n < first c p then 0 else if low2 t = 0 then 1 else IntKind.i64.wrap (1 + IntKind.i64.wrap ((over c p n).tdiv (per p)))
def nxt (c p t : Int) : Int := if low1 t = 0 then 0 else first c p

def tab : TabF := fun id l => match l with
  | [c, p, t, n] => match id with
    | 0 => tkC c p t n
    | 1 => tkT c p t n
    | _ => tkK c p t n
  | [c, p, t] => nxt c p t
  | _ => 0

def tkHook : HookF := fun look f args =>
  match Nat.beq f 43 with
  | true => match args with
    | [.agg [c, p, t], n] => match isK .u16 c && isK .u16 p && isK .u16 t && isK .i64 n with
      | true => match look (.bin .leq (.int .u16 0) p), look (.bin .leq p (.int .u16 65535)) with
        | some (.bool true), some (.bool true) => match look (.fn 0 .u16 [c, p, t, n]), look (.fn 1 .u16 [c, p, t, n]), look (.fn 2 .i64 [c, p, t, n]) with
          | some C, some T, some K => some (.tuple [.agg [C, p, T], K])
          | _, _, _ => none
        | _, _ => none
      | false => none
    | _ => none
  | false => match Nat.beq f 37 with
    | true => match args with
      | [.agg [c, p, t]] => match isK .u16 c && isK .u16 p && isK .u16 t with
        | true => look (.fn 3 .i64 [c, p, t])
        | false => none
      | _ => none
    | false => okHook [47] look f args
--END

theorem mixed : Try.prog.follows .mixedOrders = true := Checked.mixed Try.checked

def tkG : List SDef := [.bin .leq (.symi .i64 3) (.int .i64 0),
  .bin .and (.symi .u16 2) (.int .u16 1),
  .bin .eql (.symi .u16 5) (.int .u16 0),
  .bin .sub (.symi .u16 1) (.symi .u16 0),
  .bin .sub (.symi .u16 7) (.int .u16 1),
  .conv .i64 (.symi .u16 8),
  .bin .add (.symi .i64 9) (.int .i64 1),
  .bin .lss (.symi .i64 3) (.symi .i64 10),
  .conv .u16 (.symi .i64 3),
  .bin .add (.symi .u16 0) (.symi .u16 12),
  .bin .sub (.symi .i64 3) (.symi .i64 10),
  .bin .and (.symi .u16 2) (.int .u16 2),
  .bin .eql (.symi .u16 15) (.int .u16 0),
  .bin .andNot (.symi .u16 2) (.int .u16 1),
  .bin .eql (.symi .u16 1) (.int .u16 0),
  .bin .rem (.symi .i64 14) (.int .i64 65536),
  .conv .u16 (.symi .i64 19),
  .bin .quo (.symi .i64 14) (.int .i64 65536),
  .bin .add (.int .i64 1) (.symi .i64 21),
  .conv .i64 (.symi .u16 1),
  .bin .rem (.symi .i64 14) (.symi .i64 23),
  .conv .u16 (.symi .i64 24),
  .bin .quo (.symi .i64 14) (.symi .i64 23),
  .bin .add (.int .i64 1) (.symi .i64 26)]

def tkV : Vr := .node 4 (.leaf (.tuple [.agg [.symi .u16 0, .symi .u16 1, .symi .u16 2], .int .i64 0])) (.node 6 (.leaf (.tuple [.agg [.symi .u16 0, .symi .u16 1, .symi .u16 2], .int .i64 0])) (.node 11 (.leaf (.tuple [.agg [.symi .u16 13, .symi .u16 1, .symi .u16 2], .int .i64 0])) (.node 16 (.leaf (.tuple [.agg [.int .u16 0, .symi .u16 1, .symi .u16 17], .int .i64 1])) (.node 18 (.leaf (.tuple [.agg [.symi .u16 20, .symi .u16 1, .symi .u16 2], .symi .i64 22])) (.pick 23 0 (.dead) (.leaf (.tuple [.agg [.symi .u16 25, .symi .u16 1, .symi .u16 2], .symi .i64 27])))))))

theorem tk_ok : okG tkG 4 = true := by kernel_rfl

theorem tk_reck : okVr (fun F => callA Try.prog (cxOf 0 4 noTab noHook tkG F) 1000 40 43 [.agg [.symi .u16 0, .symi .u16 1, .symi .u16 2], .symi .i64 3] ⟨⟨[], []⟩, [], []⟩) tkV [] = true := by kernel_rfl

def TkQ (c p t n : Int) (σ : Sig) (v : AVal) : Prop :=
  ∃ C P T K, v = .tuple [.agg [C, P, T], K] ∧ den σ C = .int .u16 (tkC c p t n) ∧ den σ P = .int .u16 p ∧ den σ T = .int .u16 (tkT c p t n) ∧ den σ K = .int .i64 (tkK c p t n)

theorem tk_plain (c p t n : Int) (hp0 : 0 ≤ p) (hp1 : p ≤ 65535) (σ : Sig) (e : Eqs σ 4 tkG) (i0 : σ.ival 0 = c) (i1 : σ.ival 1 = p) (i2 : σ.ival 2 = t) (i3 : σ.ival 3 = n) : vals σ (TkQ c p t n σ) tkV [] := by
  subst i0; subst i1; subst i2; subst i3
  have e4 := e.at 0 _ rfl rfl
  have e5 := e.at 1 _ rfl rfl
  have e6 := e.at 2 _ rfl rfl
  have e7 := e.at 3 _ rfl rfl
  have e8 := e.at 4 _ rfl rfl
  have e9 := e.at 5 _ rfl rfl
  have e10 := e.at 6 _ rfl rfl
  have e11 := e.at 7 _ rfl rfl
  have e12 := e.at 8 _ rfl rfl
  have e13 := e.at 9 _ rfl rfl
  have e14 := e.at 10 _ rfl rfl
  have e15 := e.at 11 _ rfl rfl
  have e16 := e.at 12 _ rfl rfl
  have e17 := e.at 13 _ rfl rfl
  have e18 := e.at 14 _ rfl rfl
  have e19 := e.at 15 _ rfl rfl
  have e20 := e.at 16 _ rfl rfl
  have e21 := e.at 17 _ rfl rfl
  have e22 := e.at 18 _ rfl rfl
  have e23 := e.at 19 _ rfl rfl
  have e24 := fun h => e 20 _ rfl h
  have e25 := e.at 21 _ rfl rfl
  have e26 := fun h => e 22 _ rfl h
  have e27 := e.at 23 _ rfl rfl
  simp only [evalS, den, convS, binS, intA, resS, likeS, if_true, Option.some.injEq, AVal.int.injEq, true_and, AVal.bool.injEq, IntKind.bits, Int.reduceEq, if_false, condD, skOf, Option.some.injEq, forall_eq'] at e4 e5 e6 e7 e8 e9 e10 e11 e12 e13 e14 e15 e16 e17 e18 e19 e20 e21 e22 e23 e24 e25 e26 e27
  have f1 : low1 (σ.ival 2) = σ.ival 5 := e5
  have f2 : low2 (σ.ival 2) = σ.ival 15 := e15
  have f3 : drop1 (σ.ival 2) = σ.ival 17 := e17
  have f4 : first (σ.ival 0) (σ.ival 1) = σ.ival 10 := by rw [← e10, ← e9, ← e8, ← e7]; rfl
  have f5 : over (σ.ival 0) (σ.ival 1) (σ.ival 3) = σ.ival 14 := by rw [← e14, ← f4]; rfl
  simp only [vals, tkV, Holds, Fact.holds, and_true]
  refine ⟨?_, ?_, ?_, ?_, ?_, ?_, ?_⟩
  · intro h4
    rw [← e4, decide_eq_true_eq] at h4
    exact ⟨_, _, _, _, rfl, by simp [den, tkC, h4], rfl, by simp [den, tkT, h4], by simp [den, tkK, h4]⟩
  · rintro ⟨h6, h4⟩
    rw [← e4, decide_eq_false_iff_not] at h4
    rw [← e6, beq_iff_eq] at h6
    exact ⟨_, _, _, _, rfl, by simp [den, tkC, h4, f1, h6], rfl, by simp [den, tkT, h4, f1, h6], by simp [den, tkK, h4, f1, h6]⟩
  · rintro ⟨h11, h6, h4⟩
    rw [← e4, decide_eq_false_iff_not] at h4
    rw [← e6, beq_eq_false_iff_ne] at h6
    rw [← e11, decide_eq_true_eq] at h11
    exact ⟨_, _, _, _, rfl, by simp [den, tkC, h4, f1, h6, f4, h11, ← e13, ← e12], rfl, by simp [den, tkT, h4, f1, h6, f4, h11], by simp [den, tkK, h4, f1, h6, f4, h11]⟩
  · rintro ⟨h16, h11, h6, h4⟩
    rw [← e4, decide_eq_false_iff_not] at h4
    rw [← e6, beq_eq_false_iff_ne] at h6
    rw [← e11, decide_eq_false_iff_not] at h11
    rw [← e16, beq_iff_eq] at h16
    exact ⟨_, _, _, _, rfl, by simp [den, tkC, h4, f1, h6, f4, h11, f2, h16], rfl, by simp [den, tkT, h4, f1, h6, f4, h11, f2, h16, f3], by simp [den, tkK, h4, f1, h6, f4, h11, f2, h16]⟩
  · rintro ⟨h18, h16, h11, h6, h4⟩
    rw [← e4, decide_eq_false_iff_not] at h4
    rw [← e6, beq_eq_false_iff_ne] at h6
    rw [← e11, decide_eq_false_iff_not] at h11
    rw [← e16, beq_eq_false_iff_ne] at h16
    rw [← e18, beq_iff_eq] at h18
    have hper : per (σ.ival 1) = 65536 := by simp [per, h18]
    exact ⟨_, _, _, _, rfl, by simp only [den, tkC, h4, f1, h6, f4, h11, f2, h16, hper, f5, if_false, ← e20, ← e19], rfl, by simp only [den, tkT, h4, f1, h6, f4, h11, f2, h16, if_false],
      by simp only [den, tkK, h4, f1, h6, f4, h11, f2, h16, hper, f5, if_false, ← e22, ← e21]⟩
  · rintro ⟨h23, h18, h16, h11, h6, h4⟩
    rw [← e18, beq_eq_false_iff_ne] at h18
    rw [← e23] at h23
    simp [IntKind.wrap, IntKind.bits, IntKind.signed] at h23
    omega
  · rintro ⟨h23, h18, h16, h11, h6, h4⟩
    rw [← e4, decide_eq_false_iff_not] at h4
    rw [← e6, beq_eq_false_iff_ne] at h6
    rw [← e11, decide_eq_false_iff_not] at h11
    rw [← e16, beq_eq_false_iff_ne] at h16
    rw [← e18, beq_eq_false_iff_ne] at h18
    have e24 := e24 h23
    have e26 := e26 h23
    rw [if_neg h23] at e24 e26
    simp only [Option.some.injEq, AVal.int.injEq, true_and] at e24 e26
    have hper : per (σ.ival 1) = σ.ival 23 := by simp [per, h18, e23]
    exact ⟨_, _, _, _, rfl, by simp only [den, tkC, h4, f1, h6, f4, h11, f2, h16, hper, f5, if_false, ← e25, ← e24], rfl, by simp only [den, tkT, h4, f1, h6, f4, h11, f2, h16, if_false],
      by simp only [den, tkK, h4, f1, h6, f4, h11, f2, h16, hper, f5, if_false, ← e27, ← e26]⟩

theorem ticks (c p t n : Int) (hp0 : 0 ≤ p) (hp1 : p ≤ 65535) (w : World) :
    Calls Try.prog 43 #[.agg #[.int .u16 c, .int .u16 p, .int .u16 t], .int .i64 n] w fun e w' =>
      e = .returned (.tuple #[.agg #[.int .u16 (tkC c p t n), .int .u16 p, .int .u16 (tkT c p t n)], .int .i64 (tkK c p t n)]) ∧ Below w.heap.size w w' := by
  refine (nums_val (l := [c, p, t, n]) (b := []) (Q := TkQ c p t n) mixed tk_ok (fun F => no_hooks F) tk_reck
    (fun σ e _ hi _ => tk_plain c p t n hp0 hp1 σ e (hi 0 (by decide)) (hi 1 (by decide)) (hi 2 (by decide)) (hi 3 (by decide))) (fun g hi _ => ?_) w).mono ?_
  · exact .cons _ _ _ _ (.agg _ _ (.cons _ _ _ _ (rel_symi (hi 0 (by decide))) (.cons _ _ _ _ (rel_symi (hi 1 (by decide))) (.cons _ _ _ _ (rel_symi (hi 2 (by decide))) .nil)))) (.cons _ _ _ _ (rel_symi (hi 3 (by decide))) .nil)
  · rintro e w' ⟨σ, v, u, rfl, ⟨C, P, T, K, rfl, h1, h2, h3, h4⟩, hu, hb⟩
    refine ⟨?_, hb⟩
    cases hu with
    | tuple _ l' hl =>
      obtain ⟨l'⟩ := l'
      cases hl with
      | cons _ v1 _ _ ha hl =>
      cases hl with
      | cons _ v2 _ _ hk hl =>
      cases hl
      cases ha with
      | agg _ m hm =>
      obtain ⟨m⟩ := m
      cases hm with
      | cons _ x1 _ _ g1 hm =>
      cases hm with
      | cons _ x2 _ _ g2 hm =>
      cases hm with
      | cons _ x3 _ _ g3 hm =>
      cases hm
      rw [rel_num g1 h1, rel_num g2 h2, rel_num g3 h3, rel_num hk h4]

def nxG : List SDef := [.bin .and (.symi .u16 2) (.int .u16 1),
  .bin .eql (.symi .u16 3) (.int .u16 0),
  .bin .sub (.symi .u16 1) (.symi .u16 0),
  .bin .sub (.symi .u16 5) (.int .u16 1),
  .conv .i64 (.symi .u16 6),
  .bin .add (.symi .i64 7) (.int .i64 1)]

def nxV : Vr := .node 4 (.leaf (.int .i64 0)) (.leaf (.symi .i64 8))

theorem nx_ok : okG nxG 3 = true := by kernel_rfl

theorem nx_reck : okVr (fun F => callA Try.prog (cxOf 0 3 noTab noHook nxG F) 1000 40 37 [.agg [.symi .u16 0, .symi .u16 1, .symi .u16 2]] ⟨⟨[], []⟩, [], []⟩) nxV [] = true := by kernel_rfl

theorem nx_plain (c p t : Int) (σ : Sig) (e : Eqs σ 3 nxG) (i0 : σ.ival 0 = c) (i1 : σ.ival 1 = p) (i2 : σ.ival 2 = t) : vals σ (fun v => den σ v = .int .i64 (nxt c p t)) nxV [] := by
  subst i0; subst i1; subst i2
  have e3 := e.at 0 _ rfl rfl
  have e4 := e.at 1 _ rfl rfl
  have e5 := e.at 2 _ rfl rfl
  have e6 := e.at 3 _ rfl rfl
  have e7 := e.at 4 _ rfl rfl
  have e8 := e.at 5 _ rfl rfl
  simp only [evalS, den, convS, binS, intA, resS, likeS, if_true, Option.some.injEq, AVal.int.injEq, true_and, AVal.bool.injEq, IntKind.bits] at e3 e4 e5 e6 e7 e8
  have f1 : low1 (σ.ival 2) = σ.ival 3 := e3
  simp only [vals, nxV, Holds, Fact.holds, and_true]
  constructor
  · intro h
    rw [← e4, beq_iff_eq] at h
    simp [den, nxt, f1, h]
  · intro h
    rw [← e4, beq_eq_false_iff_ne] at h
    simp [den, nxt, f1, h, first, ← e8, ← e7, ← e6, ← e5]

theorem next (c p t : Int) (w : World) :
    Calls Try.prog 37 #[.agg #[.int .u16 c, .int .u16 p, .int .u16 t]] w fun e w' => e = .returned (.int .i64 (nxt c p t)) ∧ Below w.heap.size w w' := by
  refine (nums_val (l := [c, p, t]) (b := []) (Q := fun σ v => den σ v = .int .i64 (nxt c p t)) mixed nx_ok (fun F => no_hooks F) nx_reck
    (fun σ e _ hi _ => nx_plain c p t σ e (hi 0 (by decide)) (hi 1 (by decide)) (hi 2 (by decide))) (fun g hi _ => ?_) w).mono ?_
  · exact .cons _ _ _ _ (.agg _ _ (.cons _ _ _ _ (rel_symi (hi 0 (by decide))) (.cons _ _ _ _ (rel_symi (hi 1 (by decide))) (.cons _ _ _ _ (rel_symi (hi 2 (by decide))) .nil)))) .nil
  · rintro e w' ⟨σ, v, u, rfl, h1, hu, hb⟩
    rw [rel_num hu h1]
    exact ⟨rfl, hb⟩

theorem works_reck : isTrue (callA Try.prog noCx 1000 40 47 [] ⟨⟨[], []⟩, [], []⟩) = true := by kernel_rfl

theorem works (w : World) : Calls Try.prog 47 #[] w fun e w' => e = .returned (.bool true) ∧ Below w.heap.size w w' := closed_true (P := Try.prog) mixed works_reck w

theorem arr1 {g : Inj} {a : AVal} {l : Array Value} (h : LRel g [a] l.toList) : ∃ u, l = #[u] ∧ VRel g a u := by
  obtain ⟨l⟩ := l
  cases h with
  | cons _ u _ _ h1 h => cases h; exact ⟨u, rfl, h1⟩

theorem arr2 {g : Inj} {a b : AVal} {l : Array Value} (h : LRel g [a, b] l.toList) : ∃ u v, l = #[u, v] ∧ VRel g a u ∧ VRel g b v := by
  obtain ⟨l⟩ := l
  cases h with
  | cons _ u _ _ h1 h => cases h with
    | cons _ v _ _ h2 h => cases h; exact ⟨u, v, rfl, h1, h2⟩

theorem arr3 {g : Inj} {a b c : AVal} {l : Array Value} (h : LRel g [a, b, c] l.toList) : ∃ u v x, l = #[u, v, x] ∧ VRel g a u ∧ VRel g b v ∧ VRel g c x := by
  obtain ⟨l⟩ := l
  cases h with
  | cons _ u _ _ h1 h => cases h with
    | cons _ v _ _ h2 h => cases h with
      | cons _ x _ _ h3 h => cases h; exact ⟨u, v, x, rfl, h1, h2, h3⟩

theorem agg_of {g : Inj} {l : List AVal} {u : Value} (h : VRel g (.agg l) u) : ∃ m : Array Value, u = .agg m ∧ LRel g l m.toList := by
  cases h with
  | agg _ m hm => exact ⟨m, rfl, hm⟩

theorem tk_hooks {m : Nat} {G : List SDef} (F : List Fact) : Hooks Try.prog (cxOf 0 m tab tkHook G F) := by
  intro f args v hv hp
  change tkHook (symS (baseOf 0 m tab G F)) f args = some v at hv
  unfold tkHook at hv
  split at hv
  · rename_i hf
    have := Nat.eq_of_beq_eq_true hf
    subst this
    split at hv
    · rename_i c p t n
      split at hv
      · rename_i hk
        simp only [Bool.and_eq_true] at hk
        obtain ⟨⟨⟨k1, k2⟩, k3⟩, k4⟩ := hk
        split at hv
        · rename_i l0 l1
          split at hv
          · rename_i C T K lC lT lK
            cases hv
            refine callP_below (fun g w args' hG ha => ?_) hp
            obtain ⟨ua, un, rfl, ha1, ha2⟩ := arr2 ha
            obtain ⟨mm, rfl, hm⟩ := agg_of ha1
            obtain ⟨uc, up, ut, rfl, hc, hpp, ht⟩ := arr3 hm
            obtain ⟨dc, rfl⟩ := isK_rel k1 hc
            obtain ⟨dp, rfl⟩ := isK_rel k2 hpp
            obtain ⟨dt, rfl⟩ := isK_rel k3 ht
            obtain ⟨dn, rfl⟩ := isK_rel k4 ha2
            have r0 := look_true hG l0 (leq_lo dp)
            have r1 := look_true hG l1 (leq_hi dp)
            rw [decide_eq_true_eq] at r0 r1
            have fC := look_fn hG lC
            have fT := look_fn hG lT
            have fK := look_fn hG lK
            refine (ticks (numS (den g.sig c)) (numS (den g.sig p)) (numS (den g.sig t)) (numS (den g.sig n)) r0 r1 w).mono ?_
            rintro e w' ⟨rfl, hb⟩
            exact ⟨_, rfl, .tuple _ _ (.cons _ _ _ _ (.agg _ _ (.cons _ _ _ _ fC (.cons _ _ _ _ hpp (.cons _ _ _ _ fT .nil)))) (.cons _ _ _ _ fK .nil)), hb⟩
          · cases hv
        · cases hv
      · cases hv
    · cases hv
  · split at hv
    · rename_i hf
      have := Nat.eq_of_beq_eq_true hf
      subst this
      split at hv
      · rename_i c p t
        split at hv
        · rename_i hk
          simp only [Bool.and_eq_true] at hk
          obtain ⟨⟨k1, k2⟩, k3⟩ := hk
          refine callP_below (fun g w args' hG ha => ?_) hp
          obtain ⟨ua, rfl, ha1⟩ := arr1 ha
          obtain ⟨mm, rfl, hm⟩ := agg_of ha1
          obtain ⟨uc, up, ut, rfl, hc, hpp, ht⟩ := arr3 hm
          obtain ⟨dc, rfl⟩ := isK_rel k1 hc
          obtain ⟨dp, rfl⟩ := isK_rel k2 hpp
          obtain ⟨dt, rfl⟩ := isK_rel k3 ht
          have fN := look_fn hG hv
          refine (next (numS (den g.sig c)) (numS (den g.sig p)) (numS (den g.sig t)) w).mono ?_
          rintro e w' ⟨rfl, hb⟩
          exact ⟨_, rfl, fN, hb⟩
        · cases hv
      · cases hv
    · exact ok_hooks (fs := [47]) (fun f hf w => by
        simp only [List.mem_singleton] at hf
        subst hf
        exact works w) hv hp

/-! ### What ticks come to -/

theorem first_nice (c p : Int) : first c p = (p - c - 1) % 65536 + 1 := by
  simp [first, IntKind.wrap, IntKind.bits, IntKind.signed]
  omega

def q (p : Int) : Int := if p = 0 then 65536 else p

theorem q_pos {p : Int} (hp0 : 0 ≤ p) (hp1 : p ≤ 65535) : 1 ≤ q p ∧ q p ≤ 65536 := by
  unfold q; split <;> omega

theorem per_nice {p : Int} (hp0 : 0 ≤ p) (hp1 : p ≤ 65535) : per p = q p := by
  unfold per q
  split
  · rfl
  · simp [IntKind.wrap, IntKind.bits, IntKind.signed]; omega

theorem over_nice {c p n : Int} (hc0 : 0 ≤ c) (hc1 : c ≤ 65535) (hp0 : 0 ≤ p) (hp1 : p ≤ 65535) (hn0 : 0 ≤ n) (hn1 : n ≤ 1000000000) : over c p n = n - ((p - c - 1) % 65536 + 1) := by
  unfold over
  rw [first_nice c p]
  simp [IntKind.wrap, IntKind.bits, IntKind.signed]; omega

theorem emod_le (a q : Int) (hq : 1 ≤ q) : 0 ≤ a % q ∧ a % q < q := ⟨Int.emod_nonneg _ (by omega), Int.emod_lt_of_pos _ (by omega)⟩

theorem wrap16_of {a : Int} (h0 : 0 ≤ a) (h1 : a ≤ 65535) : IntKind.u16.wrap a = a := by
  simp [IntKind.wrap, IntKind.bits, IntKind.signed]; omega

theorem wrap64_of {a : Int} (h0 : 0 ≤ a) (h1 : a ≤ 4000000000) : IntKind.i64.wrap a = a := by
  simp [IntKind.wrap, IntKind.bits, IntKind.signed]; omega

theorem tkC3 {c p n : Int} (hc0 : 0 ≤ c) (hc1 : c ≤ 65535) (hp0 : 0 ≤ p) (hp1 : p ≤ 65535) (hn0 : 0 ≤ n) (hn1 : n ≤ 1000000000) :
    tkC c p 3 n = if n < (p - c - 1) % 65536 + 1 then (c + n) % 65536 else (n - ((p - c - 1) % 65536 + 1)) % q p := by
  have l1 : low1 3 = 1 := by decide
  have l2 : low2 3 = 2 := by decide
  obtain ⟨q0, q1⟩ := q_pos hp0 hp1
  unfold tkC
  rw [first_nice c p, l1, l2, over_nice hc0 hc1 hp0 hp1 hn0 hn1, per_nice hp0 hp1]
  split
  · rw [if_pos (by omega)]; omega
  · rw [if_neg (by decide)]
    split
    · simp [IntKind.wrap, IntKind.bits, IntKind.signed]
    · rw [if_neg (by decide)]
      rename_i h
      rw [Int.tmod_eq_emod_of_nonneg (by omega)]
      obtain ⟨e0, e1⟩ := emod_le (n - ((p - c - 1) % 65536 + 1)) (q p) q0
      exact wrap16_of e0 (by omega)

theorem tkT3 (c p n : Int) : tkT c p 3 n = 3 := by
  have l2 : low2 3 = 2 := by decide
  unfold tkT
  rw [l2]
  simp

theorem tkK3 {c p n : Int} (hc0 : 0 ≤ c) (hc1 : c ≤ 65535) (hp0 : 0 ≤ p) (hp1 : p ≤ 65535) (hn0 : 0 ≤ n) (hn1 : n ≤ 1000000000) :
    tkK c p 3 n = if n < (p - c - 1) % 65536 + 1 then 0 else 1 + (n - ((p - c - 1) % 65536 + 1)) / q p := by
  have l1 : low1 3 = 1 := by decide
  have l2 : low2 3 = 2 := by decide
  obtain ⟨q0, q1⟩ := q_pos hp0 hp1
  unfold tkK
  rw [first_nice c p, l1, l2, over_nice hc0 hc1 hp0 hp1 hn0 hn1, per_nice hp0 hp1]
  split
  · rw [if_pos (by omega)]
  · rw [if_neg (by decide)]
    split
    · rfl
    · rw [if_neg (by decide)]
      rename_i h
      rw [Int.tdiv_eq_ediv_of_nonneg (by omega)]
      have h0 : 0 ≤ (n - ((p - c - 1) % 65536 + 1)) / q p := Int.ediv_nonneg (by omega) (by omega)
      have h1 : (n - ((p - c - 1) % 65536 + 1)) / q p ≤ n - ((p - c - 1) % 65536 + 1) := Int.ediv_le_self _ (by omega)
      rw [wrap64_of h0 (by omega), wrap64_of (by omega) (by omega)]

theorem tkC3_range {c p n : Int} (hc0 : 0 ≤ c) (hc1 : c ≤ 65535) (hp0 : 0 ≤ p) (hp1 : p ≤ 65535) (hn0 : 0 ≤ n) (hn1 : n ≤ 1000000000) : 0 ≤ tkC c p 3 n ∧ tkC c p 3 n ≤ 65535 := by
  rw [tkC3 hc0 hc1 hp0 hp1 hn0 hn1]
  obtain ⟨q0, q1⟩ := q_pos hp0 hp1
  obtain ⟨e0, e1⟩ := emod_le (n - ((p - c - 1) % 65536 + 1)) (q p) q0
  split <;> omega

/-- Ticks, and more ticks, are as all at once. -/
theorem add3 {c p n m : Int} (hc0 : 0 ≤ c) (hc1 : c ≤ 65535) (hp0 : 0 ≤ p) (hp1 : p ≤ 65535) (hn0 : 0 ≤ n) (hm0 : 0 ≤ m) (h1 : n + m ≤ 1000000000) :
    tkC (tkC c p 3 n) p 3 m = tkC c p 3 (n + m) ∧ tkK c p 3 n + tkK (tkC c p 3 n) p 3 m = tkK c p 3 (n + m) := by
  obtain ⟨r0, r1⟩ := tkC3_range hc0 hc1 hp0 hp1 hn0 (by omega : n ≤ 1000000000)
  rw [tkC3 r0 r1 hp0 hp1 hm0 (by omega), tkK3 r0 r1 hp0 hp1 hm0 (by omega), tkC3 hc0 hc1 hp0 hp1 (by omega : 0 ≤ n + m) h1, tkK3 hc0 hc1 hp0 hp1 (by omega : 0 ≤ n + m) h1, tkK3 hc0 hc1 hp0 hp1 hn0 (by omega)]
  rw [tkC3 hc0 hc1 hp0 hp1 hn0 (by omega)]
  generalize hf : (p - c - 1) % 65536 + 1 = f
  by_cases hnf : n < f
  · simp only [if_pos hnf]
    have hf' : (p - (c + n) % 65536 - 1) % 65536 + 1 = f - n := by omega
    rw [hf']
    by_cases hmf : m < f - n
    · rw [if_pos hmf, if_pos hmf, if_pos (by omega), if_pos (by omega)]
      constructor <;> omega
    · rw [if_neg hmf, if_neg hmf, if_neg (by omega), if_neg (by omega)]
      rw [show m - (f - n) = n + m - f by omega]
      constructor <;> omega
  · simp only [if_neg hnf]
    obtain ⟨q0, q1⟩ := q_pos hp0 hp1
    obtain ⟨e0, e1⟩ := emod_le (n - f) (q p) q0
    have hk := Int.emod_add_mul_ediv (n - f) (q p)
    generalize (n - f) % q p = r at *
    generalize (n - f) / q p = k at *
    have hf' : (p - r - 1) % 65536 + 1 = q p - r := by
      unfold q at e1 ⊢
      split at e1
      · rename_i h; rw [if_pos h]; omega
      · rename_i h; rw [if_neg h]; omega
    rw [hf']
    have hnm : ¬ n + m < f := by omega
    rw [if_neg hnm, if_neg hnm]
    by_cases hmf : m < q p - r
    · rw [if_pos hmf, if_pos hmf]
      have h2 : n + m - f = (r + m) + q p * k := by omega
      rw [h2, Int.add_mul_emod_self_left, Int.add_mul_ediv_left _ _ (by omega), Int.emod_eq_of_lt (a := r + m) (b := q p) (by omega) (by omega), Int.ediv_eq_zero_of_lt (by omega) (by omega)]
      constructor <;> omega
    · rw [if_neg hmf, if_neg hmf]
      have h2 : n + m - f = (m - (q p - r)) + q p * (k + 1) := by rw [Int.mul_add]; omega
      rw [h2, Int.add_mul_emod_self_left, Int.add_mul_ediv_left _ _ (by omega)]
      constructor
      · rfl
      · omega

theorem off_C {c p t n : Int} (h : low1 t = 0) : tkC c p t n = c := by
  unfold tkC
  rw [if_pos h]; split <;> rfl

theorem off_T {c p t n : Int} (h : low1 t = 0) : tkT c p t n = t := by
  unfold tkT
  rw [if_pos h]; split <;> rfl

theorem off_K {c p t n : Int} (h : low1 t = 0) : tkK c p t n = 0 := by
  unfold tkK
  rw [if_pos h]; split <;> rfl

theorem once {c p : Int} : 0 < first c p ∧ tkC c p 1 (first c p) = 0 ∧ tkT c p 1 (first c p) = 0 ∧ tkK c p 1 (first c p) = 1 := by
  have h : 1 ≤ first c p := by rw [first_nice]; omega
  have l1 : low1 1 = 1 := by decide
  have l2 : low2 1 = 0 := by decide
  have l3 : drop1 1 = 0 := by decide
  have h1 : ¬ first c p ≤ 0 := by omega
  have h2 : ¬ first c p < first c p := by omega
  refine ⟨by omega, ?_, ?_, ?_⟩
  · simp [tkC, l1, l2, h1]
  · simp [tkT, l1, l2, l3, h1]
  · simp [tkK, l1, l2, h1]

theorem low1_nice {t : Int} : low1 t = t % 2 := by
  have h : (BitVec.ofInt 16 t &&& BitVec.ofInt 16 1).toNat = (t % 2).toNat := by
    rw [BitVec.toNat_and]
    have h1 : (BitVec.ofInt 16 1).toNat = 2 ^ 1 - 1 := by decide
    rw [h1, Nat.and_two_pow_sub_one_eq_mod, BitVec.toNat_ofInt]
    omega
  unfold low1
  rw [h]
  simp [IntKind.wrap, IntKind.bits, IntKind.signed]
  omega

theorem drop1_nice {t : Int} (h0 : 0 ≤ t) (h1 : t ≤ 65535) : drop1 t = t - t % 2 := by
  have h : (BitVec.ofInt 16 t &&& ~~~BitVec.ofInt 16 1).toNat = (t - t % 2).toNat := by
    have e : (~~~BitVec.ofInt 16 1 : BitVec 16) = BitVec.ofNat 16 65534 := by decide
    rw [e, BitVec.toNat_and, BitVec.toNat_ofInt]
    have e2 : (BitVec.ofNat 16 65534).toNat = 2 * (2 ^ 15 - 1) := by decide
    rw [e2]
    have e3 : (t % ((2 ^ 16 : Nat) : Int)).toNat = 2 * (t / 2).toNat + (t % 2).toNat := by omega
    rw [e3]
    have e4 : (t % 2).toNat < 2 := by omega
    generalize (t % 2).toNat = b at *
    have e5 : (2 * (t / 2).toNat + b) &&& (2 * (2 ^ 15 - 1)) = 2 * ((t / 2).toNat &&& (2 ^ 15 - 1)) := by
      apply Nat.eq_of_testBit_eq
      intro i
      cases i with
      | zero => simp [Nat.testBit_zero]
      | succ i =>
        rw [Nat.testBit_and, Nat.testBit_succ, Nat.testBit_succ, Nat.testBit_succ]
        rw [show (2 * (t / 2).toNat + b) / 2 = (t / 2).toNat by omega, show 2 * (2 ^ 15 - 1) / 2 = 2 ^ 15 - 1 by omega, show 2 * ((t / 2).toNat &&& (2 ^ 15 - 1)) / 2 = ((t / 2).toNat &&& (2 ^ 15 - 1)) by omega, Nat.testBit_and]
    rw [e5, Nat.and_two_pow_sub_one_eq_mod]
    omega
  unfold drop1
  rw [h]
  simp [IntKind.wrap, IntKind.bits, IntKind.signed]
  omega

section
open Go.ChangeShapes Go.WideShapes Go.ChangeAt
variable {H : Type} {enc : TypeId × Value → H} {P : Program}

theorem open_arr3 {W : World} {r : Reach} {b0 base : Nat} {sp : Nat → Bool} {held : Bool} {t e : TypeId} {k : IntKind} {v : Value} {d : DataW H} {ps : List MemPlace} (ht : P.underlying t = some (.array 3 e)) (hce : P.cellsOf e = 1) (hct : P.cellsOf t = 3)
    (he : P.underlying e = some (.int k)) (hv : Value.okWide P W r b0 t v) (hd : DataW.Trod enc P W base sp held t v d ps) :
    ∃ a b c, v = .agg #[.int k a, .int k b, .int k c] ∧ d = .agg [.lit (.int k a), .lit (.int k b), .lit (.int k c)] ∧ ps = [] ∧ (Lit.int k a).wf = true ∧ (Lit.int k b).wf = true ∧ (Lit.int k c).wf = true := by
  obtain ⟨cs, rfl, hsz, _⟩ : ∃ cs, v = .agg cs ∧ cs.size = P.cellsOf t ∧ Row.okWide P W r b0 t cs := by
    simpa [Value.okWide, ht] using hv
  rw [hct] at hsz
  obtain ⟨l⟩ := cs
  have h3 : ∃ c0 c1 c2, l = [c0, c1, c2] := by
    match l, hsz with
    | [c0, c1, c2], _ => exact ⟨c0, c1, c2, rfl⟩
  obtain ⟨c0, c1, c2, rfl⟩ := h3
  obtain ⟨fuel, hf⟩ := hd
  obtain ⟨y0, y1, y2, m, hx, hy0, hy1, hy2⟩ := trod_array3 ht hce hf
  obtain ⟨x0, e0, rfl, w0⟩ := DataW.trod_int he hy0
  obtain ⟨x1, e1, rfl, w1⟩ := DataW.trod_int he hy1
  obtain ⟨x2, e2, rfl, w2⟩ := DataW.trod_int he hy2
  simp at e0 e1 e2
  subst e0 e1 e2
  simp only [Prod.mk.injEq] at hx
  obtain ⟨rfl, rfl⟩ := hx
  exact ⟨x0, x1, x2, rfl, rfl, rfl, w0, w1, w2⟩

theorem shut_arr3 {W : World} {base : Nat} {sp : Nat → Bool} {held : Bool} {t e : TypeId} {k : IntKind} {a b c : Int} (ht : P.underlying t = some (.array 3 e)) (hce : P.cellsOf e = 1) (hct : P.cellsOf t = 3)
    (he : P.underlying e = some (.int k)) (wa : (Lit.int k a).wf = true) (wb : (Lit.int k b).wf = true) (wc : (Lit.int k c).wf = true) :
    DataW.Trod enc P W base sp held t (.agg #[.int k a, .int k b, .int k c]) (.agg [.lit (.int k a), .lit (.int k b), .lit (.int k c)]) [] :=
  ⟨2, by simp [DataW.trod, Value.cells, ht, he, hct, hce, wa, wb, wc, show List.range 3 = [0, 1, 2] from rfl]⟩
end

end Go.Proofs.Ytgifnmiggloclaa.tk
