/-
  ploverlaw13.TimerRests is true: reckoned with unknown numbers; ticks by their contract; ticks, and more ticks, are as all at once.
  No conditions.
-/
import Derived.Test.YtgifnmiggloclaaRows
import Derived.WalkKit
import Derived.ProofKit
import Derived.OpenShut
import Derived.Below
import Derived.ChangeSame
import Derived.Test.YtgifnmiggloclaaTk
namespace Go.Proofs.Ytgifnmiggloclaa.timerRests
open Go.ChangeShapes Go.WideShapes Go.ChangeAt Go.RowKit
open Go.Ev Go.Proofs.Ytgifnmiggloclaa.tk
set_option linter.unusedVariables false

theorem own : ownKnob Try.prog.godebug = none := by kernel_rfl

def trG : List SDef := [.conv .u16 (.symi .i32 3),
  .conv .i32 (.symi .u16 0),
  .conv .i32 (.symi .u16 7),
  .conv .i32 (.symi .u16 1),
  .conv .i32 (.symi .u16 2),
  .bin .andNot (.symi .u16 2) (.int .u16 1),
  .conv .i32 (.symi .u16 12),
  .conv .u16 (.symi .i32 13),
  .conv .i64 (.symi .u16 4),
  .bin .leq (.int .u16 0) (.symi .u16 1),
  .bin .leq (.symi .u16 1) (.int .u16 65535),
  .fn 0 .u16 [.symi .u16 0, .symi .u16 1, .symi .u16 14, .symi .i64 15],
  .fn 1 .u16 [.symi .u16 0, .symi .u16 1, .symi .u16 14, .symi .i64 15],
  .fn 2 .i64 [.symi .u16 0, .symi .u16 1, .symi .u16 14, .symi .i64 15],
  .all [(.symi .u16 18, .symi .u16 0), (.symi .u16 19, .symi .u16 14)],
  .un .not (.symb 21),
  .bin .neq (.symi .i64 20) (.int .i64 0),
  .fn 3 .i64 [.symi .u16 0, .symi .u16 1, .symi .u16 14],
  .bin .neq (.symi .i64 24) (.int .i64 0),
  .fn 0 .u16 [.symi .u16 0, .symi .u16 1, .int .u16 3, .symi .i64 15],
  .fn 1 .u16 [.symi .u16 0, .symi .u16 1, .int .u16 3, .symi .i64 15],
  .fn 2 .i64 [.symi .u16 0, .symi .u16 1, .int .u16 3, .symi .i64 15],
  .conv .i64 (.symi .u16 5),
  .fn 0 .u16 [.symi .u16 26, .symi .u16 1, .int .u16 2, .symi .i64 29],
  .fn 1 .u16 [.symi .u16 26, .symi .u16 1, .int .u16 2, .symi .i64 29],
  .fn 2 .i64 [.symi .u16 26, .symi .u16 1, .int .u16 2, .symi .i64 29],
  .conv .i64 (.symi .u16 6),
  .fn 0 .u16 [.symi .u16 30, .symi .u16 1, .int .u16 3, .symi .i64 33],
  .fn 1 .u16 [.symi .u16 30, .symi .u16 1, .int .u16 3, .symi .i64 33],
  .fn 2 .i64 [.symi .u16 30, .symi .u16 1, .int .u16 3, .symi .i64 33],
  .bin .add (.symi .i64 15) (.symi .i64 33),
  .fn 0 .u16 [.symi .u16 0, .symi .u16 1, .int .u16 3, .symi .i64 37],
  .fn 1 .u16 [.symi .u16 0, .symi .u16 1, .int .u16 3, .symi .i64 37],
  .fn 2 .i64 [.symi .u16 0, .symi .u16 1, .int .u16 3, .symi .i64 37],
  .bin .neq (.symi .i64 32) (.int .i64 0),
  .all [(.symi .u16 34, .symi .u16 38), (.symi .u16 35, .symi .u16 39)],
  .un .not (.symb 42),
  .bin .add (.symi .i64 28) (.symi .i64 36),
  .bin .neq (.symi .i64 44) (.symi .i64 40),
  .fn 3 .i64 [.symi .u16 0, .symi .u16 1, .int .u16 1],
  .fn 0 .u16 [.symi .u16 0, .symi .u16 1, .int .u16 1, .symi .i64 46],
  .fn 1 .u16 [.symi .u16 0, .symi .u16 1, .int .u16 1, .symi .i64 46],
  .fn 2 .i64 [.symi .u16 0, .symi .u16 1, .int .u16 1, .symi .i64 46],
  .fn 0 .u16 [.symi .u16 47, .symi .u16 1, .symi .u16 48, .symi .i64 29],
  .fn 1 .u16 [.symi .u16 47, .symi .u16 1, .symi .u16 48, .symi .i64 29],
  .fn 2 .i64 [.symi .u16 47, .symi .u16 1, .symi .u16 48, .symi .i64 29],
  .bin .gtr (.symi .i64 46) (.int .i64 0),
  .bin .eql (.symi .i64 49) (.int .i64 1),
  .bin .eql (.symi .u16 47) (.int .u16 0),
  .bin .eql (.symi .u16 48) (.int .u16 0),
  .all [(.symi .u16 50, .symi .u16 47), (.symi .u16 51, .symi .u16 48)],
  .bin .eql (.symi .i64 52) (.int .i64 0)]

def trT : Tr := .node 16 (.node 17 (.node 22 (.dead) (.node 23 (.dead) (.node 25 (.dead) (.node 41 (.dead) (.node 43 (.dead) (.node 45 (.dead) (.node 53 (.node 54 (.node 55 (.node 56 (.node 57 (.node 58 (.leaf) (.dead)) (.dead)) (.dead)) (.dead)) (.dead)) (.dead)))))))) (.dead)) (.dead)

theorem tr_ok : okG trG 7 = true := by kernel_rfl

theorem tr_reck : okTree (fun F => isTrue (callA Try.prog (cxOf 0 7 tab tkHook trG F) 1000 40 12 [.agg [.symi .u16 0, .symi .u16 1, .symi .u16 2], .symi .i32 3, .agg [.symi .u16 4, .symi .u16 5, .symi .u16 6]] ⟨⟨[], []⟩, [], []⟩)) trT [] = true := by kernel_rfl

theorem plain (σ : Sig) (e : Eqs σ 7 trG) (ht : σ.tab = tab) (a0 : 0 ≤ σ.ival 0) (a1 : σ.ival 0 ≤ 65535) (p0 : 0 ≤ σ.ival 1) (p1 : σ.ival 1 ≤ 65535) (t0 : 0 ≤ σ.ival 2) (t1 : σ.ival 2 ≤ 65535)
    (n0 : 0 ≤ σ.ival 4) (n1 : σ.ival 4 ≤ 65535) (m0 : 0 ≤ σ.ival 5) (m1 : σ.ival 5 ≤ 65535) (k0 : 0 ≤ σ.ival 6) (k1 : σ.ival 6 ≤ 65535) : deads σ trT [] := by
  have e12 := e.at 5 _ rfl rfl
  have e13 := e.at 6 _ rfl rfl
  have e14 := e.at 7 _ rfl rfl
  have e15 := e.at 8 _ rfl rfl
  have e16 := e.at 9 _ rfl rfl
  have e17 := e.at 10 _ rfl rfl
  have e18 := e.at 11 _ rfl rfl
  have e19 := e.at 12 _ rfl rfl
  have e20 := e.at 13 _ rfl rfl
  have e21 := e.at 14 _ rfl rfl
  have e22 := e.at 15 _ rfl rfl
  have e23 := e.at 16 _ rfl rfl
  have e24 := e.at 17 _ rfl rfl
  have e25 := e.at 18 _ rfl rfl
  have e26 := e.at 19 _ rfl rfl
  have e28 := e.at 21 _ rfl rfl
  have e29 := e.at 22 _ rfl rfl
  have e30 := e.at 23 _ rfl rfl
  have e32 := e.at 25 _ rfl rfl
  have e33 := e.at 26 _ rfl rfl
  have e34 := e.at 27 _ rfl rfl
  have e35 := e.at 28 _ rfl rfl
  have e36 := e.at 29 _ rfl rfl
  have e37 := e.at 30 _ rfl rfl
  have e38 := e.at 31 _ rfl rfl
  have e39 := e.at 32 _ rfl rfl
  have e40 := e.at 33 _ rfl rfl
  have e41 := e.at 34 _ rfl rfl
  have e42 := e.at 35 _ rfl rfl
  have e43 := e.at 36 _ rfl rfl
  have e44 := e.at 37 _ rfl rfl
  have e45 := e.at 38 _ rfl rfl
  have e46 := e.at 39 _ rfl rfl
  have e47 := e.at 40 _ rfl rfl
  have e48 := e.at 41 _ rfl rfl
  have e49 := e.at 42 _ rfl rfl
  have e50 := e.at 43 _ rfl rfl
  have e51 := e.at 44 _ rfl rfl
  have e52 := e.at 45 _ rfl rfl
  have e53 := e.at 46 _ rfl rfl
  have e54 := e.at 47 _ rfl rfl
  have e55 := e.at 48 _ rfl rfl
  have e56 := e.at 49 _ rfl rfl
  have e57 := e.at 50 _ rfl rfl
  have e58 := e.at 51 _ rfl rfl
  simp only [evalS, den, convS, binS, intA, unA, resS, likeS, if_true, Option.some.injEq, AVal.int.injEq, true_and, AVal.bool.injEq, IntKind.bits, ht, tab, List.map, numS, List.all_cons, List.all_nil, Bool.and_true, eqS, Nat.reduceAdd] at e12 e13 e14 e15 e16 e17 e18 e19 e20 e21 e22 e23 e24 e25 e26 e28 e29 e30 e32 e33 e34 e35 e36 e37 e38 e39 e40 e41 e42 e43 e44 e45 e46 e47 e48 e49 e50 e51 e52 e53 e54 e55 e56 e57 e58
  have d : drop1 (σ.ival 2) = σ.ival 12 := e12
  rw [drop1_nice t0 t1] at d
  have o : σ.ival 14 = σ.ival 2 - σ.ival 2 % 2 := by
    rw [← e14, ← e13, ← d]
    simp [IntKind.wrap, IntKind.bits, IntKind.signed]; omega
  have lo : low1 (σ.ival 14) = 0 := by rw [low1_nice, o]; omega
  have l2 : low1 2 = 0 := by decide
  have l0 : low1 0 = 0 := by decide
  have l1 : low1 1 = 1 := by decide
  have x15 : σ.ival 15 = σ.ival 4 := by rw [← e15]; exact wrap64_of n0 (by omega)
  have x33 : σ.ival 33 = σ.ival 6 := by rw [← e33]; exact wrap64_of k0 (by omega)
  have x37 : σ.ival 37 = σ.ival 4 + σ.ival 6 := by rw [← e37, x15, x33]; exact wrap64_of (by omega) (by omega)
  have x30 : σ.ival 30 = σ.ival 26 := by rw [← e30]; exact off_C l2
  obtain ⟨s1, s2⟩ := add3 a0 a1 p0 p1 n0 k0 (by omega)
  have x46 : σ.ival 46 = first (σ.ival 0) (σ.ival 1) := by rw [← e46]; simp [nxt, l1]
  obtain ⟨u0, u1, u2, u3⟩ := once (c := σ.ival 0) (p := σ.ival 1)
  rw [← x46] at u0 u1 u2 u3
  have x47 : σ.ival 47 = 0 := by rw [← e47]; exact u1
  have x48 : σ.ival 48 = 0 := by rw [← e48]; exact u2
  simp only [trT, deads, true_and]
  and_intros
  · rintro ⟨h, _⟩
    simp only [Fact.holds] at h
    rw [← e22, ← e21, ← e18, ← e19, off_C lo, off_T lo] at h
    simp at h
  · rintro ⟨h, _⟩
    simp only [Fact.holds] at h
    rw [← e23, ← e20, off_K lo] at h
    simp at h
  · rintro ⟨h, _⟩
    simp only [Fact.holds] at h
    rw [← e25, ← e24] at h
    simp [nxt, lo] at h
  · rintro ⟨h, _⟩
    simp only [Fact.holds] at h
    rw [← e41, ← e32, off_K l2] at h
    simp at h
  · rintro ⟨h, _⟩
    simp only [Fact.holds] at h
    rw [← e43, ← e42, ← e34, ← e35, ← e38, ← e39, x30, ← e26, x15, x33, x37, s1, tkT3, tkT3] at h
    simp at h
  · rintro ⟨h, _⟩
    simp only [Fact.holds] at h
    have hb : tkK (σ.ival 0) (σ.ival 1) 3 (σ.ival 4 + σ.ival 6) = σ.ival 40 := by rw [← e40, x37]
    have r := tkK3 a0 a1 p0 p1 (n := σ.ival 4 + σ.ival 6) (by omega) (by omega)
    have r0 : 0 ≤ σ.ival 40 ∧ σ.ival 40 ≤ 1000000 := by
      rw [← hb, r]
      obtain ⟨q0, q1⟩ := q_pos p0 p1
      split
      · omega
      · have h1 : (σ.ival 4 + σ.ival 6 - ((σ.ival 1 - σ.ival 0 - 1) % 65536 + 1)) / q (σ.ival 1) ≤ σ.ival 4 + σ.ival 6 - ((σ.ival 1 - σ.ival 0 - 1) % 65536 + 1) := Int.ediv_le_self _ (by omega)
        have h0 : 0 ≤ (σ.ival 4 + σ.ival 6 - ((σ.ival 1 - σ.ival 0 - 1) % 65536 + 1)) / q (σ.ival 1) := Int.ediv_nonneg (by omega) (by omega)
        omega
    have hs : σ.ival 28 + σ.ival 36 = σ.ival 40 := by rw [← e28, ← e36, x30, ← e26, x15, x33, s2, hb]
    rw [← e45, ← e44, hs, wrap64_of r0.1 (by omega)] at h
    simp at h
  · rintro ⟨h, _⟩
    simp only [Fact.holds] at h
    rw [← e58, ← e52, x47, x48, off_K l0] at h
    simp at h
  · rintro ⟨h, _⟩
    simp only [Fact.holds] at h
    rw [← e57, ← e50, ← e51, x47, x48, off_C l0, off_T l0] at h
    simp at h
  · rintro ⟨h, _⟩
    simp only [Fact.holds] at h
    rw [← e56, x48] at h
    simp at h
  · rintro ⟨h, _⟩
    simp only [Fact.holds] at h
    rw [← e55, x47] at h
    simp at h
  · rintro ⟨h, _⟩
    simp only [Fact.holds] at h
    rw [← e54, ← e49, u3] at h
    simp at h
  · rintro ⟨h, _⟩
    simp only [Fact.holds] at h
    rw [← e53] at h
    simp at h
    omega
  · rintro ⟨h, _⟩
    simp only [Fact.holds] at h
    rw [← e17] at h
    simp at h
    omega
  · rintro ⟨h, _⟩
    simp only [Fact.holds] at h
    rw [← e16] at h
    simp at h
    omega

theorem walk (a0 a1 a2 a3 a4 a5 a6 : Int) (w0 : (Lit.int .u16 a0).wf = true) (w1 : (Lit.int .u16 a1).wf = true) (w2 : (Lit.int .u16 a2).wf = true) (w4 : (Lit.int .u16 a4).wf = true) (w5 : (Lit.int .u16 a5).wf = true) (w6 : (Lit.int .u16 a6).wf = true) (w : World) :
    Calls Try.prog 12 #[.agg #[.int .u16 a0, .int .u16 a1, .int .u16 a2], .int .i32 a3, .agg #[.int .u16 a4, .int .u16 a5, .int .u16 a6]] w fun e w' => e = .returned (.bool true) ∧ Below w.heap.size w w' := by
  obtain ⟨b00, b01⟩ := bounds_u16 w0
  obtain ⟨b10, b11⟩ := bounds_u16 w1
  obtain ⟨b20, b21⟩ := bounds_u16 w2
  obtain ⟨b40, b41⟩ := bounds_u16 w4
  obtain ⟨b50, b51⟩ := bounds_u16 w5
  obtain ⟨b60, b61⟩ := bounds_u16 w6
  refine nums_true (l := [a0, a1, a2, a3, a4, a5, a6]) (b := []) (hook := tkHook) (tab := tab) tk.mixed tr_ok (fun F => tk_hooks F) tr_reck (fun σ e ht hi _ => ?_) (fun g hi _ => ?_) w
  · have h0 : σ.ival 0 = a0 := hi 0 (by decide)
    have h1 : σ.ival 1 = a1 := hi 1 (by decide)
    have h2 : σ.ival 2 = a2 := hi 2 (by decide)
    have h4 : σ.ival 4 = a4 := hi 4 (by decide)
    have h5 : σ.ival 5 = a5 := hi 5 (by decide)
    have h6 : σ.ival 6 = a6 := hi 6 (by decide)
    exact plain σ e ht (by omega) (by omega) (by omega) (by omega) (by omega) (by omega) (by omega) (by omega) (by omega) (by omega) (by omega) (by omega)
  · have s := fun (i : Nat) (k : IntKind) (hlt : i < 7) => rel_symi (g := g) (k := k) (hi i hlt)
    exact .cons _ _ _ _ (.agg _ _ (.cons _ _ _ _ (s 0 .u16 (by decide)) (.cons _ _ _ _ (s 1 .u16 (by decide)) (.cons _ _ _ _ (s 2 .u16 (by decide)) .nil))))
      (.cons _ _ _ _ (s 3 .i32 (by decide)) (.cons _ _ _ _ (.agg _ _ (.cons _ _ _ _ (s 4 .u16 (by decide)) (.cons _ _ _ _ (s 5 .u16 (by decide)) (.cons _ _ _ _ (s 6 .u16 (by decide)) .nil)))) .nil))

theorem cells87 : Try.prog.cellsOf 87 = 3 := by kernel_rfl
theorem cells65 : Try.prog.cellsOf 65 = 1 := by kernel_rfl

section
variable {H : Type} {enc : TypeId × Value → H} {P : Program}
theorem post_of_below {f : Func} {s : ChangeSpec} {apart fresh handsOn again : Bool} {W W' : World} {args : Array Value} {v : Value} {ds gs : List (DataW H)} {before pa pv : List MemPlace}
    (hW : DataW.Whole enc P f.params.toList s.vars apart W args.toList ds gs before)
    (hres : ∀ (b : Nat) (sp : Nat → Bool) (hd : Bool), DataW.TrodAll enc P W' b sp hd f.resultTypes.toList (v.resultList f.resultTypes.size) (s.fn H (ds ++ gs)).results [])
    (hargs : ∀ sp : Nat → Bool, (∀ p ∈ before, sp p.block = true) → DataW.TrodAll enc P W' 0 sp true f.params.toList args.toList (s.fn H (ds ++ gs)).args pa)
    (hvars : ∀ sp : Nat → Bool, (∀ p ∈ before, sp p.block = true) → DataW.TrodVars enc P W' sp s.vars (s.fn H (ds ++ gs)).vars pv)
    (hps : before = pa ++ pv) (hb : Below W.heap.size W W')
    (hok : ∀ (j : Nat) (t : TypeId) (r : Value), f.resultTypes[j]? = some t → (v.resultList f.resultTypes.size)[j]? = some r → Value.okWide P W' .any 0 t r) :
    s.post enc P f apart fresh handsOn again W args v W' := by
  have hlt : ∀ p ∈ before, p.block < W.heap.size := fun p hp => hW.lt p hp
  have hold : ∀ p ∈ before, (fun b => decide (b < W.heap.size)) p.block = true := fun p hp => by simpa using hlt p hp
  refine ⟨ds, gs, before, [], pa, pv, hW, hres _ _ _, hargs _ hold, hvars _ hold, World.keptBut_mono (fun p hp => ⟨hp, ?_⟩) (hb.frame (· ∈ before)), fun _ => ?_⟩
  · rw [hps, List.mem_append] at hp
    exact Or.inr hp
  · obtain ⟨_, _, _, _, _, hz, hn⟩ := hW
    refine ⟨hok, _, _, ([] ++ pa) ++ pv, ⟨[] ++ pa, pv, trodAll_append (hargs _ (fun _ _ => rfl)) (hres _ _ _), hvars _ (fun _ _ => rfl), rfl, ?_, ?_⟩, ?_⟩
    · intro b off hp
      have hin : MemPlace.cell b off ∈ before := by rw [hps]; simpa using hp
      rw [hb.frozen (hlt _ hin)]
      exact hz b off hin
    · intro ha
      have := hn ha
      rw [hps] at this
      simpa using this
    · intro p hp _
      rw [hps]
      simpa using hp
end


set_option maxRecDepth 100000 in
theorem lifted (os : Os) (started : os.Started) (H : Type) (enc : TypeId × Value → H) :
    ReturnsInHanded {} Try.checked os 12 .any (Rows.timerRestsSpec.pre6 enc Try.prog Try.f12 Rows.timerRestsRow.domain false) (Rows.timerRestsSpec.post enc Try.prog Try.f12 false true false false) := by
  refine returnsInHanded_of_change (C := Try.checked) own started (by kernel_rfl) Try.func12
    (ChangeSpec.witness6 (enc := enc) (C := Try.checked) false ⟨#[], #[.agg #[.int .u16 0, .int .u16 0, .int .u16 0], .int .i32 0, .agg #[.int .u16 0, .int .u16 0, .int .u16 0]], []⟩ 8 (by kernel_rfl) (by kernel_rfl) (by kernel_rfl) (by kernel_rfl)) ?_
  intro W base args ds gs before hval0 hW hcnd _
  have hval : ∀ (j : Nat) t v, Try.f12.params[j]? = some t → args[j]? = some v → Value.okWide Try.prog W .any base t v := hval0
  have hW' := hW
  obtain ⟨p, q, hA0, hV, rfl, hfz, hnd⟩ := hW
  have hA : DataW.TrodAll enc Try.prog W 0 (fun _ => true) true Try.f12.params.toList args.toList ds p := hA0
  rw [Try.params12] at hA hval
  obtain ⟨v0, vs0, d0, ds0, p0, q0, hargs, rfl, rfl, h0, r0⟩ := trodAll_cons hA
  obtain ⟨v1, vs1, d1, ds1, p1, q1, rfl, rfl, rfl, h1, r1⟩ := trodAll_cons r0
  obtain ⟨v2, vs2, d2, ds2, p2, q2, rfl, rfl, rfl, h2, r2⟩ := trodAll_cons r1
  obtain ⟨rfl, rfl, rfl⟩ := trodAll_nil r2
  obtain rfl : args = #[v0, v1, v2] := by cases args; simp_all
  obtain ⟨rfl, rfl⟩ := trodVars_none hV
  obtain ⟨a0, a1, a2, rfl, rfl, rfl, w0, w1, w2⟩ := open_arr3 Try.underlying87 cells65 cells87 Try.underlying65 (hval 0 87 v0 rfl rfl) h0
  obtain ⟨a3, rfl, rfl, rfl, w3⟩ := open_int Try.underlying21 (hval 1 21 v1 rfl rfl) h1
  obtain ⟨a4, a5, a6, rfl, rfl, rfl, w4, w5, w6⟩ := open_arr3 Try.underlying87 cells65 cells87 Try.underlying65 (hval 2 87 v2 rfl rfl) h2
  clear hA0 hval0
  simp only [List.append_nil] at hW'
  refine (walk a0 a1 a2 a3 a4 a5 a6 w0 w1 w2 w4 w5 w6 W).mono fun e W' ⟨he, hg⟩ => ?_
  subst he
  exact ⟨_, rfl, post_of_below (pa := []) (pv := []) hW' (fun _ _ _ => (trodAll_cons_mk (shut_bool Try.underlying4 _) trodAll_mk0)) (fun sp _ => (trodAll_cons_mk (shut_arr3 Try.underlying87 cells65 cells87 Try.underlying65 w0 w1 w2) (trodAll_cons_mk (shut_int Try.underlying21 w3) (trodAll_cons_mk (shut_arr3 Try.underlying87 cells65 cells87 Try.underlying65 w4 w5 w6) trodAll_mk0)))) (fun _ _ => rfl) rfl
    hg (ok_one (by kernel_rfl) rfl (okWide_bool_mk Try.underlying4 _))⟩

theorem over : Rows.timerRestsRow.holds Try.pinned (OpenSpec.ofChange Rows.timerRestsSpec) :=
  OpenClaim.holds_of_wide 12 Try.f12 rfl rfl rfl rfl rfl rfl rfl ⟨rfl, rfl, rfl, rfl, rfl⟩ rfl rfl rfl rfl rfl (by kernel_rfl) Try.func12 (by kernel_rfl)
    (of_decide_eq_true (by kernel_rfl)) (by unfold Func.isWrapper; first | (rw [if_pos (by decide +kernel)]; kernel_rfl) | (rw [if_neg (by decide +kernel)]; exact ⟨rfl, rfl⟩))
    (fun os started H enc _ => lifted os started H enc)

/-- THE STATEMENT -/
theorem proved : Rows.TimerRestsSaid :=
  over
#print axioms proved
end Go.Proofs.Ytgifnmiggloclaa.timerRests
