/-
  WireLays is true: numbers, whole numbers, truths, texts are laid as the document says, behind any bytes.
  No conditions.
-/
import Derived.Test.YtapfkgenachpgaaDoorRows
import Derived.Test.YtapfkgenachpgaaDoorCards
import Derived.Test.YtapfkgenachpgaaDoorTie
import Derived.SevenTiedAt
import Derived.WalkKit
import Derived.ProofKit
import Derived.OpenShut
import Derived.Below
import Derived.ChangeSame
import Derived.ChangeMaps5
import Derived.Lib.Strings
import Derived.Test.YtapfkgenachpgaaDoorFa
import Derived.Test.YtapfkgenachpgaaDoorWl
namespace Go.Proofs.YtapfkgenachpgaaDoor.wireLays
open Go.ChangeShapes Go.WideShapes Go.ChangeAt Go.RowKit
open Go.Ev Go.Proofs.YtapfkgenachpgaaDoor.fa Go.Proofs.YtapfkgenachpgaaDoor.wl
set_option linter.unusedVariables false
set_option linter.unusedSimpArgs false

theorem own : ownKnob Tryd.prog.godebug = none := by kernel_rfl

/-! ### The chapter's examples -/
noncomputable def ing : Ing := { m := 0, G := [], T := .e, mh := asMh Tryd.prog 45 74 76 46 40, inv := OwnInv 0 isErr }
theorem hooks (F : List Fact) : Hooks Tryd.prog (cxOf ing F) :=
  ⟨fun f args v h => by simp only [ing, cxOf, noHook, reduceCtorEq] at h, fun f args hp v hp' h => as_mem (X := ing) rfl rfl as_ok is_ok (fun _ h => h) F f args hp v hp' h, fun f k h => by simp only [ing, cxOf, reduceCtorEq] at h, fun k b h => by simp only [ing, cxOf, List.not_mem_nil] at h⟩
theorem works_run : isTrue ((evD Tryd.prog (cxOf ing) true 1000 40).1 [] 8 [] ⟨[], []⟩) = true := by kernel_rfl
theorem works_own (w : World) (O : Obj) (hO : isErr O) (hw : w.heap[0]? = some O) : Calls Tryd.prog 8 #[] w fun e w' => e = .returned (.bool true) ∧ Below w.heap.size w w' := by
  have hY : FzOk (errRow O) w := by
    obtain ⟨C, t, fr, rfl, hC⟩ := hO
    exact ⟨C, t, fr, hw, fun m j hm hj => absurd hj (Nat.not_lt_zero j), fun o ho => by cases ho; exact hw⟩
  exact closed_own (Y := errRow O) ⟨rfl, rfl, rfl, rfl, rfl, rfl⟩ (fun σ he => own_inv (r := 0) hO (by rw [he]; rfl)) (hm := mixed) (hh := hooks) (h := works_run) (w := w) (hY := hY)

theorem true_mem0 {P : Program} {X : Ing} {fs : List Nat} {blk : Nat} {OK : Obj → Prop}
    (h : ∀ f, f ∈ fs → ∀ (w : World) (O : Obj), OK O → w.heap[blk]? = some O → Calls P f #[] w fun e w' => e = .returned (.bool true) ∧ Below w.heap.size w w')
    (hinv : ∀ σ, X.inv σ → OwnInv blk OK σ) (F : List Fact) (look : SDef → Option AVal) (f : FuncId) (args : List AVal) (hp : Hp) (v : AVal) (hp' : Hp) (hm : trueMh fs look f args hp = some (v, hp')) : CallP P (cxOf X F) f args hp (.val v) hp' := by
  unfold trueMh at hm
  split at hm
  · split at hm
    · rename_i hf
      cases hm
      obtain ⟨f', hf1, hf2⟩ := List.any_eq_true.1 hf
      have := Nat.eq_of_beq_eq_true hf2
      subst this
      refine ⟨Touch.refl _, fun g w args' hH hl => ?_⟩
      obtain ⟨l⟩ := args'
      cases hl
      obtain ⟨O, hO1, hO2⟩ := own_of hH (hinv _ hH.sig.ok.2.inv)
      refine (h f hf1 w O hO1 hO2).mono ?_
      rintro e w' ⟨rfl, hB⟩
      obtain ⟨g1, g2⟩ := hH.below hB
      exact ⟨g, ⟨_, rfl, .bool _⟩, g1, g2⟩
    · cases hm
  · cases hm

theorem Stage.segC {P : Program} {tab : TabF} {n : Nat} {W0 : Fra} {Z : Exit → Act → World → Prop} {c1 c2 : List Code} {S S2 : Shape} {q q2 : Nat} {ins ins2 : List (Option IntKind)} {J J2 : Sig → Prop} {X : Ing} {Wt : Sw}
    (hm : P.follows .mixedOrders = true) (lt : okLT X.m X.G X.T = true) (ok : okG X.G X.m = true) (hook : ∀ F, Hooks P (cxOf X F)) (n0 : X.n = 0) (id : idOk S X.m = true)
    (reck : okSw (fun F => runL P (cxOf X) true X.fu (evD P (cxOf X) true X.fu 40).1 (evD P (cxOf X) true X.fu 40).2 c1 F (tmOf S n) ⟨S.heap, []⟩) Wt [] = true) (tb : X.tab = tab) (kt : okKt X = true)
    (aX : X.m = q ∧ X.ins = ins) (hJ : ∀ σ τ, Agree q σ τ → J σ → J τ) (hr : ∀ τ, Eqs τ q X.G → τ.tab = tab → J τ → RowsOk τ X.rows ∧ CutsOk τ X.cuts) (hinv : ∀ τ, J τ → X.inv τ)
    (next : Stage P tab n W0 Z c2 S2 q2 ins2 J2)
    (o : ∀ τ, Eqs τ q X.G → τ.tab = tab → InsOk τ q ins → J τ → segsW τ (fun x s σ2 => (x = .normal ∧ s = S2 ∧ InsOk σ2 q2 ins2 ∧ J2 σ2 ∧ σ2.tab = tab) ∨ (x ≠ .normal ∧ EndZ tab n W0 Z x s σ2)) Wt []) (hp : ∀ i, W0.pin i ≠ none → pinW i Wt = true := by exact fun _ h => absurd rfl h) :
    Stage P tab n W0 Z (c1 ++ c2) S q ins J := by
  intro a w σ hA hi hj ht
  obtain ⟨rfl, rfl⟩ := aX
  subst tb
  have ag := agree_solve X.G X.m σ
  have hi2 : InsOk (solve X.G X.m σ) X.m X.ins := by
    intro i k hi' hk
    rw [← (ag.val i hi').1]; exact hi i k hi' hk
  have hj2 := hJ _ _ ag hj
  have ht2 : (solve X.G X.m σ).tab = X.tab := by rw [← ag.tab]; exact ht
  have ob := o _ (eqs_solve ok) ht2 hi2 hj2
  have hrc := hr _ (eqs_solve ok) ht2 hj2
  rw [chainK_append]
  refine segL hm lt ok hook n0 id reck hA hi ob ?_ hrc.1 hrc.2 (hinv _ hj2) kt hp
  rintro e a' w' x s2 σ2 hx hq hA2
  rcases hq with ⟨rfl, rfl, gi, gj, gt⟩ | ⟨hne, hz⟩
  · cases e <;> simp only [SExRel] at hx
    exact next a' w' σ2 hA2 gi gj gt
  · have := hz e a' w' hx hA2
    cases e with
    | normal => cases x <;> simp only [SExRel] at hx; exact absurd rfl hne
    | _ => exact this

theorem inv_trans {E : Nat → Option Fz} {σ τ : Sig} (hx : τ.ext = σ.ext) (hxs : sf9.xs.map (den τ) = wlX.map (den σ)) (hv : wlInv E σ) : wlInv E τ := by
  have h : [AVal.int .i64 (τ.ival 1), .str (τ.sval 2)] = [AVal.int .i64 (σ.ival 1), .str (σ.sval 2)] := hxs
  simp only [List.cons.injEq, AVal.int.injEq, AVal.str.injEq, true_and, and_true] at h
  refine ⟨by rw [hx]; exact hv.1, fun Y hY => ?_⟩
  obtain ⟨h1, h2, T, h3, h4⟩ := hv.2 Y hY
  exact ⟨by rw [h.1]; exact h1, h2, T, by rw [← h3]; show AVal.str _ = AVal.str _; rw [h.2], h4⟩

set_option maxRecDepth 100000 in
def wlBG : List SDef := [.bin .leq (.int .i64 0) (.symi .i64 1),
  .bin .leq (.symi .i64 1) (.int .i64 1000000),
  .bin .shr (.symi .u64 0) (.int .i64 0),
  .sop (.fs 140) [.symi .u64 7],
  .sop .cat [.syms 2, .syms 8],
  .fn 141 .i64 [.symi .u64 7],
  .bin .add (.symi .i64 1) (.symi .i64 10),
  .bin .lss (.int .i64 0) (.symi .i64 11),
  .sop .len [.syms 9],
  .bin .leq (.symi .i64 13) (.int .i64 9223372036854775807),
  .conv .i64 (.symi .u64 7),
  .conv .u64 (.symi .i64 15),
  .bin .shl (.symi .u64 16) (.int .u64 1),
  .bin .shr (.symi .i64 15) (.int .u64 63),
  .conv .u64 (.symi .i64 18),
  .bin .xor (.symi .u64 17) (.symi .u64 19),
  .sop (.fs 140) [.symi .u64 20],
  .sop .cat [.syms 2, .syms 21],
  .fn 141 .i64 [.symi .u64 20],
  .bin .add (.symi .i64 1) (.symi .i64 23),
  .bin .lss (.int .i64 0) (.symi .i64 24),
  .bin .geq (.symi .i64 15) (.int .i64 0),
  .bin .mul (.int .u64 2) (.symi .u64 16),
  .sop (.fs 140) [.symi .u64 27],
  .bin .add (.symi .i64 15) (.int .i64 1),
  .un .neg (.symi .i64 29),
  .conv .u64 (.symi .i64 30),
  .bin .mul (.int .u64 2) (.symi .u64 31),
  .bin .add (.symi .u64 32) (.int .u64 1),
  .sop (.fs 140) [.symi .u64 33],
  .ite (.symb 26) (.syms 28) (.syms 34),
  .sop .cat [.syms 2, .syms 35],
  .sop .len [.syms 36],
  .bin .leq (.symi .i64 37) (.int .i64 9223372036854775807),
  .bin .neq (.syms 22) (.syms 36),
  .bin .shr (.symi .u64 0) (.int .i64 9),
  .sop (.fs 140) [.symi .u64 40],
  .sop .cat [.syms 2, .syms 41],
  .fn 141 .i64 [.symi .u64 40],
  .bin .add (.symi .i64 1) (.symi .i64 43),
  .bin .lss (.int .i64 0) (.symi .i64 44),
  .sop .len [.syms 42],
  .bin .leq (.symi .i64 46) (.int .i64 9223372036854775807),
  .conv .i64 (.symi .u64 40),
  .conv .u64 (.symi .i64 48),
  .bin .shl (.symi .u64 49) (.int .u64 1),
  .bin .shr (.symi .i64 48) (.int .u64 63),
  .conv .u64 (.symi .i64 51),
  .bin .xor (.symi .u64 50) (.symi .u64 52),
  .sop (.fs 140) [.symi .u64 53],
  .sop .cat [.syms 2, .syms 54],
  .fn 141 .i64 [.symi .u64 53],
  .bin .add (.symi .i64 1) (.symi .i64 56),
  .bin .lss (.int .i64 0) (.symi .i64 57),
  .bin .geq (.symi .i64 48) (.int .i64 0),
  .bin .mul (.int .u64 2) (.symi .u64 49),
  .sop (.fs 140) [.symi .u64 60],
  .sop .cat [.syms 2, .syms 61],
  .sop .len [.syms 62],
  .bin .leq (.symi .i64 63) (.int .i64 9223372036854775807),
  .bin .neq (.syms 55) (.syms 62),
  .bin .shr (.symi .u64 0) (.int .i64 18),
  .sop (.fs 140) [.symi .u64 66],
  .sop .cat [.syms 2, .syms 67],
  .fn 141 .i64 [.symi .u64 66],
  .bin .add (.symi .i64 1) (.symi .i64 69),
  .bin .lss (.int .i64 0) (.symi .i64 70),
  .sop .len [.syms 68],
  .bin .leq (.symi .i64 72) (.int .i64 9223372036854775807),
  .conv .i64 (.symi .u64 66),
  .conv .u64 (.symi .i64 74),
  .bin .shl (.symi .u64 75) (.int .u64 1),
  .bin .shr (.symi .i64 74) (.int .u64 63),
  .conv .u64 (.symi .i64 77),
  .bin .xor (.symi .u64 76) (.symi .u64 78),
  .sop (.fs 140) [.symi .u64 79],
  .sop .cat [.syms 2, .syms 80],
  .fn 141 .i64 [.symi .u64 79],
  .bin .add (.symi .i64 1) (.symi .i64 82),
  .bin .lss (.int .i64 0) (.symi .i64 83),
  .bin .geq (.symi .i64 74) (.int .i64 0),
  .bin .mul (.int .u64 2) (.symi .u64 75),
  .sop (.fs 140) [.symi .u64 86],
  .sop .cat [.syms 2, .syms 87],
  .sop .len [.syms 88],
  .bin .leq (.symi .i64 89) (.int .i64 9223372036854775807),
  .bin .neq (.syms 81) (.syms 88),
  .bin .shr (.symi .u64 0) (.int .i64 27),
  .sop (.fs 140) [.symi .u64 92],
  .sop .cat [.syms 2, .syms 93],
  .fn 141 .i64 [.symi .u64 92],
  .bin .add (.symi .i64 1) (.symi .i64 95),
  .bin .lss (.int .i64 0) (.symi .i64 96),
  .sop .len [.syms 94],
  .bin .leq (.symi .i64 98) (.int .i64 9223372036854775807),
  .conv .i64 (.symi .u64 92),
  .conv .u64 (.symi .i64 100),
  .bin .shl (.symi .u64 101) (.int .u64 1),
  .bin .shr (.symi .i64 100) (.int .u64 63),
  .conv .u64 (.symi .i64 103),
  .bin .xor (.symi .u64 102) (.symi .u64 104),
  .sop (.fs 140) [.symi .u64 105],
  .sop .cat [.syms 2, .syms 106],
  .fn 141 .i64 [.symi .u64 105],
  .bin .add (.symi .i64 1) (.symi .i64 108),
  .bin .lss (.int .i64 0) (.symi .i64 109),
  .bin .geq (.symi .i64 100) (.int .i64 0),
  .bin .mul (.int .u64 2) (.symi .u64 101),
  .sop (.fs 140) [.symi .u64 112],
  .sop .cat [.syms 2, .syms 113],
  .sop .len [.syms 114],
  .bin .leq (.symi .i64 115) (.int .i64 9223372036854775807),
  .bin .neq (.syms 107) (.syms 114),
  .bin .shr (.symi .u64 0) (.int .i64 36),
  .sop (.fs 140) [.symi .u64 118],
  .sop .cat [.syms 2, .syms 119],
  .fn 141 .i64 [.symi .u64 118],
  .bin .add (.symi .i64 1) (.symi .i64 121),
  .bin .lss (.int .i64 0) (.symi .i64 122),
  .sop .len [.syms 120],
  .bin .leq (.symi .i64 124) (.int .i64 9223372036854775807),
  .conv .i64 (.symi .u64 118),
  .conv .u64 (.symi .i64 126),
  .bin .shl (.symi .u64 127) (.int .u64 1),
  .bin .shr (.symi .i64 126) (.int .u64 63),
  .conv .u64 (.symi .i64 129),
  .bin .xor (.symi .u64 128) (.symi .u64 130),
  .sop (.fs 140) [.symi .u64 131],
  .sop .cat [.syms 2, .syms 132],
  .fn 141 .i64 [.symi .u64 131],
  .bin .add (.symi .i64 1) (.symi .i64 134),
  .bin .lss (.int .i64 0) (.symi .i64 135),
  .bin .geq (.symi .i64 126) (.int .i64 0),
  .bin .mul (.int .u64 2) (.symi .u64 127),
  .sop (.fs 140) [.symi .u64 138],
  .sop .cat [.syms 2, .syms 139],
  .sop .len [.syms 140],
  .bin .leq (.symi .i64 141) (.int .i64 9223372036854775807),
  .bin .neq (.syms 133) (.syms 140),
  .bin .shr (.symi .u64 0) (.int .i64 45),
  .sop (.fs 140) [.symi .u64 144],
  .sop .cat [.syms 2, .syms 145],
  .fn 141 .i64 [.symi .u64 144],
  .bin .add (.symi .i64 1) (.symi .i64 147),
  .bin .lss (.int .i64 0) (.symi .i64 148),
  .sop .len [.syms 146],
  .bin .leq (.symi .i64 150) (.int .i64 9223372036854775807),
  .conv .i64 (.symi .u64 144),
  .conv .u64 (.symi .i64 152),
  .bin .shl (.symi .u64 153) (.int .u64 1),
  .bin .shr (.symi .i64 152) (.int .u64 63),
  .conv .u64 (.symi .i64 155),
  .bin .xor (.symi .u64 154) (.symi .u64 156),
  .sop (.fs 140) [.symi .u64 157],
  .sop .cat [.syms 2, .syms 158],
  .fn 141 .i64 [.symi .u64 157],
  .bin .add (.symi .i64 1) (.symi .i64 160),
  .bin .lss (.int .i64 0) (.symi .i64 161),
  .bin .geq (.symi .i64 152) (.int .i64 0),
  .bin .mul (.int .u64 2) (.symi .u64 153),
  .sop (.fs 140) [.symi .u64 164],
  .sop .cat [.syms 2, .syms 165],
  .sop .len [.syms 166],
  .bin .leq (.symi .i64 167) (.int .i64 9223372036854775807),
  .bin .neq (.syms 159) (.syms 166),
  .bin .shr (.symi .u64 0) (.int .i64 54),
  .sop (.fs 140) [.symi .u64 170],
  .sop .cat [.syms 2, .syms 171],
  .fn 141 .i64 [.symi .u64 170],
  .bin .add (.symi .i64 1) (.symi .i64 173),
  .bin .lss (.int .i64 0) (.symi .i64 174),
  .sop .len [.syms 172],
  .bin .leq (.symi .i64 176) (.int .i64 9223372036854775807),
  .conv .i64 (.symi .u64 170),
  .conv .u64 (.symi .i64 178),
  .bin .shl (.symi .u64 179) (.int .u64 1),
  .bin .shr (.symi .i64 178) (.int .u64 63),
  .conv .u64 (.symi .i64 181),
  .bin .xor (.symi .u64 180) (.symi .u64 182),
  .sop (.fs 140) [.symi .u64 183],
  .sop .cat [.syms 2, .syms 184],
  .fn 141 .i64 [.symi .u64 183],
  .bin .add (.symi .i64 1) (.symi .i64 186),
  .bin .lss (.int .i64 0) (.symi .i64 187),
  .bin .geq (.symi .i64 178) (.int .i64 0),
  .bin .mul (.int .u64 2) (.symi .u64 179),
  .sop (.fs 140) [.symi .u64 190],
  .sop .cat [.syms 2, .syms 191],
  .sop .len [.syms 192],
  .bin .leq (.symi .i64 193) (.int .i64 9223372036854775807),
  .bin .neq (.syms 185) (.syms 192),
  .bin .shr (.symi .u64 0) (.int .i64 63),
  .sop (.fs 140) [.symi .u64 196],
  .sop .cat [.syms 2, .syms 197],
  .fn 141 .i64 [.symi .u64 196],
  .bin .add (.symi .i64 1) (.symi .i64 199),
  .bin .lss (.int .i64 0) (.symi .i64 200),
  .sop .len [.syms 198],
  .bin .leq (.symi .i64 202) (.int .i64 9223372036854775807),
  .conv .i64 (.symi .u64 196),
  .conv .u64 (.symi .i64 204),
  .bin .shl (.symi .u64 205) (.int .u64 1),
  .bin .shr (.symi .i64 204) (.int .u64 63),
  .conv .u64 (.symi .i64 207),
  .bin .xor (.symi .u64 206) (.symi .u64 208),
  .sop (.fs 140) [.symi .u64 209],
  .sop .cat [.syms 2, .syms 210],
  .fn 141 .i64 [.symi .u64 209],
  .bin .add (.symi .i64 1) (.symi .i64 212),
  .bin .lss (.int .i64 0) (.symi .i64 213),
  .bin .geq (.symi .i64 204) (.int .i64 0),
  .bin .mul (.int .u64 2) (.symi .u64 205),
  .sop (.fs 140) [.symi .u64 216],
  .sop .cat [.syms 2, .syms 217],
  .sop .len [.syms 218],
  .bin .leq (.symi .i64 219) (.int .i64 9223372036854775807),
  .bin .neq (.syms 211) (.syms 218)]
set_option maxRecDepth 100000 in
def wlBT : LT := .n (.n (.n (.n (.n (.n (.n (.n (.e) 10380 7 (.bin .shr (.symi .u64 0) (.int .i64 0)) (.e)) 460695 40 (.bin .shr (.symi .u64 0) (.int .i64 9)) (.n (.e) 911010 66 (.bin .shr (.symi .u64 0) (.int .i64 18)) (.e))) 1361325 92 (.bin .shr (.symi .u64 0) (.int .i64 27)) (.n (.n (.e) 1478116 57 (.bin .add (.symi .i64 1) (.symi .i64 56)) (.e)) 1811640 118 (.bin .shr (.symi .u64 0) (.int .i64 36)) (.e))) 2261955 144 (.bin .shr (.symi .u64 0) (.int .i64 45)) (.n (.n (.n (.e) 2712270 170 (.bin .shr (.symi .u64 0) (.int .i64 54)) (.e)) 3162585 196 (.bin .shr (.symi .u64 0) (.int .i64 63)) (.n (.e) 4529393 203 (.bin .leq (.symi .i64 202) (.int .i64 9223372036854775807)) (.e))) 10844567 33 (.bin .add (.symi .u64 32) (.int .u64 1)) (.n (.n (.e) 13235483 123 (.bin .lss (.int .i64 0) (.symi .i64 122)) (.e)) 20787731 65 (.bin .neq (.syms 55) (.syms 62)) (.e)))) 35565994 35 (.ite (.symb 26) (.syms 28) (.syms 34)) (.n (.n (.n (.n (.e) 45210402 81 (.sop .cat [.syms 2, .syms 80]) (.e)) 56101886 69 (.fn 141 .i64 [.symi .u64 66]) (.n (.e) 58890344 76 (.bin .shl (.symi .u64 75) (.int .u64 1)) (.e))) 73567156 36 (.sop .cat [.syms 2, .syms 35]) (.n (.n (.e) 75202074 45 (.bin .lss (.int .i64 0) (.symi .i64 44)) (.e)) 80444275 179 (.conv .u64 (.symi .i64 178)) (.e))) 92217337 120 (.sop .cat [.syms 2, .syms 119]) (.n (.n (.n (.e) 93137342 127 (.conv .u64 (.symi .i64 126)) (.e)) 95407436 8 (.sop (.fs 140) [.symi .u64 7]) (.n (.e) 97894028 79 (.bin .xor (.symi .u64 76) (.symi .u64 78)) (.e))) 98434682 169 (.bin .neq (.syms 159) (.syms 166)) (.n (.n (.e) 105830409 75 (.conv .u64 (.symi .i64 74)) (.e)) 108140731 148 (.bin .add (.symi .i64 1) (.symi .i64 147)) (.e))))) 118930295 21 (.sop (.fs 140) [.symi .u64 20]) (.n (.n (.n (.n (.n (.e) 119898098 214 (.bin .lss (.int .i64 0) (.symi .i64 213)) (.e)) 121222772 151 (.bin .leq (.symi .i64 150) (.int .i64 9223372036854775807)) (.n (.e) 124979266 27 (.bin .mul (.int .u64 2) (.symi .u64 16)) (.e))) 139224272 159 (.sop .cat [.syms 2, .syms 158]) (.n (.n (.e) 139799091 183 (.bin .xor (.symi .u64 180) (.symi .u64 182)) (.e)) 142453154 34 (.sop (.fs 140) [.symi .u64 33]) (.e))) 165977552 160 (.fn 141 .i64 [.symi .u64 157]) (.n (.n (.n (.e) 167581026 114 (.sop .cat [.syms 2, .syms 113]) (.e)) 169268493 194 (.bin .leq (.symi .i64 193) (.int .i64 9223372036854775807)) (.n (.e) 170107322 70 (.bin .add (.symi .i64 1) (.symi .i64 69)) (.e))) 181864689 136 (.bin .lss (.int .i64 0) (.symi .i64 135)) (.n (.n (.e) 186231207 198 (.sop .cat [.syms 2, .syms 197]) (.e)) 202977528 215 (.bin .geq (.symi .i64 204) (.int .i64 0)) (.e)))) 206129684 207 (.bin .shr (.symi .i64 204) (.int .u64 63)) (.n (.n (.n (.n (.e) 214191975 28 (.sop (.fs 140) [.symi .u64 27]) (.e)) 237714834 41 (.sop (.fs 140) [.symi .u64 40]) (.n (.e) 237916151 99 (.bin .leq (.symi .i64 98) (.int .i64 9223372036854775807)) (.e))) 240886623 95 (.fn 141 .i64 [.symi .u64 92]) (.n (.n (.e) 242825012 14 (.bin .leq (.symi .i64 13) (.int .i64 9223372036854775807)) (.e)) 243831280 58 (.bin .lss (.int .i64 0) (.symi .i64 57)) (.e))) 257037476 190 (.bin .mul (.int .u64 2) (.symi .u64 179)) (.n (.n (.n (.e) 261237693 54 (.sop (.fs 140) [.symi .u64 53]) (.e)) 261594896 192 (.sop .cat [.syms 2, .syms 191]) (.e)) 276769937 161 (.bin .add (.symi .i64 1) (.symi .i64 160)) (.n (.n (.e) 284760552 67 (.sop (.fs 140) [.symi .u64 66]) (.e)) 285961872 142 (.bin .leq (.symi .i64 141) (.int .i64 9223372036854775807)) (.e)))))) 304027810 206 (.bin .shl (.symi .u64 205) (.int .u64 1)) (.n (.n (.n (.n (.n (.n (.e) 308283411 80 (.sop (.fs 140) [.symi .u64 79]) (.e)) 313340933 11 (.bin .add (.symi .i64 1) (.symi .i64 10)) (.n (.e) 319004067 112 (.bin .mul (.int .u64 2) (.symi .u64 101)) (.e))) 319670907 163 (.bin .geq (.symi .i64 152) (.int .i64 0)) (.n (.n (.e) 322823063 155 (.bin .shr (.symi .i64 152) (.int .u64 63)) (.e)) 330183630 178 (.conv .i64 (.symi .u64 170)) (.e))) 331806270 93 (.sop (.fs 140) [.symi .u64 92]) (.n (.n (.n (.e) 338736528 83 (.bin .add (.symi .i64 1) (.symi .i64 82)) (.e)) 342876697 126 (.conv .i64 (.symi .u64 118)) (.n (.e) 343383805 5 (.bin .leq (.int .i64 0) (.symi .i64 1)) (.e))) 347458401 143 (.bin .neq (.syms 133) (.syms 140)) (.n (.n (.e) 350493895 149 (.bin .lss (.int .i64 0) (.symi .i64 148)) (.e)) 350762289 186 (.fn 141 .i64 [.symi .u64 183]) (.e)))) 354609530 47 (.bin .leq (.symi .i64 46) (.int .i64 9223372036854775807)) (.n (.n (.n (.n (.e) 355329129 106 (.sop (.fs 140) [.symi .u64 105]) (.e)) 355569764 74 (.conv .i64 (.symi .u64 66)) (.n (.e) 355853219 53 (.bin .xor (.symi .u64 50) (.symi .u64 52)) (.e))) 356499373 61 (.sop (.fs 140) [.symi .u64 60]) (.n (.n (.e) 378851988 119 (.sop (.fs 140) [.symi .u64 118]) (.e)) 387455366 68 (.sop .cat [.syms 2, .syms 67]) (.e))) 389445202 182 (.conv .u64 (.symi .i64 181)) (.n (.n (.n (.e) 397758282 157 (.bin .xor (.symi .u64 154) (.symi .u64 156)) (.e)) 402138269 130 (.conv .u64 (.symi .i64 129)) (.e)) 402374847 132 (.sop (.fs 140) [.symi .u64 131]) (.n (.n (.e) 402655251 90 (.bin .leq (.symi .i64 89) (.int .i64 9223372036854775807)) (.e)) 403545091 87 (.sop (.fs 140) [.symi .u64 86]) (.e))))) 412460486 71 (.bin .lss (.int .i64 0) (.symi .i64 70)) (.n (.n (.n (.n (.n (.e) 414831336 78 (.conv .u64 (.symi .i64 77)) (.e)) 420721189 154 (.bin .shl (.symi .u64 153) (.int .u64 1)) (.n (.e) 425671360 121 (.fn 141 .i64 [.symi .u64 118]) (.e))) 425897706 145 (.sop (.fs 140) [.symi .u64 144]) (.n (.n (.e) 429320870 13 (.sop .len [.syms 9]) (.e)) 434462301 107 (.sop .cat [.syms 2, .syms 106]) (.e))) 436364286 111 (.bin .geq (.symi .i64 100) (.int .i64 0)) (.n (.n (.n (.e) 439516442 103 (.bin .shr (.symi .i64 100) (.int .u64 63)) (.e)) 441273147 26 (.bin .geq (.symi .i64 15) (.int .i64 0)) (.n (.e) 441323070 29 (.bin .add (.symi .i64 15) (.int .i64 1)) (.e))) 444425303 18 (.bin .shr (.symi .i64 15) (.int .u64 63)) (.n (.n (.e) 445399143 174 (.bin .add (.symi .i64 1) (.symi .i64 173)) (.e)) 449420565 158 (.sop (.fs 140) [.symi .u64 157]) (.e)))) 450590809 113 (.sop (.fs 140) [.symi .u64 112]) (.n (.n (.n (.n (.e) 462819055 62 (.sop .cat [.syms 2, .syms 61]) (.e)) 471263140 16 (.conv .u64 (.symi .i64 15)) (.n (.e) 472534770 23 (.fn 141 .i64 [.symi .u64 20]) (.e))) 472943424 171 (.sop (.fs 140) [.symi .u64 170]) (.n (.n (.e) 481469236 146 (.sop .cat [.syms 2, .syms 145]) (.e)) 481970139 24 (.bin .add (.symi .i64 1) (.symi .i64 23)) (.e))) 496466283 184 (.sop (.fs 140) [.symi .u64 183]) (.n (.n (.n (.e) 497636527 139 (.sop (.fs 140) [.symi .u64 138]) (.e)) 500580431 56 (.fn 141 .i64 [.symi .u64 53]) (.e)) 507365734 96 (.bin .add (.symi .i64 1) (.symi .i64 95)) (.n (.n (.e) 519123101 162 (.bin .lss (.int .i64 0) (.symi .i64 161)) (.e)) 519348630 38 (.bin .leq (.symi .i64 37) (.int .i64 9223372036854775807)) (.e))))))) 519989142 197 (.sop (.fs 140) [.symi .u64 196]) (.n (.n (.n (.n (.n (.n (.n (.e) 528476171 185 (.sop .cat [.syms 2, .syms 184]) (.e)) 535547026 212 (.fn 141 .i64 [.symi .u64 209]) (.n (.e) 537414568 102 (.bin .shl (.symi .u64 101) (.int .u64 1)) (.e))) 542323429 17 (.bin .shl (.symi .u64 16) (.int .u64 1)) (.n (.n (.e) 543512001 210 (.sop (.fs 140) [.symi .u64 209]) (.e)) 544682245 165 (.sop (.fs 140) [.symi .u64 164]) (.e))) 553057665 59 (.bin .geq (.symi .i64 48) (.int .i64 0)) (.n (.n (.n (.e) 555694097 12 (.bin .lss (.int .i64 0) (.symi .i64 11)) (.e)) 556209821 51 (.bin .shr (.symi .i64 48) (.int .u64 63)) (.n (.e) 556832925 140 (.sop .cat [.syms 2, .syms 139]) (.e))) 571815642 46 (.sop .len [.syms 42]) (.n (.n (.e) 581089692 84 (.bin .lss (.int .i64 0) (.symi .i64 83)) (.e)) 591727963 191 (.sop (.fs 140) [.symi .u64 190]) (.e)))) 594295888 216 (.bin .mul (.int .u64 2) (.symi .u64 205)) (.n (.n (.n (.n (.e) 596482120 117 (.bin .neq (.syms 107) (.syms 114)) (.e)) 599746996 177 (.bin .leq (.symi .i64 176) (.int .i64 9223372036854775807)) (.n (.e) 607329706 22 (.sop .cat [.syms 2, .syms 21]) (.e))) 610456097 147 (.fn 141 .i64 [.symi .u64 144]) (.n (.n (.e) 610968655 205 (.conv .u64 (.symi .i64 204)) (.e)) 614028349 187 (.bin .add (.symi .i64 1) (.symi .i64 186)) (.e))) 619008988 72 (.sop .len [.syms 68]) (.n (.n (.n (.e) 623661722 153 (.conv .u64 (.symi .i64 152)) (.e)) 636354789 101 (.conv .u64 (.symi .i64 100)) (.n (.e) 636527118 39 (.bin .neq (.syms 22) (.syms 36)) (.e))) 638773681 217 (.sop (.fs 140) [.symi .u64 216]) (.n (.n (.e) 643520395 37 (.sop .len [.syms 36]) (.e)) 647792717 220 (.bin .leq (.symi .i64 219) (.int .i64 9223372036854775807)) (.e))))) 649047856 49 (.conv .u64 (.symi .i64 48)) (.n (.n (.n (.n (.n (.e) 650846795 218 (.sop .cat [.syms 2, .syms 217]) (.e)) 654107947 50 (.bin .shl (.symi .u64 49) (.int .u64 1)) (.n (.e) 655717473 131 (.bin .xor (.symi .u64 128) (.symi .u64 130)) (.e))) 656262479 138 (.bin .mul (.int .u64 2) (.symi .u64 127)) (.n (.n (.e) 666202334 98 (.sop .len [.syms 94]) (.e)) 674129071 221 (.bin .neq (.syms 211) (.syms 218)) (.e))) 675994940 109 (.bin .add (.symi .i64 1) (.symi .i64 108)) (.n (.n (.n (.e) 685365168 82 (.fn 141 .i64 [.symi .u64 79]) (.e)) 687752307 175 (.bin .lss (.int .i64 0) (.symi .i64 174)) (.n (.e) 690713741 63 (.sop .len [.syms 62]) (.e))) 713395680 124 (.sop .len [.syms 120]) (.n (.n (.e) 716440375 125 (.bin .leq (.symi .i64 124) (.int .i64 9223372036854775807)) (.e)) 718229070 60 (.bin .mul (.int .u64 2) (.symi .u64 49)) (.e)))) 721002495 15 (.conv .i64 (.symi .u64 7)) (.n (.n (.n (.n (.e) 724323303 25 (.bin .lss (.int .i64 0) (.symi .i64 24)) (.e)) 724560724 20 (.bin .xor (.symi .u64 17) (.symi .u64 19)) (.n (.e) 729700330 55 (.sop .cat [.syms 2, .syms 54]) (.e))) 737907087 89 (.sop .len [.syms 88]) (.n (.n (.e) 743886676 6 (.bin .leq (.symi .i64 1) (.int .i64 1000000)) (.e)) 749718898 97 (.bin .lss (.int .i64 0) (.symi .i64 96)) (.e))) 760589026 150 (.sop .len [.syms 146]) (.n (.n (.n (.e) 764486096 168 (.bin .leq (.symi .i64 167) (.int .i64 9223372036854775807)) (.e)) 776707265 94 (.sop .cat [.syms 2, .syms 93]) (.e)) 780264067 19 (.conv .u64 (.symi .i64 18)) (.n (.n (.e) 781525455 30 (.un .neg (.symi .i64 29)) (.e)) 782657555 200 (.bin .add (.symi .i64 1) (.symi .i64 199)) (.e)))))) 785100433 115 (.sop .len [.syms 114]) (.n (.n (.n (.n (.n (.n (.e) 795240834 173 (.fn 141 .i64 [.symi .u64 170]) (.e)) 798195131 189 (.bin .geq (.symi .i64 178) (.int .i64 0)) (.n (.e) 801347287 181 (.bin .shr (.symi .i64 178) (.int .u64 63)) (.e))) 807782372 176 (.sop .len [.syms 172]) (.n (.n (.e) 823714200 133 (.sop .cat [.syms 2, .syms 132]) (.e)) 832293779 141 (.sop .len [.syms 140]) (.e))) 833133754 73 (.bin .leq (.symi .i64 72) (.int .i64 9223372036854775807)) (.n (.n (.n (.e) 844624146 122 (.bin .add (.symi .i64 1) (.symi .i64 121)) (.e)) 845505839 91 (.bin .neq (.syms 81) (.syms 88)) (.n (.e) 852070954 88 (.sop .cat [.syms 2, .syms 87]) (.e))) 854975718 202 (.sop .len [.syms 198]) (.n (.n (.e) 856381513 188 (.bin .lss (.int .i64 0) (.symi .i64 187)) (.e)) 860708010 204 (.conv .i64 (.symi .u64 196)) (.e)))) 870149905 108 (.fn 141 .i64 [.symi .u64 105]) (.n (.n (.n (.n (.e) 870721135 172 (.sop .cat [.syms 2, .syms 171]) (.e)) 873401077 152 (.conv .i64 (.symi .u64 144)) (.n (.e) 879487125 167 (.sop .len [.syms 166]) (.e))) 881179475 116 (.bin .leq (.symi .i64 115) (.int .i64 9223372036854775807)) (.n (.n (.e) 886094144 100 (.conv .i64 (.symi .u64 92)) (.e)) 898787211 48 (.conv .i64 (.symi .u64 40)) (.e))) 899245413 180 (.bin .shl (.symi .u64 179) (.int .u64 1)) (.n (.n (.n (.e) 906590737 44 (.bin .add (.symi .i64 1) (.symi .i64 43)) (.e)) 913676664 105 (.bin .xor (.symi .u64 102) (.symi .u64 104)) (.e)) 914888510 137 (.bin .geq (.symi .i64 126) (.int .i64 0)) (.n (.n (.e) 917013315 10 (.fn 141 .i64 [.symi .u64 7]) (.e)) 917728070 211 (.sop .cat [.syms 2, .syms 210]) (.e))))) 918040666 129 (.bin .shr (.symi .i64 126) (.int .u64 63)) (.n (.n (.n (.n (.n (.e) 918348104 110 (.bin .lss (.int .i64 0) (.symi .i64 109)) (.e)) 919969582 208 (.conv .u64 (.symi .i64 207)) (.n (.e) 923152790 195 (.bin .neq (.syms 185) (.syms 192)) (.e))) 926680471 193 (.sop .len [.syms 192]) (.n (.n (.e) 932662649 156 (.conv .u64 (.symi .i64 155)) (.e)) 942525948 31 (.conv .u64 (.symi .i64 30)) (.e))) 945058976 43 (.fn 141 .i64 [.symi .u64 40]) (.n (.n (.n (.e) 945355716 104 (.conv .u64 (.symi .i64 103)) (.e)) 946084824 166 (.sop .cat [.syms 2, .syms 165]) (.n (.e) 949574670 9 (.sop .cat [.syms 2, .syms 8]) (.e))) 951286761 213 (.bin .add (.symi .i64 1) (.symi .i64 212)) (.n (.n (.e) 955581727 209 (.bin .xor (.symi .u64 206) (.symi .u64 208)) (.e)) 958048783 52 (.conv .u64 (.symi .i64 51)) (.e)))) 973873817 219 (.sop .len [.syms 218]) (.n (.n (.n (.n (.e) 980025571 199 (.fn 141 .i64 [.symi .u64 196]) (.e)) 980315628 32 (.bin .mul (.int .u64 2) (.symi .u64 31)) (.n (.e) 993520891 164 (.bin .mul (.int .u64 2) (.symi .u64 153)) (.e))) 997872854 64 (.bin .leq (.symi .i64 63) (.int .i64 9223372036854775807)) (.n (.n (.e) 1013253352 135 (.bin .add (.symi .i64 1) (.symi .i64 134)) (.e)) 1015938792 128 (.bin .shl (.symi .u64 127) (.int .u64 1)) (.e))) 1025010719 201 (.bin .lss (.int .i64 0) (.symi .i64 200)) (.n (.n (.n (.e) 1031581889 85 (.bin .geq (.symi .i64 74) (.int .i64 0)) (.e)) 1034734045 77 (.bin .shr (.symi .i64 74) (.int .u64 63)) (.e)) 1054934642 134 (.fn 141 .i64 [.symi .u64 131]) (.n (.n (.e) 1055487482 86 (.bin .mul (.int .u64 2) (.symi .u64 75)) (.e)) 1071945294 42 (.sop .cat [.syms 2, .syms 41]) (.e)))))))
set_option maxRecDepth 100000 in
def wlBW : Sw := .node 5 (.node 6 (.pick 3 0 (.node 12 (.node 14 (.node 25 (.node 38 (.node 39 (.dead) (.run (.leaf .normal wlS1 [] [(0, .symi .u64 0), (4, .syms 4), (2, .syms 2), (3, .int .i64 9)] [(1, .symi .i64 1)]))) (.dead)) (.dead)) (.dead)) (.dead)) (.pick 3 9 (.node 45 (.node 47 (.node 58 (.node 59 (.node 64 (.node 65 (.dead) (.run (.leaf .normal wlS1 [] [(0, .symi .u64 0), (4, .syms 4), (2, .syms 2), (3, .int .i64 18)] [(1, .symi .i64 1)]))) (.dead)) (.dead)) (.dead)) (.dead)) (.dead)) (.pick 3 18 (.node 71 (.node 73 (.node 84 (.node 85 (.node 90 (.node 91 (.dead) (.run (.leaf .normal wlS1 [] [(0, .symi .u64 0), (4, .syms 4), (2, .syms 2), (3, .int .i64 27)] [(1, .symi .i64 1)]))) (.dead)) (.dead)) (.dead)) (.dead)) (.dead)) (.pick 3 27 (.node 97 (.node 99 (.node 110 (.node 111 (.node 116 (.node 117 (.dead) (.run (.leaf .normal wlS1 [] [(0, .symi .u64 0), (4, .syms 4), (2, .syms 2), (3, .int .i64 36)] [(1, .symi .i64 1)]))) (.dead)) (.dead)) (.dead)) (.dead)) (.dead)) (.pick 3 36 (.node 123 (.node 125 (.node 136 (.node 137 (.node 142 (.node 143 (.dead) (.run (.leaf .normal wlS1 [] [(0, .symi .u64 0), (4, .syms 4), (2, .syms 2), (3, .int .i64 45)] [(1, .symi .i64 1)]))) (.dead)) (.dead)) (.dead)) (.dead)) (.dead)) (.pick 3 45 (.node 149 (.node 151 (.node 162 (.node 163 (.node 168 (.node 169 (.dead) (.run (.leaf .normal wlS1 [] [(0, .symi .u64 0), (4, .syms 4), (2, .syms 2), (3, .int .i64 54)] [(1, .symi .i64 1)]))) (.dead)) (.dead)) (.dead)) (.dead)) (.dead)) (.pick 3 54 (.node 175 (.node 177 (.node 188 (.node 189 (.node 194 (.node 195 (.dead) (.run (.leaf .normal wlS1 [] [(0, .symi .u64 0), (4, .syms 4), (2, .syms 2), (3, .int .i64 63)] [(1, .symi .i64 1)]))) (.dead)) (.dead)) (.dead)) (.dead)) (.dead)) (.pick 3 63 (.node 201 (.node 203 (.node 214 (.node 215 (.node 220 (.node 221 (.dead) (.run (.leaf .normal wlS1 [] [(0, .symi .u64 0), (4, .syms 4), (2, .syms 2), (3, .int .i64 72)] [(1, .symi .i64 1)]))) (.dead)) (.dead)) (.dead)) (.dead)) (.dead)) (.pick 3 72 (.run (.leaf (.exit 0) wlSe [] [(0, .symi .u64 0), (3, .syms 4), (2, .syms 2)] [(1, .symi .i64 1)])) (.dead)))))))))) (.dead)) (.dead)
set_option maxRecDepth 100000 in
def wlBKd : KdT := .n (.n (.n (.n (.n (.n (.n (.n .e (some .u64) .e) none (.n .e none .e)) (some .u64) (.n (.n .e none .e) (some .i64) .e)) (some .i64) (.n (.n (.n .e none .e) (some .u64) (.n .e (some .i64) .e)) none (.n (.n .e none .e) none .e))) (some .u64) (.n (.n (.n (.n .e (some .i64) .e) none (.n .e (some .i64) .e)) none (.n (.n .e none .e) (some .i64) .e)) (some .i64) (.n (.n (.n .e none .e) none (.n .e none .e)) none (.n (.n .e (some .u64) .e) none .e)))) (some .i64) (.n (.n (.n (.n (.n .e (some .u64) .e) none (.n .e none .e)) none (.n (.n .e none .e) none .e)) (some .u64) (.n (.n (.n .e (some .i64) .e) (some .i64) (.n .e none .e)) (some .i64) (.n (.n .e (some .u64) .e) none .e))) (some .i64) (.n (.n (.n (.n .e none .e) (some .u64) (.n .e none .e)) (some .i64) (.n (.n .e none .e) none .e)) (some .u64) (.n (.n (.n .e (some .i64) .e) none (.n .e none .e)) none (.n (.n .e (some .i64) .e) none .e))))) (some .i64) (.n (.n (.n (.n (.n (.n .e (some .i64) .e) none (.n .e none .e)) (some .u64) (.n (.n .e (some .i64) .e) none .e)) (some .u64) (.n (.n (.n .e none .e) none (.n .e (some .u64) .e)) (some .u64) (.n (.n .e none .e) none .e))) none (.n (.n (.n (.n .e none .e) none (.n .e none .e)) none (.n (.n .e none .e) (some .u64) .e)) none (.n (.n (.n .e (some .u64) .e) none (.n .e none .e)) (some .i64) (.n (.n .e none .e) (some .i64) .e)))) none (.n (.n (.n (.n (.n .e none .e) (some .i64) (.n .e none .e)) none (.n (.n .e none .e) (some .u64) .e)) none (.n (.n (.n .e none .e) none (.n .e (some .i64) .e)) (some .u64) (.n (.n .e (some .i64) .e) none .e))) none (.n (.n (.n (.n .e none .e) (some .i64) (.n .e (some .u64) .e)) none (.n (.n .e (some .i64) .e) (some .i64) .e)) (some .i64) (.n (.n (.n .e (some .u64) .e) none (.n .e none .e)) none (.n (.n .e none .e) none .e)))))) (some .u64) (.n (.n (.n (.n (.n (.n (.n .e (some .u64) .e) none (.n .e none .e)) (some .u64) (.n (.n .e (some .i64) .e) (some .i64) .e)) (some .u64) (.n (.n (.n .e (some .u64) .e) none (.n .e (some .u64) .e)) (some .i64) (.n (.n .e none .e) (some .u64) .e))) none (.n (.n (.n (.n .e none .e) none (.n .e (some .i64) .e)) (some .u64) (.n (.n .e none .e) (some .u64) .e)) (some .i64) (.n (.n (.n .e (some .i64) .e) none (.n .e (some .u64) .e)) (some .i64) (.n (.n .e none .e) none .e)))) none (.n (.n (.n (.n (.n .e none .e) none (.n .e (some .u64) .e)) none (.n (.n .e (some .u64) .e) (some .i64) .e)) (some .u64) (.n (.n (.n .e (some .i64) .e) none (.n .e (some .i64) .e)) (some .u64) (.n (.n .e (some .u64) .e) none .e))) none (.n (.n (.n (.n .e none .e) (some .u64) (.n .e (some .i64) .e)) (some .i64) (.n (.n .e none .e) (some .i64) .e)) none (.n (.n (.n .e (some .u64) .e) (some .u64) (.n .e none .e)) (some .u64) (.n (.n .e none .e) none .e))))) none (.n (.n (.n (.n (.n (.n .e (some .u64) .e) (some .u64) (.n .e none .e)) none (.n (.n .e none .e) none .e)) (some .i64) (.n (.n (.n .e none .e) (some .i64) (.n .e none .e)) (some .u64) (.n (.n .e (some .i64) .e) none .e))) (some .i64) (.n (.n (.n (.n .e (some .u64) .e) (some .i64) (.n .e none .e)) none (.n (.n .e (some .u64) .e) none .e)) none (.n (.n (.n .e (some .u64) .e) none (.n .e none .e)) none (.n (.n .e (some .i64) .e) (some .i64) .e)))) none (.n (.n (.n (.n (.n .e (some .i64) .e) (some .i64) (.n .e none .e)) none (.n (.n .e none .e) (some .u64) .e)) none (.n (.n (.n .e none .e) (some .u64) (.n .e none .e)) none (.n (.n .e (some .u64) .e) (some .u64) .e))) none (.n (.n (.n (.n .e none .e) (some .u64) (.n .e (some .u64) .e)) none (.n (.n .e (some .i64) .e) none .e)) none (.n (.n (.n .e none .e) none .e) none (.n (.n .e (some .u64) .e) (some .i64) .e))))))
def wlBY : Ing := { m := 5, ins := wlK1, G := wlBG, T := wlBT, tab := wlTab, rows := [⟨.symi .i64 1, []⟩], lsts := wlLst, kb := 222, kt := wlBKd }
noncomputable def wlBX (E : Nat → Option Fz) : Ing := { m := 5, ins := wlK1, G := wlBG, T := wlBT, tab := wlTab, rows := [⟨.symi .i64 1, []⟩], strs := wlStr, lsts := wlLst, kb := 222, kt := wlBKd, inv := wlInv E, strok := fun _ h => h.strs, mh := orMh (symMfx (kdX wlBY) wlX [sf9]) (symMf (kdX wlBY) [sf11]) }
theorem wlB_lt : okLT 5 wlBG wlBT = true := by kernel_rfl
theorem wlB_ok : okG wlBG 5 = true := by kernel_rfl
theorem wlB_hooks (E : Nat → Option Fz) (F : List Fact) : Hooks Tryd.prog (cxOf (wlBX E) F) where
  val := fun f args v h => by simp only [wlBX, cxOf, noHook, reduceCtorEq] at h
  mem := fun f args hp v hp' h => by
    replace h : (orMh (symMfx (kdX wlBY) wlX [sf9]) (symMf (kdX wlBY) [sf11])) (symS (baseOf (wlBX E) F)) f args hp = some (v, hp') := h
    unfold orMh at h
    split at h
    · rename_i r hr
      cases h
      exact mem_symFx (X := wlBX E) (tbl := [sf9]) (ys := wlX) (inv := wlInv E) (fun e he => by
        obtain rfl := List.mem_singleton.1 he
        exact wl9_contract E) wlB_lt rfl (fun e he σ τ hx hxs hv => by
        obtain rfl := List.mem_singleton.1 he
        exact inv_trans hx hxs hv) F f args hp v hp' hr
    · exact mem_symF (X := wlBX E) (tbl := [sf11]) (inv := fun _ => True) (fun e he => by
        obtain rfl := List.mem_singleton.1 he
        exact wl11_contract) wlB_lt rfl (fun _ _ _ _ => trivial) F f args hp v hp' h
  ovl := fun f k h => by simp only [wlBX, cxOf, reduceCtorEq] at h
  atm := fun k b h => by simp only [wlBX, cxOf, List.not_mem_nil] at h
theorem wlB_seg (E : Nat → Option Fz) : SegOkI Tryd.prog wlTab 84 (flatC (loopOf (bodyOf Tryd.f4))) wlS1 (wlBX E) wlBW where
  lt := wlB_lt
  ok := wlB_ok
  hook := wlB_hooks E
  n0 := rfl
  id := by kernel_rfl
  reck := by kernel_rfl
  tab := rfl
  cuts := rfl
  kt := by kernel_rfl
set_option maxRecDepth 100000 in
def wlCG : List SDef := [.bin .leq (.int .i64 0) (.symi .i64 1),
  .bin .leq (.symi .i64 1) (.int .i64 1000000),
  .bin .rem (.symi .u64 0) (.int .u64 2),
  .bin .eql (.symi .u64 6) (.int .u64 1),
  .sop (.row [.some .u8]) [.int .u8 1],
  .sop .cat [.syms 2, .syms 8],
  .bin .add (.symi .i64 1) (.int .i64 1),
  .bin .leq (.int .i64 0) (.symi .i64 10),
  .bin .leq (.symi .i64 10) (.int .i64 140737488355328),
  .bin .lss (.int .i64 0) (.symi .i64 10),
  .sop .cat [.syms 2, .str ⟨#[1]⟩],
  .sop .len [.syms 14],
  .bin .leq (.symi .i64 15) (.int .i64 9223372036854775807),
  .bin .eql (.syms 9) (.syms 14),
  .sop .len [.syms 3],
  .conv .u64 (.symi .i64 18),
  .sop (.fs 140) [.symi .u64 19],
  .sop .cat [.syms 2, .syms 20],
  .fn 141 .i64 [.symi .u64 19],
  .bin .add (.symi .i64 1) (.symi .i64 22),
  .sop .cat [.syms 21, .syms 3],
  .bin .leq (.symi .i64 18) (.int .i64 9223372036854775807),
  .bin .add (.symi .i64 23) (.symi .i64 18),
  .bin .leq (.int .i64 0) (.symi .i64 26),
  .bin .leq (.symi .i64 26) (.int .i64 140737488355328),
  .bin .lss (.int .i64 0) (.symi .i64 26),
  .sop .cat [.syms 20, .syms 3],
  .sop .len [.syms 30],
  .bin .leq (.symi .i64 31) (.int .i64 9223372036854775807),
  .sop .cat [.syms 2, .syms 30],
  .sop .len [.syms 33],
  .bin .leq (.symi .i64 34) (.int .i64 9223372036854775807),
  .bin .eql (.syms 24) (.syms 33),
  .sop (.row [.some .u8]) [.int .u8 0],
  .sop .cat [.syms 2, .syms 37],
  .sop .cat [.syms 2, .str ⟨#[0]⟩],
  .sop .len [.syms 39],
  .bin .leq (.symi .i64 40) (.int .i64 9223372036854775807),
  .bin .eql (.syms 38) (.syms 39)]
set_option maxRecDepth 100000 in
def wlCT : LT := .n (.n (.n (.n (.n (.n (.e) 5420 37 (.sop (.row [.some .u8]) [.int .u8 0]) (.e)) 6255 8 (.sop (.row [.some .u8]) [.int .u8 1]) (.e)) 110415 6 (.bin .rem (.symi .u64 0) (.int .u64 2)) (.n (.e) 62442870 42 (.bin .eql (.syms 38) (.syms 39)) (.e))) 70797105 40 (.sop .len [.syms 39]) (.n (.n (.n (.e) 101060655 10 (.bin .add (.symi .i64 1) (.int .i64 1)) (.e)) 131324965 28 (.bin .leq (.symi .i64 26) (.int .i64 140737488355328)) (.e)) 138616561 23 (.bin .add (.symi .i64 1) (.symi .i64 22)) (.n (.e) 142501858 34 (.sop .len [.syms 33]) (.e)))) 190609938 15 (.sop .len [.syms 14]) (.n (.n (.n (.e) 212340519 13 (.bin .lss (.int .i64 0) (.symi .i64 10)) (.e)) 212340526 11 (.bin .leq (.int .i64 0) (.symi .i64 10)) (.n (.e) 216347721 35 (.bin .leq (.symi .i64 34) (.int .i64 9223372036854775807)) (.e))) 334273120 14 (.sop .cat [.syms 2, .str ⟨#[1]⟩]) (.n (.n (.n (.e) 334273120 39 (.sop .cat [.syms 2, .str ⟨#[0]⟩]) (.e)) 337288632 29 (.bin .lss (.int .i64 0) (.symi .i64 26)) (.e)) 337288639 27 (.bin .leq (.int .i64 0) (.symi .i64 26)) (.n (.n (.e) 341534377 22 (.fn 141 .i64 [.symi .u64 19]) (.e)) 343383805 4 (.bin .leq (.int .i64 0) (.symi .i64 1)) (.e))))) 352149194 17 (.bin .eql (.syms 9) (.syms 14)) (.n (.n (.n (.n (.n (.e) 444825618 16 (.bin .leq (.symi .i64 15) (.int .i64 9223372036854775807)) (.e)) 501025623 18 (.sop .len [.syms 3]) (.e)) 606062247 7 (.bin .eql (.symi .u64 6) (.int .u64 1)) (.n (.e) 618306514 30 (.sop .cat [.syms 20, .syms 3]) (.e))) 662803771 12 (.bin .leq (.symi .i64 10) (.int .i64 140737488355328)) (.n (.n (.n (.e) 715225148 31 (.sop .len [.syms 30]) (.e)) 743886676 5 (.bin .leq (.symi .i64 1) (.int .i64 1000000)) (.e)) 747826527 25 (.bin .leq (.symi .i64 18) (.int .i64 9223372036854775807)) (.n (.e) 764273811 38 (.sop .cat [.syms 2, .syms 37]) (.e)))) 780264067 19 (.conv .u64 (.symi .i64 18)) (.n (.n (.n (.n (.e) 785312693 24 (.sop .cat [.syms 21, .syms 3]) (.e)) 798847292 21 (.sop .cat [.syms 2, .syms 20]) (.e)) 822349539 41 (.bin .leq (.symi .i64 40) (.int .i64 9223372036854775807)) (.n (.e) 881194964 36 (.bin .eql (.syms 24) (.syms 33)) (.e))) 949574670 9 (.sop .cat [.syms 2, .syms 8]) (.n (.n (.n (.e) 987088639 32 (.bin .leq (.symi .i64 31) (.int .i64 9223372036854775807)) (.e)) 987208915 26 (.bin .add (.symi .i64 23) (.symi .i64 18)) (.e)) 1025671621 20 (.sop (.fs 140) [.symi .u64 19]) (.n (.e) 1031155086 33 (.sop .cat [.syms 2, .syms 30]) (.e)))))
set_option maxRecDepth 100000 in
def wlCW : Sw := .node 4 (.node 5 (.node 7 (.node 11 (.node 12 (.node 13 (.node 16 (.node 17 (.node 25 (.node 27 (.node 28 (.node 29 (.node 32 (.node 35 (.node 36 (.run (.leaf .ret wlSE [] [] [])) (.dead)) (.dead)) (.dead)) (.dead)) (.dead)) (.dead)) (.dead)) (.dead)) (.dead)) (.dead)) (.dead)) (.dead)) (.node 11 (.node 12 (.node 13 (.node 41 (.node 42 (.node 25 (.node 27 (.node 28 (.node 29 (.node 32 (.node 35 (.node 36 (.run (.leaf .ret wlSE [] [] [])) (.dead)) (.dead)) (.dead)) (.dead)) (.dead)) (.dead)) (.dead)) (.dead)) (.dead)) (.dead)) (.dead)) (.dead))) (.dead)) (.dead)
set_option maxRecDepth 100000 in
def wlCKd : KdT := .n (.n (.n (.n (.n (.n .e none .e) none .e) none (.n (.n .e none .e) (some .i64) .e)) none (.n (.n (.n .e none .e) (some .u64) .e) none (.n .e none .e))) (some .i64) (.n (.n (.n (.n .e none .e) none .e) none (.n (.n .e none .e) none .e)) none (.n (.n (.n .e none .e) none .e) none (.n .e none .e)))) (some .u64) (.n (.n (.n (.n (.n .e none .e) none .e) none (.n (.n .e none .e) none .e)) none (.n (.n (.n .e none .e) none .e) none (.n .e none .e))) none (.n (.n (.n (.n .e none .e) none .e) (some .i64) (.n (.n .e none .e) (some .i64) .e)) (some .u64) (.n (.n (.n .e none .e) (some .i64) .e) none (.n .e none .e))))
def wlCY : Ing := { m := 4, ins := wlKA, G := wlCG, T := wlCT, tab := wlTab, rows := [⟨.symi .i64 1, []⟩], lsts := wlLst, kb := 43, kt := wlCKd }
noncomputable def wlCX (E : Nat → Option Fz) : Ing := { m := 4, ins := wlKA, G := wlCG, T := wlCT, tab := wlTab, rows := [⟨.symi .i64 1, []⟩], strs := wlStr, lsts := wlLst, kb := 43, kt := wlCKd, inv := fun σ => OwnInv 0 isErr σ ∧ wlInv E σ, strok := fun _ h => h.2.strs, mh := orMh (trueMh [8]) (orMh (symMfx (kdX wlCY) wlX [sf9]) (symMf (kdX wlCY) [sf11])) }
theorem wlC_lt : okLT 4 wlCG wlCT = true := by kernel_rfl
theorem wlC_ok : okG wlCG 4 = true := by kernel_rfl
theorem wlC_hooks (E : Nat → Option Fz) (F : List Fact) : Hooks Tryd.prog (cxOf (wlCX E) F) where
  val := fun f args v h => by simp only [wlCX, cxOf, noHook, reduceCtorEq] at h
  mem := fun f args hp v hp' h => by
    replace h : (orMh (trueMh [8]) (orMh (symMfx (kdX wlCY) wlX [sf9]) (symMf (kdX wlCY) [sf11]))) (symS (baseOf (wlCX E) F)) f args hp = some (v, hp') := h
    unfold orMh at h
    split at h
    · rename_i r hr
      cases h
      exact true_mem0 (X := wlCX E) (fs := [8]) (fun f hf w O h1 h2 => by
        obtain rfl := List.mem_singleton.1 hf
        exact works_own w O h1 h2) (fun _ h => h.1) F _ f args hp v hp' hr
    · split at h
      · rename_i r hr
        cases h
        exact mem_symFx (X := wlCX E) (tbl := [sf9]) (ys := wlX) (inv := wlInv E) (fun e he => by
          obtain rfl := List.mem_singleton.1 he
          exact wl9_contract E) wlC_lt rfl (fun e he σ τ hx hxs hv => by
          obtain rfl := List.mem_singleton.1 he
          exact inv_trans hx hxs hv.2) F f args hp v hp' hr
      · exact mem_symF (X := wlCX E) (tbl := [sf11]) (inv := fun _ => True) (fun e he => by
          obtain rfl := List.mem_singleton.1 he
          exact wl11_contract) wlC_lt rfl (fun _ _ _ _ => trivial) F f args hp v hp' h
  ovl := fun f k h => by simp only [wlCX, cxOf, reduceCtorEq] at h
  atm := fun k b h => by simp only [wlCX, cxOf, List.not_mem_nil] at h
theorem wlC_seg (E : Nat → Option Fz) : SegOkI Tryd.prog wlTab 84 ((flatC (bodyOf Tryd.f4)).drop 5) wlSe (wlCX E) wlCW where
  lt := wlC_lt
  ok := wlC_ok
  hook := wlC_hooks E
  n0 := rfl
  id := by kernel_rfl
  reck := by kernel_rfl
  tab := rfl
  cuts := rfl
  kt := by kernel_rfl
set_option maxRecDepth 100000 in
def wlAG : List SDef := [.low [.symi .i64 1, .int .i64 50],
  .sop .len [.syms 3],
  .low [.symi .i64 5, .int .i64 200],
  .bin .leq (.int .i64 0) (.symi .i64 6),
  .bin .leq (.symi .i64 6) (.symi .i64 5),
  .sop .sub [.syms 3, .int .i64 0, .symi .i64 6]]
set_option maxRecDepth 100000 in
def wlAT : LT := .n (.n (.n (.e) 107936065 4 (.low [.symi .i64 1, .int .i64 50]) (.e)) 175316483 8 (.bin .leq (.symi .i64 6) (.symi .i64 5)) (.n (.e) 284952130 9 (.sop .sub [.syms 3, .int .i64 0, .symi .i64 6]) (.e))) 501025623 5 (.sop .len [.syms 3]) (.n (.n (.e) 538425099 6 (.low [.symi .i64 5, .int .i64 200]) (.e)) 986409868 7 (.bin .leq (.int .i64 0) (.symi .i64 6)) (.e))
def wlAW : Sw := .run (.node 7 (.node 8 (.leaf .normal wlS1 [] [(0, .symi .u64 0), (4, .syms 9), (2, .syms 2), (3, .int .i64 0)] [(1, .symi .i64 4)]) (.dead)) (.dead))
def wlAKd : KdT := .n (.n (.n (.n .e none .e) none .e) (some .i64) (.n (.n .e none .e) none .e)) (some .u64) (.n (.n (.n .e none .e) none .e) none (.n .e none .e))
def wlAX : Ing := { m := 4, ins := wlKA, G := wlAG, T := wlAT, tab := wlTab, rows := [⟨.symi .i64 4, []⟩, ⟨.symi .i64 1, []⟩], cuts := [(1, .symi .i64 4, 0)], strs := wlStr, inv := fun σ => StrsOk σ wlStr, strok := fun _ h => h, kb := 10, kt := wlAKd }
theorem wlA_lt : okLT 4 wlAG wlAT = true := by kernel_rfl
theorem wlA_ok : okG wlAG 4 = true := by kernel_rfl
theorem wlA_reck : okSw (fun F => runL Tryd.prog (cxOf wlAX) true wlAX.fu (evD Tryd.prog (cxOf wlAX) true wlAX.fu 40).1 (evD Tryd.prog (cxOf wlAX) true wlAX.fu 40).2 ((flatC (bodyOf Tryd.f4)).take 4) F (tmOf wlS0 84) ⟨wlS0.heap, []⟩) wlAW [] = true := by kernel_rfl

/-! ### The row -/
def cutY (X : Fz) : Fz := { X with len := min X.len 50 }
def EE (X : Fz) (O : Obj) : Nat → Option Fz := fun i => if i = 0 then some (cutY X) else if i = 1 then some X else if i = 2 then some (errRow O) else none
theorem EE_inv {X : Fz} {O : Obj} (hO : isErr O) {σ : Sig} (h : σ.ext = EE X O) : OwnInv 0 isErr σ := own_inv (r := 2) hO (by rw [h]; rfl)
def conS (X : Fz) : ByteArray := ⟨((List.range (cutY X).len).map fun m => UInt8.ofNat (iOf (X.val m 0)).toNat).toArray⟩
theorem conS_len (X : Fz) : (conS X).data.toList.length = (cutY X).len := by simp [conS]
theorem conS_ok {W : World} {v : Value} {X : Fz} (hX : RowV W [.i .u8] v X) {σ : Sig} (h : σ.sval 2 = conS X) : StrX σ (.syms 2) [some .u8] (cutY X) := by
  refine ⟨hX.z.symm, conS X, by show AVal.str _ = _; rw [h], by rw [conS_len]; simp [rsz, csz], fun m j hm hj => ?_⟩
  have hz : (cutY X).z = 1 := hX.z
  have hj0 : j = 0 := by omega
  subst hj0
  have hlen : m < (conS X).data.toList.length := by rw [conS_len]; exact hm
  rw [rowAt_u8 hlen]
  have hmX : m < X.len := Nat.lt_of_lt_of_le hm (Nat.min_le_left _ _)
  obtain ⟨n, h1, h2⟩ := el_get (hX.els m hmX) (j := 0) (z := .i .u8) rfl
  have h2 : X.val m 0 = .int .u8 n := h2
  have h1 : IntKind.u8.wrap n = n := h1
  rw [wr_u8] at h1
  show X.val m 0 = _
  rw [h2]
  have e : (conS X).data.toList[m] = UInt8.ofNat (iOf (X.val m 0)).toNat := by
    simp [conS]
  rw [e, h2, UInt8.toNat_ofNat']
  simp only [iOf]
  congr 1
  omega
theorem cut_fz {W : World} {X : Fz} (h : 0 < X.len → FzOk X W) (h0 : 0 < (cutY X).len) : FzOk (cutY X) W := by
  have hle : (cutY X).len ≤ X.len := Nat.min_le_left _ _
  obtain ⟨C, e, fr, c1, c2, c3⟩ := h (by omega)
  exact ⟨C, e, fr, c1, fun m j hm hj => c2 m j (by omega) hj, c3⟩
/-- what holds all along -/
structure Cm (X : Fz) (O : Obj) (σ : Sig) : Prop where
  ext : σ.ext = EE X O
  len : σ.ival 1 = (cutY X).len
  con : σ.sval 2 = conS X
theorem Cm.inv {W : World} {v : Value} {X : Fz} (hX : RowV W [.i .u8] v X) {O : Obj} {σ : Sig} (h : Cm X O σ) : wlInv (EE X O) σ := by
  refine ⟨h.ext, fun Y hY => ?_⟩
  have : Y = cutY X := by
    have hY : some (cutY X) = some Y := hY
    exact (Option.some.inj hY).symm
  subst this
  exact ⟨h.len, conS_ok hX h.con⟩
theorem Cm.agree {X : Fz} {O : Obj} {σ τ : Sig} (ag : Agree 3 σ τ) (h : Cm X O σ) : Cm X O τ :=
  ⟨by rw [← ag.ext]; exact h.ext, by rw [← (ag.val 1 (by decide)).1]; exact h.len, by rw [← (ag.val 2 (by decide)).2.2]; exact h.con⟩
theorem Cm.b {X : Fz} {O : Obj} {σ : Sig} (h : Cm X O σ) : 0 ≤ σ.ival 1 ∧ σ.ival 1 ≤ 50 ∧ ((σ.sval 2).size : Int) = σ.ival 1 := by
  have h1 := h.len
  have h2 : (cutY X).len ≤ 50 := Nat.min_le_right _ _
  have h3 := conS_len X
  rw [h.con]
  have : (conS X).size = (conS X).data.toList.length := by rw [Array.length_toList]; rfl
  omega
structure J1 (X : Fz) (O : Obj) (σ : Sig) : Prop where
  c : Cm X O σ
  k : ∃ j : Nat, j ≤ 8 ∧ σ.ival 3 = 9 * j
  s : (σ.sval 4).size ≤ 200
structure J2 (X : Fz) (O : Obj) (σ : Sig) : Prop where
  c : Cm X O σ
  s : (σ.sval 3).size ≤ 200

theorem eqStrEq {σ : Sig} {i a b : Nat} (h : evalS σ (.bin .eql (.syms a) (.syms b)) = some (.bool (σ.bval i))) (he : σ.sval a = σ.sval b) : σ.bval i = true := by
  simp only [evalS, den, binS, strA, he, Option.some.injEq, AVal.bool.injEq] at h
  rw [← h]; simp
theorem eqStrNe {σ : Sig} {i a b : Nat} (h : evalS σ (.bin .neq (.syms a) (.syms b)) = some (.bool (σ.bval i))) (he : σ.sval a = σ.sval b) : σ.bval i = false := by
  simp only [evalS, den, binS, strA, he, Option.some.injEq, AVal.bool.injEq] at h
  rw [← h]; simp
theorem eqIteS {σ : Sig} {i j k c : Nat} (h : evalS σ (.ite (.symb c) (.syms j) (.syms k)) = some (den σ (.syms i))) : σ.sval i = bif σ.bval c then σ.sval j else σ.sval k := by
  simp only [evalS, den] at h
  cases hb : σ.bval c <;> simp only [hb, cond_true, cond_false, Option.some.injEq, AVal.str.injEq] at h <;> exact h.symm
theorem app_size (a b : ByteArray) : (a ++ b).size = a.size + b.size := ByteArray.size_append

/-! ### Whole numbers -/
def zig (c : Int) : Int := if 0 ≤ c then 2 * c else 2 * (-(c + 1)) + 1
theorem xor_zero (x : Int) (h0 : 0 ≤ x) (h1 : x < 18446744073709551616) : IntKind.u64.wrap ((BitVec.ofInt IntKind.u64.bits x ^^^ BitVec.ofInt IntKind.u64.bits 0).toNat : Int) = x := by
  show IntKind.u64.wrap ((BitVec.ofInt 64 x ^^^ BitVec.ofInt 64 0 : BitVec 64).toNat : Int) = _
  rw [wr_u64, show (BitVec.ofInt 64 0) = 0#64 by decide, BitVec.xor_zero, BitVec.toNat_ofInt]
  omega
theorem xor_ones (x : Int) (h0 : 0 ≤ x) (h1 : x < 18446744073709551616) : IntKind.u64.wrap ((BitVec.ofInt IntKind.u64.bits x ^^^ BitVec.ofInt IntKind.u64.bits 18446744073709551615).toNat : Int) = 18446744073709551615 - x := by
  show IntKind.u64.wrap ((BitVec.ofInt 64 x ^^^ BitVec.ofInt 64 18446744073709551615 : BitVec 64).toNat : Int) = _
  rw [wr_u64, show (BitVec.ofInt 64 18446744073709551615) = BitVec.allOnes 64 by decide, BitVec.xor_allOnes, BitVec.toNat_not, BitVec.toNat_ofInt]
  omega
/-- PI's number -/
theorem zig_xor {c u s h q x : Int} (h0 : -9223372036854775808 ≤ c) (h1 : c < 9223372036854775808) (hu : u = c % 18446744073709551616) (hs : s = u * 2 % 18446744073709551616) (hh : h = c / 9223372036854775808) (hq : q = h % 18446744073709551616)
    (hx : x = IntKind.u64.wrap ((BitVec.ofInt IntKind.u64.bits s ^^^ BitVec.ofInt IntKind.u64.bits q).toNat : Int)) : x = zig c := by
  unfold zig
  by_cases hc : 0 ≤ c
  · rw [if_pos hc]
    have hq0 : q = 0 := by omega
    rw [hq0, xor_zero s (by omega) (by omega)] at hx
    omega
  · rw [if_neg hc]
    have hq0 : q = 18446744073709551615 := by omega
    rw [hq0, xor_ones s (by omega) (by omega)] at hx
    omega
theorem a0 {X : Fz} {O : Obj} {τ : Sig} (e : Eqs τ 5 wlBG) (ht : τ.tab = wlTab) (h : Cm X O τ) (n0 : 0 ≤ τ.ival 0) (n1 : τ.ival 0 < 18446744073709551616) : τ.ival 7 = τ.ival 0 / 1 := (eqI (x := (τ.ival 0 : Int).fdiv (2 ^ (min (0 : Int).toNat IntKind.u64.bits))) (e.at 2 _ rfl rfl) rfl).trans (by rw [show (2 : Int) ^ (min (0 : Int).toNat IntKind.u64.bits) = 1 by decide]; exact fdiv_pow (by decide))
theorem p0 {X : Fz} {O : Obj} {τ : Sig} (e : Eqs τ 5 wlBG) (ht : τ.tab = wlTab) (h : Cm X O τ) (n0 : 0 ≤ τ.ival 0) (n1 : τ.ival 0 < 18446744073709551616) (f : τ.bval 12 = false) : False := by
  have a : τ.ival 10 = IntKind.i64.wrap (τ.tab 141 [τ.ival 7]) := eqI (e.at 5 _ rfl rfl) rfl
  have c : τ.ival 11 = IntKind.i64.wrap (τ.ival 1 + τ.ival 10) := eqI (e.at 6 _ rfl rfl) rfl
  have d : τ.bval 12 = decide ((0 : Int) < τ.ival 11) := eqB (e.at 7 _ rfl rfl) rfl
  have l := pbL_len (τ.ival 7)
  have w := h.b
  rw [ht, tab_n, wr_i64] at a
  rw [wr_i64] at c
  rw [f] at d
  have := of_decide_eq_false d.symm
  omega
theorem q0 {X : Fz} {O : Obj} {τ : Sig} (e : Eqs τ 5 wlBG) (ht : τ.tab = wlTab) (h : Cm X O τ) (n0 : 0 ≤ τ.ival 0) (n1 : τ.ival 0 < 18446744073709551616) (f : τ.bval 14 = false) : False := by
  have a : τ.sval 8 = bs (pbL (τ.ival 7)) := by rw [eqFs (e.at 3 _ rfl rfl), ht, tab_s]
  have c : τ.sval 9 = τ.sval 2 ++ τ.sval 8 := eqCat (e.at 4 _ rfl rfl) rfl rfl
  have z : τ.ival 13 = ((τ.sval 9).size : Nat) := eqLen (e.at 8 _ rfl rfl)
  have d : τ.bval 14 = decide (τ.ival 13 ≤ 9223372036854775807) := eqB (e.at 9 _ rfl rfl) rfl
  have l := pbL_len (τ.ival 7)
  have w := h.b
  rw [c, a, app_size, bs_size] at z
  rw [f] at d
  have := of_decide_eq_false d.symm
  omega
theorem i0 {X : Fz} {O : Obj} {τ : Sig} (e : Eqs τ 5 wlBG) (ht : τ.tab = wlTab) (h : Cm X O τ) (n0 : 0 ≤ τ.ival 0) (n1 : τ.ival 0 < 18446744073709551616) : τ.ival 15 = (τ.ival 7 + 9223372036854775808) % 18446744073709551616 - 9223372036854775808 := (eqI (e.at 10 _ rfl rfl) rfl).trans (wr_i64 _)
theorem x0 {X : Fz} {O : Obj} {τ : Sig} (e : Eqs τ 5 wlBG) (ht : τ.tab = wlTab) (h : Cm X O τ) (n0 : 0 ≤ τ.ival 0) (n1 : τ.ival 0 < 18446744073709551616) : τ.ival 20 = zig (τ.ival 15) := by
  have a := i0 e ht h n0 n1
  have u : τ.ival 16 = τ.ival 15 % 18446744073709551616 := (eqI (e.at 11 _ rfl rfl) rfl).trans (wr_u64 _)
  have s : τ.ival 17 = τ.ival 16 * 2 % 18446744073709551616 := by
    have : τ.ival 17 = IntKind.u64.wrap (τ.ival 16 * 2 ^ (min (1 : Int).toNat IntKind.u64.bits)) := eqI (e.at 12 _ rfl rfl) rfl
    rw [show (2 : Int) ^ (min (1 : Int).toNat IntKind.u64.bits) = 2 by decide, wr_u64] at this
    exact this
  have hh : τ.ival 18 = τ.ival 15 / 9223372036854775808 := (eqI (x := (τ.ival 15 : Int).fdiv (2 ^ (min (63 : Int).toNat IntKind.i64.bits))) (e.at 13 _ rfl rfl) rfl).trans (by rw [show (2 : Int) ^ (min (63 : Int).toNat IntKind.i64.bits) = 9223372036854775808 by decide]; exact fdiv_pow (by decide))
  have q : τ.ival 19 = τ.ival 18 % 18446744073709551616 := (eqI (e.at 14 _ rfl rfl) rfl).trans (wr_u64 _)
  exact zig_xor (by omega) (by omega) u s hh q (eqI (e.at 15 _ rfl rfl) rfl)
theorem pp0 {X : Fz} {O : Obj} {τ : Sig} (e : Eqs τ 5 wlBG) (ht : τ.tab = wlTab) (h : Cm X O τ) (n0 : 0 ≤ τ.ival 0) (n1 : τ.ival 0 < 18446744073709551616) (f : τ.bval 25 = false) : False := by
  have a : τ.ival 23 = IntKind.i64.wrap (τ.tab 141 [τ.ival 20]) := eqI (e.at 18 _ rfl rfl) rfl
  have c : τ.ival 24 = IntKind.i64.wrap (τ.ival 1 + τ.ival 23) := eqI (e.at 19 _ rfl rfl) rfl
  have d : τ.bval 25 = decide ((0 : Int) < τ.ival 24) := eqB (e.at 20 _ rfl rfl) rfl
  have l := pbL_len (τ.ival 20)
  have w := h.b
  rw [ht, tab_n, wr_i64] at a
  rw [wr_i64] at c
  rw [f] at d
  have := of_decide_eq_false d.symm
  omega
theorem g0 {X : Fz} {O : Obj} {τ : Sig} (e : Eqs τ 5 wlBG) (ht : τ.tab = wlTab) (h : Cm X O τ) (n0 : 0 ≤ τ.ival 0) (n1 : τ.ival 0 < 18446744073709551616) : τ.bval 26 = decide (τ.ival 15 ≥ 0) := eqB (e.at 21 _ rfl rfl) rfl
theorem m0 {X : Fz} {O : Obj} {τ : Sig} (e : Eqs τ 5 wlBG) (ht : τ.tab = wlTab) (h : Cm X O τ) (n0 : 0 ≤ τ.ival 0) (n1 : τ.ival 0 < 18446744073709551616) (hc : 0 ≤ τ.ival 15) : τ.ival 27 = zig (τ.ival 15) := by
  have a := i0 e ht h n0 n1
  have u : τ.ival 16 = τ.ival 15 % 18446744073709551616 := (eqI (e.at 11 _ rfl rfl) rfl).trans (wr_u64 _)
  have s : τ.ival 27 = 2 * τ.ival 16 % 18446744073709551616 := (eqI (e.at 22 _ rfl rfl) rfl).trans (wr_u64 _)
  unfold zig
  rw [if_pos hc]
  omega
theorem mn0 {X : Fz} {O : Obj} {τ : Sig} (e : Eqs τ 5 wlBG) (ht : τ.tab = wlTab) (h : Cm X O τ) (n0 : 0 ≤ τ.ival 0) (n1 : τ.ival 0 < 18446744073709551616) (hc : ¬ 0 ≤ τ.ival 15) : τ.ival 33 = zig (τ.ival 15) := by
  have a := i0 e ht h n0 n1
  have a1 : τ.ival 29 = (τ.ival 15 + 1 + 9223372036854775808) % 18446744073709551616 - 9223372036854775808 := (eqI (e.at 24 _ rfl rfl) rfl).trans (wr_i64 _)
  have ng : τ.ival 30 = (0 - τ.ival 29 + 9223372036854775808) % 18446744073709551616 - 9223372036854775808 := (eqI (e.at 25 _ rfl rfl) rfl).trans (wr_i64 _)
  have nu : τ.ival 31 = τ.ival 30 % 18446744073709551616 := (eqI (e.at 26 _ rfl rfl) rfl).trans (wr_u64 _)
  have m2 : τ.ival 32 = 2 * τ.ival 31 % 18446744073709551616 := (eqI (e.at 27 _ rfl rfl) rfl).trans (wr_u64 _)
  have m3 : τ.ival 33 = (τ.ival 32 + 1) % 18446744073709551616 := (eqI (e.at 28 _ rfl rfl) rfl).trans (wr_u64 _)
  unfold zig
  rw [if_neg hc]
  omega
theorem s0 {X : Fz} {O : Obj} {τ : Sig} (e : Eqs τ 5 wlBG) (ht : τ.tab = wlTab) (h : Cm X O τ) (n0 : 0 ≤ τ.ival 0) (n1 : τ.ival 0 < 18446744073709551616) : τ.sval 35 = bs (pbL (zig (τ.ival 15))) := by
  have a := eqIteS (e.at 30 _ rfl rfl)
  have g := g0 e ht h n0 n1
  by_cases hc : 0 ≤ τ.ival 15
  · have g : τ.bval 26 = true := by rw [g]; exact decide_eq_true hc
    rw [a, g, cond_true, eqFs (e.at 23 _ rfl rfl), ht, tab_s, m0 e ht h n0 n1 hc]
  · have g : τ.bval 26 = false := by rw [g]; exact decide_eq_false hc
    rw [a, g, cond_false, eqFs (e.at 29 _ rfl rfl), ht, tab_s, mn0 e ht h n0 n1 hc]
theorem qq0 {X : Fz} {O : Obj} {τ : Sig} (e : Eqs τ 5 wlBG) (ht : τ.tab = wlTab) (h : Cm X O τ) (n0 : 0 ≤ τ.ival 0) (n1 : τ.ival 0 < 18446744073709551616) (f : τ.bval 38 = false) : False := by
  have c : τ.sval 36 = τ.sval 2 ++ τ.sval 35 := eqCat (e.at 31 _ rfl rfl) rfl rfl
  have z : τ.ival 37 = ((τ.sval 36).size : Nat) := eqLen (e.at 32 _ rfl rfl)
  have d : τ.bval 38 = decide (τ.ival 37 ≤ 9223372036854775807) := eqB (e.at 33 _ rfl rfl) rfl
  have l := pbL_len (zig (τ.ival 15))
  have w := h.b
  rw [c, s0 e ht h n0 n1, app_size, bs_size] at z
  rw [f] at d
  have := of_decide_eq_false d.symm
  omega
theorem ne0 {X : Fz} {O : Obj} {τ : Sig} (e : Eqs τ 5 wlBG) (ht : τ.tab = wlTab) (h : Cm X O τ) (n0 : 0 ≤ τ.ival 0) (n1 : τ.ival 0 < 18446744073709551616) (f : τ.bval 39 = true) : False := by
  have c2 : τ.sval 22 = τ.sval 2 ++ τ.sval 21 := eqCat (e.at 17 _ rfl rfl) rfl rfl
  have c5 : τ.sval 36 = τ.sval 2 ++ τ.sval 35 := eqCat (e.at 31 _ rfl rfl) rfl rfl
  have s2 : τ.sval 21 = bs (pbL (zig (τ.ival 15))) := by rw [eqFs (e.at 16 _ rfl rfl), ht, tab_s, x0 e ht h n0 n1]
  have := eqStrNe (e.at 34 _ rfl rfl) (by rw [c2, c5, s2, s0 e ht h n0 n1])
  rw [f] at this
  cases this
theorem a9 {X : Fz} {O : Obj} {τ : Sig} (e : Eqs τ 5 wlBG) (ht : τ.tab = wlTab) (h : Cm X O τ) (n0 : 0 ≤ τ.ival 0) (n1 : τ.ival 0 < 18446744073709551616) : τ.ival 40 = τ.ival 0 / 512 := (eqI (x := (τ.ival 0 : Int).fdiv (2 ^ (min (9 : Int).toNat IntKind.u64.bits))) (e.at 35 _ rfl rfl) rfl).trans (by rw [show (2 : Int) ^ (min (9 : Int).toNat IntKind.u64.bits) = 512 by decide]; exact fdiv_pow (by decide))
theorem p9 {X : Fz} {O : Obj} {τ : Sig} (e : Eqs τ 5 wlBG) (ht : τ.tab = wlTab) (h : Cm X O τ) (n0 : 0 ≤ τ.ival 0) (n1 : τ.ival 0 < 18446744073709551616) (f : τ.bval 45 = false) : False := by
  have a : τ.ival 43 = IntKind.i64.wrap (τ.tab 141 [τ.ival 40]) := eqI (e.at 38 _ rfl rfl) rfl
  have c : τ.ival 44 = IntKind.i64.wrap (τ.ival 1 + τ.ival 43) := eqI (e.at 39 _ rfl rfl) rfl
  have d : τ.bval 45 = decide ((0 : Int) < τ.ival 44) := eqB (e.at 40 _ rfl rfl) rfl
  have l := pbL_len (τ.ival 40)
  have w := h.b
  rw [ht, tab_n, wr_i64] at a
  rw [wr_i64] at c
  rw [f] at d
  have := of_decide_eq_false d.symm
  omega
theorem q9 {X : Fz} {O : Obj} {τ : Sig} (e : Eqs τ 5 wlBG) (ht : τ.tab = wlTab) (h : Cm X O τ) (n0 : 0 ≤ τ.ival 0) (n1 : τ.ival 0 < 18446744073709551616) (f : τ.bval 47 = false) : False := by
  have a : τ.sval 41 = bs (pbL (τ.ival 40)) := by rw [eqFs (e.at 36 _ rfl rfl), ht, tab_s]
  have c : τ.sval 42 = τ.sval 2 ++ τ.sval 41 := eqCat (e.at 37 _ rfl rfl) rfl rfl
  have z : τ.ival 46 = ((τ.sval 42).size : Nat) := eqLen (e.at 41 _ rfl rfl)
  have d : τ.bval 47 = decide (τ.ival 46 ≤ 9223372036854775807) := eqB (e.at 42 _ rfl rfl) rfl
  have l := pbL_len (τ.ival 40)
  have w := h.b
  rw [c, a, app_size, bs_size] at z
  rw [f] at d
  have := of_decide_eq_false d.symm
  omega
theorem i9 {X : Fz} {O : Obj} {τ : Sig} (e : Eqs τ 5 wlBG) (ht : τ.tab = wlTab) (h : Cm X O τ) (n0 : 0 ≤ τ.ival 0) (n1 : τ.ival 0 < 18446744073709551616) : τ.ival 48 = (τ.ival 40 + 9223372036854775808) % 18446744073709551616 - 9223372036854775808 := (eqI (e.at 43 _ rfl rfl) rfl).trans (wr_i64 _)
theorem x9 {X : Fz} {O : Obj} {τ : Sig} (e : Eqs τ 5 wlBG) (ht : τ.tab = wlTab) (h : Cm X O τ) (n0 : 0 ≤ τ.ival 0) (n1 : τ.ival 0 < 18446744073709551616) : τ.ival 53 = zig (τ.ival 48) := by
  have a := i9 e ht h n0 n1
  have u : τ.ival 49 = τ.ival 48 % 18446744073709551616 := (eqI (e.at 44 _ rfl rfl) rfl).trans (wr_u64 _)
  have s : τ.ival 50 = τ.ival 49 * 2 % 18446744073709551616 := by
    have : τ.ival 50 = IntKind.u64.wrap (τ.ival 49 * 2 ^ (min (1 : Int).toNat IntKind.u64.bits)) := eqI (e.at 45 _ rfl rfl) rfl
    rw [show (2 : Int) ^ (min (1 : Int).toNat IntKind.u64.bits) = 2 by decide, wr_u64] at this
    exact this
  have hh : τ.ival 51 = τ.ival 48 / 9223372036854775808 := (eqI (x := (τ.ival 48 : Int).fdiv (2 ^ (min (63 : Int).toNat IntKind.i64.bits))) (e.at 46 _ rfl rfl) rfl).trans (by rw [show (2 : Int) ^ (min (63 : Int).toNat IntKind.i64.bits) = 9223372036854775808 by decide]; exact fdiv_pow (by decide))
  have q : τ.ival 52 = τ.ival 51 % 18446744073709551616 := (eqI (e.at 47 _ rfl rfl) rfl).trans (wr_u64 _)
  exact zig_xor (by omega) (by omega) u s hh q (eqI (e.at 48 _ rfl rfl) rfl)
theorem pp9 {X : Fz} {O : Obj} {τ : Sig} (e : Eqs τ 5 wlBG) (ht : τ.tab = wlTab) (h : Cm X O τ) (n0 : 0 ≤ τ.ival 0) (n1 : τ.ival 0 < 18446744073709551616) (f : τ.bval 58 = false) : False := by
  have a : τ.ival 56 = IntKind.i64.wrap (τ.tab 141 [τ.ival 53]) := eqI (e.at 51 _ rfl rfl) rfl
  have c : τ.ival 57 = IntKind.i64.wrap (τ.ival 1 + τ.ival 56) := eqI (e.at 52 _ rfl rfl) rfl
  have d : τ.bval 58 = decide ((0 : Int) < τ.ival 57) := eqB (e.at 53 _ rfl rfl) rfl
  have l := pbL_len (τ.ival 53)
  have w := h.b
  rw [ht, tab_n, wr_i64] at a
  rw [wr_i64] at c
  rw [f] at d
  have := of_decide_eq_false d.symm
  omega
theorem g9 {X : Fz} {O : Obj} {τ : Sig} (e : Eqs τ 5 wlBG) (ht : τ.tab = wlTab) (h : Cm X O τ) (n0 : 0 ≤ τ.ival 0) (n1 : τ.ival 0 < 18446744073709551616) : τ.bval 59 = decide (τ.ival 48 ≥ 0) := eqB (e.at 54 _ rfl rfl) rfl
theorem m9 {X : Fz} {O : Obj} {τ : Sig} (e : Eqs τ 5 wlBG) (ht : τ.tab = wlTab) (h : Cm X O τ) (n0 : 0 ≤ τ.ival 0) (n1 : τ.ival 0 < 18446744073709551616) (hc : 0 ≤ τ.ival 48) : τ.ival 60 = zig (τ.ival 48) := by
  have a := i9 e ht h n0 n1
  have u : τ.ival 49 = τ.ival 48 % 18446744073709551616 := (eqI (e.at 44 _ rfl rfl) rfl).trans (wr_u64 _)
  have s : τ.ival 60 = 2 * τ.ival 49 % 18446744073709551616 := (eqI (e.at 55 _ rfl rfl) rfl).trans (wr_u64 _)
  unfold zig
  rw [if_pos hc]
  omega
theorem gg9 {X : Fz} {O : Obj} {τ : Sig} (e : Eqs τ 5 wlBG) (ht : τ.tab = wlTab) (h : Cm X O τ) (n0 : 0 ≤ τ.ival 0) (n1 : τ.ival 0 < 18446744073709551616) (f : τ.bval 59 = false) : False := by
  have a := a9 e ht h n0 n1
  have i := i9 e ht h n0 n1
  have g := g9 e ht h n0 n1
  rw [f] at g
  have := of_decide_eq_false g.symm
  omega
theorem s9 {X : Fz} {O : Obj} {τ : Sig} (e : Eqs τ 5 wlBG) (ht : τ.tab = wlTab) (h : Cm X O τ) (n0 : 0 ≤ τ.ival 0) (n1 : τ.ival 0 < 18446744073709551616) : τ.sval 61 = bs (pbL (zig (τ.ival 48))) := by
  have a := a9 e ht h n0 n1
  have i := i9 e ht h n0 n1
  rw [eqFs (e.at 56 _ rfl rfl), ht, tab_s, m9 e ht h n0 n1 (by omega)]
theorem qq9 {X : Fz} {O : Obj} {τ : Sig} (e : Eqs τ 5 wlBG) (ht : τ.tab = wlTab) (h : Cm X O τ) (n0 : 0 ≤ τ.ival 0) (n1 : τ.ival 0 < 18446744073709551616) (f : τ.bval 64 = false) : False := by
  have c : τ.sval 62 = τ.sval 2 ++ τ.sval 61 := eqCat (e.at 57 _ rfl rfl) rfl rfl
  have z : τ.ival 63 = ((τ.sval 62).size : Nat) := eqLen (e.at 58 _ rfl rfl)
  have d : τ.bval 64 = decide (τ.ival 63 ≤ 9223372036854775807) := eqB (e.at 59 _ rfl rfl) rfl
  have l := pbL_len (zig (τ.ival 48))
  have w := h.b
  rw [c, s9 e ht h n0 n1, app_size, bs_size] at z
  rw [f] at d
  have := of_decide_eq_false d.symm
  omega
theorem ne9 {X : Fz} {O : Obj} {τ : Sig} (e : Eqs τ 5 wlBG) (ht : τ.tab = wlTab) (h : Cm X O τ) (n0 : 0 ≤ τ.ival 0) (n1 : τ.ival 0 < 18446744073709551616) (f : τ.bval 65 = true) : False := by
  have c2 : τ.sval 55 = τ.sval 2 ++ τ.sval 54 := eqCat (e.at 50 _ rfl rfl) rfl rfl
  have c5 : τ.sval 62 = τ.sval 2 ++ τ.sval 61 := eqCat (e.at 57 _ rfl rfl) rfl rfl
  have s2 : τ.sval 54 = bs (pbL (zig (τ.ival 48))) := by rw [eqFs (e.at 49 _ rfl rfl), ht, tab_s, x9 e ht h n0 n1]
  have := eqStrNe (e.at 60 _ rfl rfl) (by rw [c2, c5, s2, s9 e ht h n0 n1])
  rw [f] at this
  cases this
theorem a18 {X : Fz} {O : Obj} {τ : Sig} (e : Eqs τ 5 wlBG) (ht : τ.tab = wlTab) (h : Cm X O τ) (n0 : 0 ≤ τ.ival 0) (n1 : τ.ival 0 < 18446744073709551616) : τ.ival 66 = τ.ival 0 / 262144 := (eqI (x := (τ.ival 0 : Int).fdiv (2 ^ (min (18 : Int).toNat IntKind.u64.bits))) (e.at 61 _ rfl rfl) rfl).trans (by rw [show (2 : Int) ^ (min (18 : Int).toNat IntKind.u64.bits) = 262144 by decide]; exact fdiv_pow (by decide))
theorem p18 {X : Fz} {O : Obj} {τ : Sig} (e : Eqs τ 5 wlBG) (ht : τ.tab = wlTab) (h : Cm X O τ) (n0 : 0 ≤ τ.ival 0) (n1 : τ.ival 0 < 18446744073709551616) (f : τ.bval 71 = false) : False := by
  have a : τ.ival 69 = IntKind.i64.wrap (τ.tab 141 [τ.ival 66]) := eqI (e.at 64 _ rfl rfl) rfl
  have c : τ.ival 70 = IntKind.i64.wrap (τ.ival 1 + τ.ival 69) := eqI (e.at 65 _ rfl rfl) rfl
  have d : τ.bval 71 = decide ((0 : Int) < τ.ival 70) := eqB (e.at 66 _ rfl rfl) rfl
  have l := pbL_len (τ.ival 66)
  have w := h.b
  rw [ht, tab_n, wr_i64] at a
  rw [wr_i64] at c
  rw [f] at d
  have := of_decide_eq_false d.symm
  omega
theorem q18 {X : Fz} {O : Obj} {τ : Sig} (e : Eqs τ 5 wlBG) (ht : τ.tab = wlTab) (h : Cm X O τ) (n0 : 0 ≤ τ.ival 0) (n1 : τ.ival 0 < 18446744073709551616) (f : τ.bval 73 = false) : False := by
  have a : τ.sval 67 = bs (pbL (τ.ival 66)) := by rw [eqFs (e.at 62 _ rfl rfl), ht, tab_s]
  have c : τ.sval 68 = τ.sval 2 ++ τ.sval 67 := eqCat (e.at 63 _ rfl rfl) rfl rfl
  have z : τ.ival 72 = ((τ.sval 68).size : Nat) := eqLen (e.at 67 _ rfl rfl)
  have d : τ.bval 73 = decide (τ.ival 72 ≤ 9223372036854775807) := eqB (e.at 68 _ rfl rfl) rfl
  have l := pbL_len (τ.ival 66)
  have w := h.b
  rw [c, a, app_size, bs_size] at z
  rw [f] at d
  have := of_decide_eq_false d.symm
  omega
theorem i18 {X : Fz} {O : Obj} {τ : Sig} (e : Eqs τ 5 wlBG) (ht : τ.tab = wlTab) (h : Cm X O τ) (n0 : 0 ≤ τ.ival 0) (n1 : τ.ival 0 < 18446744073709551616) : τ.ival 74 = (τ.ival 66 + 9223372036854775808) % 18446744073709551616 - 9223372036854775808 := (eqI (e.at 69 _ rfl rfl) rfl).trans (wr_i64 _)
theorem x18 {X : Fz} {O : Obj} {τ : Sig} (e : Eqs τ 5 wlBG) (ht : τ.tab = wlTab) (h : Cm X O τ) (n0 : 0 ≤ τ.ival 0) (n1 : τ.ival 0 < 18446744073709551616) : τ.ival 79 = zig (τ.ival 74) := by
  have a := i18 e ht h n0 n1
  have u : τ.ival 75 = τ.ival 74 % 18446744073709551616 := (eqI (e.at 70 _ rfl rfl) rfl).trans (wr_u64 _)
  have s : τ.ival 76 = τ.ival 75 * 2 % 18446744073709551616 := by
    have : τ.ival 76 = IntKind.u64.wrap (τ.ival 75 * 2 ^ (min (1 : Int).toNat IntKind.u64.bits)) := eqI (e.at 71 _ rfl rfl) rfl
    rw [show (2 : Int) ^ (min (1 : Int).toNat IntKind.u64.bits) = 2 by decide, wr_u64] at this
    exact this
  have hh : τ.ival 77 = τ.ival 74 / 9223372036854775808 := (eqI (x := (τ.ival 74 : Int).fdiv (2 ^ (min (63 : Int).toNat IntKind.i64.bits))) (e.at 72 _ rfl rfl) rfl).trans (by rw [show (2 : Int) ^ (min (63 : Int).toNat IntKind.i64.bits) = 9223372036854775808 by decide]; exact fdiv_pow (by decide))
  have q : τ.ival 78 = τ.ival 77 % 18446744073709551616 := (eqI (e.at 73 _ rfl rfl) rfl).trans (wr_u64 _)
  exact zig_xor (by omega) (by omega) u s hh q (eqI (e.at 74 _ rfl rfl) rfl)
theorem pp18 {X : Fz} {O : Obj} {τ : Sig} (e : Eqs τ 5 wlBG) (ht : τ.tab = wlTab) (h : Cm X O τ) (n0 : 0 ≤ τ.ival 0) (n1 : τ.ival 0 < 18446744073709551616) (f : τ.bval 84 = false) : False := by
  have a : τ.ival 82 = IntKind.i64.wrap (τ.tab 141 [τ.ival 79]) := eqI (e.at 77 _ rfl rfl) rfl
  have c : τ.ival 83 = IntKind.i64.wrap (τ.ival 1 + τ.ival 82) := eqI (e.at 78 _ rfl rfl) rfl
  have d : τ.bval 84 = decide ((0 : Int) < τ.ival 83) := eqB (e.at 79 _ rfl rfl) rfl
  have l := pbL_len (τ.ival 79)
  have w := h.b
  rw [ht, tab_n, wr_i64] at a
  rw [wr_i64] at c
  rw [f] at d
  have := of_decide_eq_false d.symm
  omega
theorem g18 {X : Fz} {O : Obj} {τ : Sig} (e : Eqs τ 5 wlBG) (ht : τ.tab = wlTab) (h : Cm X O τ) (n0 : 0 ≤ τ.ival 0) (n1 : τ.ival 0 < 18446744073709551616) : τ.bval 85 = decide (τ.ival 74 ≥ 0) := eqB (e.at 80 _ rfl rfl) rfl
theorem m18 {X : Fz} {O : Obj} {τ : Sig} (e : Eqs τ 5 wlBG) (ht : τ.tab = wlTab) (h : Cm X O τ) (n0 : 0 ≤ τ.ival 0) (n1 : τ.ival 0 < 18446744073709551616) (hc : 0 ≤ τ.ival 74) : τ.ival 86 = zig (τ.ival 74) := by
  have a := i18 e ht h n0 n1
  have u : τ.ival 75 = τ.ival 74 % 18446744073709551616 := (eqI (e.at 70 _ rfl rfl) rfl).trans (wr_u64 _)
  have s : τ.ival 86 = 2 * τ.ival 75 % 18446744073709551616 := (eqI (e.at 81 _ rfl rfl) rfl).trans (wr_u64 _)
  unfold zig
  rw [if_pos hc]
  omega
theorem gg18 {X : Fz} {O : Obj} {τ : Sig} (e : Eqs τ 5 wlBG) (ht : τ.tab = wlTab) (h : Cm X O τ) (n0 : 0 ≤ τ.ival 0) (n1 : τ.ival 0 < 18446744073709551616) (f : τ.bval 85 = false) : False := by
  have a := a18 e ht h n0 n1
  have i := i18 e ht h n0 n1
  have g := g18 e ht h n0 n1
  rw [f] at g
  have := of_decide_eq_false g.symm
  omega
theorem s18 {X : Fz} {O : Obj} {τ : Sig} (e : Eqs τ 5 wlBG) (ht : τ.tab = wlTab) (h : Cm X O τ) (n0 : 0 ≤ τ.ival 0) (n1 : τ.ival 0 < 18446744073709551616) : τ.sval 87 = bs (pbL (zig (τ.ival 74))) := by
  have a := a18 e ht h n0 n1
  have i := i18 e ht h n0 n1
  rw [eqFs (e.at 82 _ rfl rfl), ht, tab_s, m18 e ht h n0 n1 (by omega)]
theorem qq18 {X : Fz} {O : Obj} {τ : Sig} (e : Eqs τ 5 wlBG) (ht : τ.tab = wlTab) (h : Cm X O τ) (n0 : 0 ≤ τ.ival 0) (n1 : τ.ival 0 < 18446744073709551616) (f : τ.bval 90 = false) : False := by
  have c : τ.sval 88 = τ.sval 2 ++ τ.sval 87 := eqCat (e.at 83 _ rfl rfl) rfl rfl
  have z : τ.ival 89 = ((τ.sval 88).size : Nat) := eqLen (e.at 84 _ rfl rfl)
  have d : τ.bval 90 = decide (τ.ival 89 ≤ 9223372036854775807) := eqB (e.at 85 _ rfl rfl) rfl
  have l := pbL_len (zig (τ.ival 74))
  have w := h.b
  rw [c, s18 e ht h n0 n1, app_size, bs_size] at z
  rw [f] at d
  have := of_decide_eq_false d.symm
  omega
theorem ne18 {X : Fz} {O : Obj} {τ : Sig} (e : Eqs τ 5 wlBG) (ht : τ.tab = wlTab) (h : Cm X O τ) (n0 : 0 ≤ τ.ival 0) (n1 : τ.ival 0 < 18446744073709551616) (f : τ.bval 91 = true) : False := by
  have c2 : τ.sval 81 = τ.sval 2 ++ τ.sval 80 := eqCat (e.at 76 _ rfl rfl) rfl rfl
  have c5 : τ.sval 88 = τ.sval 2 ++ τ.sval 87 := eqCat (e.at 83 _ rfl rfl) rfl rfl
  have s2 : τ.sval 80 = bs (pbL (zig (τ.ival 74))) := by rw [eqFs (e.at 75 _ rfl rfl), ht, tab_s, x18 e ht h n0 n1]
  have := eqStrNe (e.at 86 _ rfl rfl) (by rw [c2, c5, s2, s18 e ht h n0 n1])
  rw [f] at this
  cases this
theorem a27 {X : Fz} {O : Obj} {τ : Sig} (e : Eqs τ 5 wlBG) (ht : τ.tab = wlTab) (h : Cm X O τ) (n0 : 0 ≤ τ.ival 0) (n1 : τ.ival 0 < 18446744073709551616) : τ.ival 92 = τ.ival 0 / 134217728 := (eqI (x := (τ.ival 0 : Int).fdiv (2 ^ (min (27 : Int).toNat IntKind.u64.bits))) (e.at 87 _ rfl rfl) rfl).trans (by rw [show (2 : Int) ^ (min (27 : Int).toNat IntKind.u64.bits) = 134217728 by decide]; exact fdiv_pow (by decide))
theorem p27 {X : Fz} {O : Obj} {τ : Sig} (e : Eqs τ 5 wlBG) (ht : τ.tab = wlTab) (h : Cm X O τ) (n0 : 0 ≤ τ.ival 0) (n1 : τ.ival 0 < 18446744073709551616) (f : τ.bval 97 = false) : False := by
  have a : τ.ival 95 = IntKind.i64.wrap (τ.tab 141 [τ.ival 92]) := eqI (e.at 90 _ rfl rfl) rfl
  have c : τ.ival 96 = IntKind.i64.wrap (τ.ival 1 + τ.ival 95) := eqI (e.at 91 _ rfl rfl) rfl
  have d : τ.bval 97 = decide ((0 : Int) < τ.ival 96) := eqB (e.at 92 _ rfl rfl) rfl
  have l := pbL_len (τ.ival 92)
  have w := h.b
  rw [ht, tab_n, wr_i64] at a
  rw [wr_i64] at c
  rw [f] at d
  have := of_decide_eq_false d.symm
  omega
theorem q27 {X : Fz} {O : Obj} {τ : Sig} (e : Eqs τ 5 wlBG) (ht : τ.tab = wlTab) (h : Cm X O τ) (n0 : 0 ≤ τ.ival 0) (n1 : τ.ival 0 < 18446744073709551616) (f : τ.bval 99 = false) : False := by
  have a : τ.sval 93 = bs (pbL (τ.ival 92)) := by rw [eqFs (e.at 88 _ rfl rfl), ht, tab_s]
  have c : τ.sval 94 = τ.sval 2 ++ τ.sval 93 := eqCat (e.at 89 _ rfl rfl) rfl rfl
  have z : τ.ival 98 = ((τ.sval 94).size : Nat) := eqLen (e.at 93 _ rfl rfl)
  have d : τ.bval 99 = decide (τ.ival 98 ≤ 9223372036854775807) := eqB (e.at 94 _ rfl rfl) rfl
  have l := pbL_len (τ.ival 92)
  have w := h.b
  rw [c, a, app_size, bs_size] at z
  rw [f] at d
  have := of_decide_eq_false d.symm
  omega
theorem i27 {X : Fz} {O : Obj} {τ : Sig} (e : Eqs τ 5 wlBG) (ht : τ.tab = wlTab) (h : Cm X O τ) (n0 : 0 ≤ τ.ival 0) (n1 : τ.ival 0 < 18446744073709551616) : τ.ival 100 = (τ.ival 92 + 9223372036854775808) % 18446744073709551616 - 9223372036854775808 := (eqI (e.at 95 _ rfl rfl) rfl).trans (wr_i64 _)
theorem x27 {X : Fz} {O : Obj} {τ : Sig} (e : Eqs τ 5 wlBG) (ht : τ.tab = wlTab) (h : Cm X O τ) (n0 : 0 ≤ τ.ival 0) (n1 : τ.ival 0 < 18446744073709551616) : τ.ival 105 = zig (τ.ival 100) := by
  have a := i27 e ht h n0 n1
  have u : τ.ival 101 = τ.ival 100 % 18446744073709551616 := (eqI (e.at 96 _ rfl rfl) rfl).trans (wr_u64 _)
  have s : τ.ival 102 = τ.ival 101 * 2 % 18446744073709551616 := by
    have : τ.ival 102 = IntKind.u64.wrap (τ.ival 101 * 2 ^ (min (1 : Int).toNat IntKind.u64.bits)) := eqI (e.at 97 _ rfl rfl) rfl
    rw [show (2 : Int) ^ (min (1 : Int).toNat IntKind.u64.bits) = 2 by decide, wr_u64] at this
    exact this
  have hh : τ.ival 103 = τ.ival 100 / 9223372036854775808 := (eqI (x := (τ.ival 100 : Int).fdiv (2 ^ (min (63 : Int).toNat IntKind.i64.bits))) (e.at 98 _ rfl rfl) rfl).trans (by rw [show (2 : Int) ^ (min (63 : Int).toNat IntKind.i64.bits) = 9223372036854775808 by decide]; exact fdiv_pow (by decide))
  have q : τ.ival 104 = τ.ival 103 % 18446744073709551616 := (eqI (e.at 99 _ rfl rfl) rfl).trans (wr_u64 _)
  exact zig_xor (by omega) (by omega) u s hh q (eqI (e.at 100 _ rfl rfl) rfl)
theorem pp27 {X : Fz} {O : Obj} {τ : Sig} (e : Eqs τ 5 wlBG) (ht : τ.tab = wlTab) (h : Cm X O τ) (n0 : 0 ≤ τ.ival 0) (n1 : τ.ival 0 < 18446744073709551616) (f : τ.bval 110 = false) : False := by
  have a : τ.ival 108 = IntKind.i64.wrap (τ.tab 141 [τ.ival 105]) := eqI (e.at 103 _ rfl rfl) rfl
  have c : τ.ival 109 = IntKind.i64.wrap (τ.ival 1 + τ.ival 108) := eqI (e.at 104 _ rfl rfl) rfl
  have d : τ.bval 110 = decide ((0 : Int) < τ.ival 109) := eqB (e.at 105 _ rfl rfl) rfl
  have l := pbL_len (τ.ival 105)
  have w := h.b
  rw [ht, tab_n, wr_i64] at a
  rw [wr_i64] at c
  rw [f] at d
  have := of_decide_eq_false d.symm
  omega
theorem g27 {X : Fz} {O : Obj} {τ : Sig} (e : Eqs τ 5 wlBG) (ht : τ.tab = wlTab) (h : Cm X O τ) (n0 : 0 ≤ τ.ival 0) (n1 : τ.ival 0 < 18446744073709551616) : τ.bval 111 = decide (τ.ival 100 ≥ 0) := eqB (e.at 106 _ rfl rfl) rfl
theorem m27 {X : Fz} {O : Obj} {τ : Sig} (e : Eqs τ 5 wlBG) (ht : τ.tab = wlTab) (h : Cm X O τ) (n0 : 0 ≤ τ.ival 0) (n1 : τ.ival 0 < 18446744073709551616) (hc : 0 ≤ τ.ival 100) : τ.ival 112 = zig (τ.ival 100) := by
  have a := i27 e ht h n0 n1
  have u : τ.ival 101 = τ.ival 100 % 18446744073709551616 := (eqI (e.at 96 _ rfl rfl) rfl).trans (wr_u64 _)
  have s : τ.ival 112 = 2 * τ.ival 101 % 18446744073709551616 := (eqI (e.at 107 _ rfl rfl) rfl).trans (wr_u64 _)
  unfold zig
  rw [if_pos hc]
  omega
theorem gg27 {X : Fz} {O : Obj} {τ : Sig} (e : Eqs τ 5 wlBG) (ht : τ.tab = wlTab) (h : Cm X O τ) (n0 : 0 ≤ τ.ival 0) (n1 : τ.ival 0 < 18446744073709551616) (f : τ.bval 111 = false) : False := by
  have a := a27 e ht h n0 n1
  have i := i27 e ht h n0 n1
  have g := g27 e ht h n0 n1
  rw [f] at g
  have := of_decide_eq_false g.symm
  omega
theorem s27 {X : Fz} {O : Obj} {τ : Sig} (e : Eqs τ 5 wlBG) (ht : τ.tab = wlTab) (h : Cm X O τ) (n0 : 0 ≤ τ.ival 0) (n1 : τ.ival 0 < 18446744073709551616) : τ.sval 113 = bs (pbL (zig (τ.ival 100))) := by
  have a := a27 e ht h n0 n1
  have i := i27 e ht h n0 n1
  rw [eqFs (e.at 108 _ rfl rfl), ht, tab_s, m27 e ht h n0 n1 (by omega)]
theorem qq27 {X : Fz} {O : Obj} {τ : Sig} (e : Eqs τ 5 wlBG) (ht : τ.tab = wlTab) (h : Cm X O τ) (n0 : 0 ≤ τ.ival 0) (n1 : τ.ival 0 < 18446744073709551616) (f : τ.bval 116 = false) : False := by
  have c : τ.sval 114 = τ.sval 2 ++ τ.sval 113 := eqCat (e.at 109 _ rfl rfl) rfl rfl
  have z : τ.ival 115 = ((τ.sval 114).size : Nat) := eqLen (e.at 110 _ rfl rfl)
  have d : τ.bval 116 = decide (τ.ival 115 ≤ 9223372036854775807) := eqB (e.at 111 _ rfl rfl) rfl
  have l := pbL_len (zig (τ.ival 100))
  have w := h.b
  rw [c, s27 e ht h n0 n1, app_size, bs_size] at z
  rw [f] at d
  have := of_decide_eq_false d.symm
  omega
theorem ne27 {X : Fz} {O : Obj} {τ : Sig} (e : Eqs τ 5 wlBG) (ht : τ.tab = wlTab) (h : Cm X O τ) (n0 : 0 ≤ τ.ival 0) (n1 : τ.ival 0 < 18446744073709551616) (f : τ.bval 117 = true) : False := by
  have c2 : τ.sval 107 = τ.sval 2 ++ τ.sval 106 := eqCat (e.at 102 _ rfl rfl) rfl rfl
  have c5 : τ.sval 114 = τ.sval 2 ++ τ.sval 113 := eqCat (e.at 109 _ rfl rfl) rfl rfl
  have s2 : τ.sval 106 = bs (pbL (zig (τ.ival 100))) := by rw [eqFs (e.at 101 _ rfl rfl), ht, tab_s, x27 e ht h n0 n1]
  have := eqStrNe (e.at 112 _ rfl rfl) (by rw [c2, c5, s2, s27 e ht h n0 n1])
  rw [f] at this
  cases this
theorem a36 {X : Fz} {O : Obj} {τ : Sig} (e : Eqs τ 5 wlBG) (ht : τ.tab = wlTab) (h : Cm X O τ) (n0 : 0 ≤ τ.ival 0) (n1 : τ.ival 0 < 18446744073709551616) : τ.ival 118 = τ.ival 0 / 68719476736 := (eqI (x := (τ.ival 0 : Int).fdiv (2 ^ (min (36 : Int).toNat IntKind.u64.bits))) (e.at 113 _ rfl rfl) rfl).trans (by rw [show (2 : Int) ^ (min (36 : Int).toNat IntKind.u64.bits) = 68719476736 by decide]; exact fdiv_pow (by decide))
theorem p36 {X : Fz} {O : Obj} {τ : Sig} (e : Eqs τ 5 wlBG) (ht : τ.tab = wlTab) (h : Cm X O τ) (n0 : 0 ≤ τ.ival 0) (n1 : τ.ival 0 < 18446744073709551616) (f : τ.bval 123 = false) : False := by
  have a : τ.ival 121 = IntKind.i64.wrap (τ.tab 141 [τ.ival 118]) := eqI (e.at 116 _ rfl rfl) rfl
  have c : τ.ival 122 = IntKind.i64.wrap (τ.ival 1 + τ.ival 121) := eqI (e.at 117 _ rfl rfl) rfl
  have d : τ.bval 123 = decide ((0 : Int) < τ.ival 122) := eqB (e.at 118 _ rfl rfl) rfl
  have l := pbL_len (τ.ival 118)
  have w := h.b
  rw [ht, tab_n, wr_i64] at a
  rw [wr_i64] at c
  rw [f] at d
  have := of_decide_eq_false d.symm
  omega
theorem q36 {X : Fz} {O : Obj} {τ : Sig} (e : Eqs τ 5 wlBG) (ht : τ.tab = wlTab) (h : Cm X O τ) (n0 : 0 ≤ τ.ival 0) (n1 : τ.ival 0 < 18446744073709551616) (f : τ.bval 125 = false) : False := by
  have a : τ.sval 119 = bs (pbL (τ.ival 118)) := by rw [eqFs (e.at 114 _ rfl rfl), ht, tab_s]
  have c : τ.sval 120 = τ.sval 2 ++ τ.sval 119 := eqCat (e.at 115 _ rfl rfl) rfl rfl
  have z : τ.ival 124 = ((τ.sval 120).size : Nat) := eqLen (e.at 119 _ rfl rfl)
  have d : τ.bval 125 = decide (τ.ival 124 ≤ 9223372036854775807) := eqB (e.at 120 _ rfl rfl) rfl
  have l := pbL_len (τ.ival 118)
  have w := h.b
  rw [c, a, app_size, bs_size] at z
  rw [f] at d
  have := of_decide_eq_false d.symm
  omega
theorem i36 {X : Fz} {O : Obj} {τ : Sig} (e : Eqs τ 5 wlBG) (ht : τ.tab = wlTab) (h : Cm X O τ) (n0 : 0 ≤ τ.ival 0) (n1 : τ.ival 0 < 18446744073709551616) : τ.ival 126 = (τ.ival 118 + 9223372036854775808) % 18446744073709551616 - 9223372036854775808 := (eqI (e.at 121 _ rfl rfl) rfl).trans (wr_i64 _)
theorem x36 {X : Fz} {O : Obj} {τ : Sig} (e : Eqs τ 5 wlBG) (ht : τ.tab = wlTab) (h : Cm X O τ) (n0 : 0 ≤ τ.ival 0) (n1 : τ.ival 0 < 18446744073709551616) : τ.ival 131 = zig (τ.ival 126) := by
  have a := i36 e ht h n0 n1
  have u : τ.ival 127 = τ.ival 126 % 18446744073709551616 := (eqI (e.at 122 _ rfl rfl) rfl).trans (wr_u64 _)
  have s : τ.ival 128 = τ.ival 127 * 2 % 18446744073709551616 := by
    have : τ.ival 128 = IntKind.u64.wrap (τ.ival 127 * 2 ^ (min (1 : Int).toNat IntKind.u64.bits)) := eqI (e.at 123 _ rfl rfl) rfl
    rw [show (2 : Int) ^ (min (1 : Int).toNat IntKind.u64.bits) = 2 by decide, wr_u64] at this
    exact this
  have hh : τ.ival 129 = τ.ival 126 / 9223372036854775808 := (eqI (x := (τ.ival 126 : Int).fdiv (2 ^ (min (63 : Int).toNat IntKind.i64.bits))) (e.at 124 _ rfl rfl) rfl).trans (by rw [show (2 : Int) ^ (min (63 : Int).toNat IntKind.i64.bits) = 9223372036854775808 by decide]; exact fdiv_pow (by decide))
  have q : τ.ival 130 = τ.ival 129 % 18446744073709551616 := (eqI (e.at 125 _ rfl rfl) rfl).trans (wr_u64 _)
  exact zig_xor (by omega) (by omega) u s hh q (eqI (e.at 126 _ rfl rfl) rfl)
theorem pp36 {X : Fz} {O : Obj} {τ : Sig} (e : Eqs τ 5 wlBG) (ht : τ.tab = wlTab) (h : Cm X O τ) (n0 : 0 ≤ τ.ival 0) (n1 : τ.ival 0 < 18446744073709551616) (f : τ.bval 136 = false) : False := by
  have a : τ.ival 134 = IntKind.i64.wrap (τ.tab 141 [τ.ival 131]) := eqI (e.at 129 _ rfl rfl) rfl
  have c : τ.ival 135 = IntKind.i64.wrap (τ.ival 1 + τ.ival 134) := eqI (e.at 130 _ rfl rfl) rfl
  have d : τ.bval 136 = decide ((0 : Int) < τ.ival 135) := eqB (e.at 131 _ rfl rfl) rfl
  have l := pbL_len (τ.ival 131)
  have w := h.b
  rw [ht, tab_n, wr_i64] at a
  rw [wr_i64] at c
  rw [f] at d
  have := of_decide_eq_false d.symm
  omega
theorem g36 {X : Fz} {O : Obj} {τ : Sig} (e : Eqs τ 5 wlBG) (ht : τ.tab = wlTab) (h : Cm X O τ) (n0 : 0 ≤ τ.ival 0) (n1 : τ.ival 0 < 18446744073709551616) : τ.bval 137 = decide (τ.ival 126 ≥ 0) := eqB (e.at 132 _ rfl rfl) rfl
theorem m36 {X : Fz} {O : Obj} {τ : Sig} (e : Eqs τ 5 wlBG) (ht : τ.tab = wlTab) (h : Cm X O τ) (n0 : 0 ≤ τ.ival 0) (n1 : τ.ival 0 < 18446744073709551616) (hc : 0 ≤ τ.ival 126) : τ.ival 138 = zig (τ.ival 126) := by
  have a := i36 e ht h n0 n1
  have u : τ.ival 127 = τ.ival 126 % 18446744073709551616 := (eqI (e.at 122 _ rfl rfl) rfl).trans (wr_u64 _)
  have s : τ.ival 138 = 2 * τ.ival 127 % 18446744073709551616 := (eqI (e.at 133 _ rfl rfl) rfl).trans (wr_u64 _)
  unfold zig
  rw [if_pos hc]
  omega
theorem gg36 {X : Fz} {O : Obj} {τ : Sig} (e : Eqs τ 5 wlBG) (ht : τ.tab = wlTab) (h : Cm X O τ) (n0 : 0 ≤ τ.ival 0) (n1 : τ.ival 0 < 18446744073709551616) (f : τ.bval 137 = false) : False := by
  have a := a36 e ht h n0 n1
  have i := i36 e ht h n0 n1
  have g := g36 e ht h n0 n1
  rw [f] at g
  have := of_decide_eq_false g.symm
  omega
theorem s36 {X : Fz} {O : Obj} {τ : Sig} (e : Eqs τ 5 wlBG) (ht : τ.tab = wlTab) (h : Cm X O τ) (n0 : 0 ≤ τ.ival 0) (n1 : τ.ival 0 < 18446744073709551616) : τ.sval 139 = bs (pbL (zig (τ.ival 126))) := by
  have a := a36 e ht h n0 n1
  have i := i36 e ht h n0 n1
  rw [eqFs (e.at 134 _ rfl rfl), ht, tab_s, m36 e ht h n0 n1 (by omega)]
theorem qq36 {X : Fz} {O : Obj} {τ : Sig} (e : Eqs τ 5 wlBG) (ht : τ.tab = wlTab) (h : Cm X O τ) (n0 : 0 ≤ τ.ival 0) (n1 : τ.ival 0 < 18446744073709551616) (f : τ.bval 142 = false) : False := by
  have c : τ.sval 140 = τ.sval 2 ++ τ.sval 139 := eqCat (e.at 135 _ rfl rfl) rfl rfl
  have z : τ.ival 141 = ((τ.sval 140).size : Nat) := eqLen (e.at 136 _ rfl rfl)
  have d : τ.bval 142 = decide (τ.ival 141 ≤ 9223372036854775807) := eqB (e.at 137 _ rfl rfl) rfl
  have l := pbL_len (zig (τ.ival 126))
  have w := h.b
  rw [c, s36 e ht h n0 n1, app_size, bs_size] at z
  rw [f] at d
  have := of_decide_eq_false d.symm
  omega
theorem ne36 {X : Fz} {O : Obj} {τ : Sig} (e : Eqs τ 5 wlBG) (ht : τ.tab = wlTab) (h : Cm X O τ) (n0 : 0 ≤ τ.ival 0) (n1 : τ.ival 0 < 18446744073709551616) (f : τ.bval 143 = true) : False := by
  have c2 : τ.sval 133 = τ.sval 2 ++ τ.sval 132 := eqCat (e.at 128 _ rfl rfl) rfl rfl
  have c5 : τ.sval 140 = τ.sval 2 ++ τ.sval 139 := eqCat (e.at 135 _ rfl rfl) rfl rfl
  have s2 : τ.sval 132 = bs (pbL (zig (τ.ival 126))) := by rw [eqFs (e.at 127 _ rfl rfl), ht, tab_s, x36 e ht h n0 n1]
  have := eqStrNe (e.at 138 _ rfl rfl) (by rw [c2, c5, s2, s36 e ht h n0 n1])
  rw [f] at this
  cases this
theorem a45 {X : Fz} {O : Obj} {τ : Sig} (e : Eqs τ 5 wlBG) (ht : τ.tab = wlTab) (h : Cm X O τ) (n0 : 0 ≤ τ.ival 0) (n1 : τ.ival 0 < 18446744073709551616) : τ.ival 144 = τ.ival 0 / 35184372088832 := (eqI (x := (τ.ival 0 : Int).fdiv (2 ^ (min (45 : Int).toNat IntKind.u64.bits))) (e.at 139 _ rfl rfl) rfl).trans (by rw [show (2 : Int) ^ (min (45 : Int).toNat IntKind.u64.bits) = 35184372088832 by decide]; exact fdiv_pow (by decide))
theorem p45 {X : Fz} {O : Obj} {τ : Sig} (e : Eqs τ 5 wlBG) (ht : τ.tab = wlTab) (h : Cm X O τ) (n0 : 0 ≤ τ.ival 0) (n1 : τ.ival 0 < 18446744073709551616) (f : τ.bval 149 = false) : False := by
  have a : τ.ival 147 = IntKind.i64.wrap (τ.tab 141 [τ.ival 144]) := eqI (e.at 142 _ rfl rfl) rfl
  have c : τ.ival 148 = IntKind.i64.wrap (τ.ival 1 + τ.ival 147) := eqI (e.at 143 _ rfl rfl) rfl
  have d : τ.bval 149 = decide ((0 : Int) < τ.ival 148) := eqB (e.at 144 _ rfl rfl) rfl
  have l := pbL_len (τ.ival 144)
  have w := h.b
  rw [ht, tab_n, wr_i64] at a
  rw [wr_i64] at c
  rw [f] at d
  have := of_decide_eq_false d.symm
  omega
theorem q45 {X : Fz} {O : Obj} {τ : Sig} (e : Eqs τ 5 wlBG) (ht : τ.tab = wlTab) (h : Cm X O τ) (n0 : 0 ≤ τ.ival 0) (n1 : τ.ival 0 < 18446744073709551616) (f : τ.bval 151 = false) : False := by
  have a : τ.sval 145 = bs (pbL (τ.ival 144)) := by rw [eqFs (e.at 140 _ rfl rfl), ht, tab_s]
  have c : τ.sval 146 = τ.sval 2 ++ τ.sval 145 := eqCat (e.at 141 _ rfl rfl) rfl rfl
  have z : τ.ival 150 = ((τ.sval 146).size : Nat) := eqLen (e.at 145 _ rfl rfl)
  have d : τ.bval 151 = decide (τ.ival 150 ≤ 9223372036854775807) := eqB (e.at 146 _ rfl rfl) rfl
  have l := pbL_len (τ.ival 144)
  have w := h.b
  rw [c, a, app_size, bs_size] at z
  rw [f] at d
  have := of_decide_eq_false d.symm
  omega
theorem i45 {X : Fz} {O : Obj} {τ : Sig} (e : Eqs τ 5 wlBG) (ht : τ.tab = wlTab) (h : Cm X O τ) (n0 : 0 ≤ τ.ival 0) (n1 : τ.ival 0 < 18446744073709551616) : τ.ival 152 = (τ.ival 144 + 9223372036854775808) % 18446744073709551616 - 9223372036854775808 := (eqI (e.at 147 _ rfl rfl) rfl).trans (wr_i64 _)
theorem x45 {X : Fz} {O : Obj} {τ : Sig} (e : Eqs τ 5 wlBG) (ht : τ.tab = wlTab) (h : Cm X O τ) (n0 : 0 ≤ τ.ival 0) (n1 : τ.ival 0 < 18446744073709551616) : τ.ival 157 = zig (τ.ival 152) := by
  have a := i45 e ht h n0 n1
  have u : τ.ival 153 = τ.ival 152 % 18446744073709551616 := (eqI (e.at 148 _ rfl rfl) rfl).trans (wr_u64 _)
  have s : τ.ival 154 = τ.ival 153 * 2 % 18446744073709551616 := by
    have : τ.ival 154 = IntKind.u64.wrap (τ.ival 153 * 2 ^ (min (1 : Int).toNat IntKind.u64.bits)) := eqI (e.at 149 _ rfl rfl) rfl
    rw [show (2 : Int) ^ (min (1 : Int).toNat IntKind.u64.bits) = 2 by decide, wr_u64] at this
    exact this
  have hh : τ.ival 155 = τ.ival 152 / 9223372036854775808 := (eqI (x := (τ.ival 152 : Int).fdiv (2 ^ (min (63 : Int).toNat IntKind.i64.bits))) (e.at 150 _ rfl rfl) rfl).trans (by rw [show (2 : Int) ^ (min (63 : Int).toNat IntKind.i64.bits) = 9223372036854775808 by decide]; exact fdiv_pow (by decide))
  have q : τ.ival 156 = τ.ival 155 % 18446744073709551616 := (eqI (e.at 151 _ rfl rfl) rfl).trans (wr_u64 _)
  exact zig_xor (by omega) (by omega) u s hh q (eqI (e.at 152 _ rfl rfl) rfl)
theorem pp45 {X : Fz} {O : Obj} {τ : Sig} (e : Eqs τ 5 wlBG) (ht : τ.tab = wlTab) (h : Cm X O τ) (n0 : 0 ≤ τ.ival 0) (n1 : τ.ival 0 < 18446744073709551616) (f : τ.bval 162 = false) : False := by
  have a : τ.ival 160 = IntKind.i64.wrap (τ.tab 141 [τ.ival 157]) := eqI (e.at 155 _ rfl rfl) rfl
  have c : τ.ival 161 = IntKind.i64.wrap (τ.ival 1 + τ.ival 160) := eqI (e.at 156 _ rfl rfl) rfl
  have d : τ.bval 162 = decide ((0 : Int) < τ.ival 161) := eqB (e.at 157 _ rfl rfl) rfl
  have l := pbL_len (τ.ival 157)
  have w := h.b
  rw [ht, tab_n, wr_i64] at a
  rw [wr_i64] at c
  rw [f] at d
  have := of_decide_eq_false d.symm
  omega
theorem g45 {X : Fz} {O : Obj} {τ : Sig} (e : Eqs τ 5 wlBG) (ht : τ.tab = wlTab) (h : Cm X O τ) (n0 : 0 ≤ τ.ival 0) (n1 : τ.ival 0 < 18446744073709551616) : τ.bval 163 = decide (τ.ival 152 ≥ 0) := eqB (e.at 158 _ rfl rfl) rfl
theorem m45 {X : Fz} {O : Obj} {τ : Sig} (e : Eqs τ 5 wlBG) (ht : τ.tab = wlTab) (h : Cm X O τ) (n0 : 0 ≤ τ.ival 0) (n1 : τ.ival 0 < 18446744073709551616) (hc : 0 ≤ τ.ival 152) : τ.ival 164 = zig (τ.ival 152) := by
  have a := i45 e ht h n0 n1
  have u : τ.ival 153 = τ.ival 152 % 18446744073709551616 := (eqI (e.at 148 _ rfl rfl) rfl).trans (wr_u64 _)
  have s : τ.ival 164 = 2 * τ.ival 153 % 18446744073709551616 := (eqI (e.at 159 _ rfl rfl) rfl).trans (wr_u64 _)
  unfold zig
  rw [if_pos hc]
  omega
theorem gg45 {X : Fz} {O : Obj} {τ : Sig} (e : Eqs τ 5 wlBG) (ht : τ.tab = wlTab) (h : Cm X O τ) (n0 : 0 ≤ τ.ival 0) (n1 : τ.ival 0 < 18446744073709551616) (f : τ.bval 163 = false) : False := by
  have a := a45 e ht h n0 n1
  have i := i45 e ht h n0 n1
  have g := g45 e ht h n0 n1
  rw [f] at g
  have := of_decide_eq_false g.symm
  omega
theorem s45 {X : Fz} {O : Obj} {τ : Sig} (e : Eqs τ 5 wlBG) (ht : τ.tab = wlTab) (h : Cm X O τ) (n0 : 0 ≤ τ.ival 0) (n1 : τ.ival 0 < 18446744073709551616) : τ.sval 165 = bs (pbL (zig (τ.ival 152))) := by
  have a := a45 e ht h n0 n1
  have i := i45 e ht h n0 n1
  rw [eqFs (e.at 160 _ rfl rfl), ht, tab_s, m45 e ht h n0 n1 (by omega)]
theorem qq45 {X : Fz} {O : Obj} {τ : Sig} (e : Eqs τ 5 wlBG) (ht : τ.tab = wlTab) (h : Cm X O τ) (n0 : 0 ≤ τ.ival 0) (n1 : τ.ival 0 < 18446744073709551616) (f : τ.bval 168 = false) : False := by
  have c : τ.sval 166 = τ.sval 2 ++ τ.sval 165 := eqCat (e.at 161 _ rfl rfl) rfl rfl
  have z : τ.ival 167 = ((τ.sval 166).size : Nat) := eqLen (e.at 162 _ rfl rfl)
  have d : τ.bval 168 = decide (τ.ival 167 ≤ 9223372036854775807) := eqB (e.at 163 _ rfl rfl) rfl
  have l := pbL_len (zig (τ.ival 152))
  have w := h.b
  rw [c, s45 e ht h n0 n1, app_size, bs_size] at z
  rw [f] at d
  have := of_decide_eq_false d.symm
  omega
theorem ne45 {X : Fz} {O : Obj} {τ : Sig} (e : Eqs τ 5 wlBG) (ht : τ.tab = wlTab) (h : Cm X O τ) (n0 : 0 ≤ τ.ival 0) (n1 : τ.ival 0 < 18446744073709551616) (f : τ.bval 169 = true) : False := by
  have c2 : τ.sval 159 = τ.sval 2 ++ τ.sval 158 := eqCat (e.at 154 _ rfl rfl) rfl rfl
  have c5 : τ.sval 166 = τ.sval 2 ++ τ.sval 165 := eqCat (e.at 161 _ rfl rfl) rfl rfl
  have s2 : τ.sval 158 = bs (pbL (zig (τ.ival 152))) := by rw [eqFs (e.at 153 _ rfl rfl), ht, tab_s, x45 e ht h n0 n1]
  have := eqStrNe (e.at 164 _ rfl rfl) (by rw [c2, c5, s2, s45 e ht h n0 n1])
  rw [f] at this
  cases this
theorem a54 {X : Fz} {O : Obj} {τ : Sig} (e : Eqs τ 5 wlBG) (ht : τ.tab = wlTab) (h : Cm X O τ) (n0 : 0 ≤ τ.ival 0) (n1 : τ.ival 0 < 18446744073709551616) : τ.ival 170 = τ.ival 0 / 18014398509481984 := (eqI (x := (τ.ival 0 : Int).fdiv (2 ^ (min (54 : Int).toNat IntKind.u64.bits))) (e.at 165 _ rfl rfl) rfl).trans (by rw [show (2 : Int) ^ (min (54 : Int).toNat IntKind.u64.bits) = 18014398509481984 by decide]; exact fdiv_pow (by decide))
theorem p54 {X : Fz} {O : Obj} {τ : Sig} (e : Eqs τ 5 wlBG) (ht : τ.tab = wlTab) (h : Cm X O τ) (n0 : 0 ≤ τ.ival 0) (n1 : τ.ival 0 < 18446744073709551616) (f : τ.bval 175 = false) : False := by
  have a : τ.ival 173 = IntKind.i64.wrap (τ.tab 141 [τ.ival 170]) := eqI (e.at 168 _ rfl rfl) rfl
  have c : τ.ival 174 = IntKind.i64.wrap (τ.ival 1 + τ.ival 173) := eqI (e.at 169 _ rfl rfl) rfl
  have d : τ.bval 175 = decide ((0 : Int) < τ.ival 174) := eqB (e.at 170 _ rfl rfl) rfl
  have l := pbL_len (τ.ival 170)
  have w := h.b
  rw [ht, tab_n, wr_i64] at a
  rw [wr_i64] at c
  rw [f] at d
  have := of_decide_eq_false d.symm
  omega
theorem q54 {X : Fz} {O : Obj} {τ : Sig} (e : Eqs τ 5 wlBG) (ht : τ.tab = wlTab) (h : Cm X O τ) (n0 : 0 ≤ τ.ival 0) (n1 : τ.ival 0 < 18446744073709551616) (f : τ.bval 177 = false) : False := by
  have a : τ.sval 171 = bs (pbL (τ.ival 170)) := by rw [eqFs (e.at 166 _ rfl rfl), ht, tab_s]
  have c : τ.sval 172 = τ.sval 2 ++ τ.sval 171 := eqCat (e.at 167 _ rfl rfl) rfl rfl
  have z : τ.ival 176 = ((τ.sval 172).size : Nat) := eqLen (e.at 171 _ rfl rfl)
  have d : τ.bval 177 = decide (τ.ival 176 ≤ 9223372036854775807) := eqB (e.at 172 _ rfl rfl) rfl
  have l := pbL_len (τ.ival 170)
  have w := h.b
  rw [c, a, app_size, bs_size] at z
  rw [f] at d
  have := of_decide_eq_false d.symm
  omega
theorem i54 {X : Fz} {O : Obj} {τ : Sig} (e : Eqs τ 5 wlBG) (ht : τ.tab = wlTab) (h : Cm X O τ) (n0 : 0 ≤ τ.ival 0) (n1 : τ.ival 0 < 18446744073709551616) : τ.ival 178 = (τ.ival 170 + 9223372036854775808) % 18446744073709551616 - 9223372036854775808 := (eqI (e.at 173 _ rfl rfl) rfl).trans (wr_i64 _)
theorem x54 {X : Fz} {O : Obj} {τ : Sig} (e : Eqs τ 5 wlBG) (ht : τ.tab = wlTab) (h : Cm X O τ) (n0 : 0 ≤ τ.ival 0) (n1 : τ.ival 0 < 18446744073709551616) : τ.ival 183 = zig (τ.ival 178) := by
  have a := i54 e ht h n0 n1
  have u : τ.ival 179 = τ.ival 178 % 18446744073709551616 := (eqI (e.at 174 _ rfl rfl) rfl).trans (wr_u64 _)
  have s : τ.ival 180 = τ.ival 179 * 2 % 18446744073709551616 := by
    have : τ.ival 180 = IntKind.u64.wrap (τ.ival 179 * 2 ^ (min (1 : Int).toNat IntKind.u64.bits)) := eqI (e.at 175 _ rfl rfl) rfl
    rw [show (2 : Int) ^ (min (1 : Int).toNat IntKind.u64.bits) = 2 by decide, wr_u64] at this
    exact this
  have hh : τ.ival 181 = τ.ival 178 / 9223372036854775808 := (eqI (x := (τ.ival 178 : Int).fdiv (2 ^ (min (63 : Int).toNat IntKind.i64.bits))) (e.at 176 _ rfl rfl) rfl).trans (by rw [show (2 : Int) ^ (min (63 : Int).toNat IntKind.i64.bits) = 9223372036854775808 by decide]; exact fdiv_pow (by decide))
  have q : τ.ival 182 = τ.ival 181 % 18446744073709551616 := (eqI (e.at 177 _ rfl rfl) rfl).trans (wr_u64 _)
  exact zig_xor (by omega) (by omega) u s hh q (eqI (e.at 178 _ rfl rfl) rfl)
theorem pp54 {X : Fz} {O : Obj} {τ : Sig} (e : Eqs τ 5 wlBG) (ht : τ.tab = wlTab) (h : Cm X O τ) (n0 : 0 ≤ τ.ival 0) (n1 : τ.ival 0 < 18446744073709551616) (f : τ.bval 188 = false) : False := by
  have a : τ.ival 186 = IntKind.i64.wrap (τ.tab 141 [τ.ival 183]) := eqI (e.at 181 _ rfl rfl) rfl
  have c : τ.ival 187 = IntKind.i64.wrap (τ.ival 1 + τ.ival 186) := eqI (e.at 182 _ rfl rfl) rfl
  have d : τ.bval 188 = decide ((0 : Int) < τ.ival 187) := eqB (e.at 183 _ rfl rfl) rfl
  have l := pbL_len (τ.ival 183)
  have w := h.b
  rw [ht, tab_n, wr_i64] at a
  rw [wr_i64] at c
  rw [f] at d
  have := of_decide_eq_false d.symm
  omega
theorem g54 {X : Fz} {O : Obj} {τ : Sig} (e : Eqs τ 5 wlBG) (ht : τ.tab = wlTab) (h : Cm X O τ) (n0 : 0 ≤ τ.ival 0) (n1 : τ.ival 0 < 18446744073709551616) : τ.bval 189 = decide (τ.ival 178 ≥ 0) := eqB (e.at 184 _ rfl rfl) rfl
theorem m54 {X : Fz} {O : Obj} {τ : Sig} (e : Eqs τ 5 wlBG) (ht : τ.tab = wlTab) (h : Cm X O τ) (n0 : 0 ≤ τ.ival 0) (n1 : τ.ival 0 < 18446744073709551616) (hc : 0 ≤ τ.ival 178) : τ.ival 190 = zig (τ.ival 178) := by
  have a := i54 e ht h n0 n1
  have u : τ.ival 179 = τ.ival 178 % 18446744073709551616 := (eqI (e.at 174 _ rfl rfl) rfl).trans (wr_u64 _)
  have s : τ.ival 190 = 2 * τ.ival 179 % 18446744073709551616 := (eqI (e.at 185 _ rfl rfl) rfl).trans (wr_u64 _)
  unfold zig
  rw [if_pos hc]
  omega
theorem gg54 {X : Fz} {O : Obj} {τ : Sig} (e : Eqs τ 5 wlBG) (ht : τ.tab = wlTab) (h : Cm X O τ) (n0 : 0 ≤ τ.ival 0) (n1 : τ.ival 0 < 18446744073709551616) (f : τ.bval 189 = false) : False := by
  have a := a54 e ht h n0 n1
  have i := i54 e ht h n0 n1
  have g := g54 e ht h n0 n1
  rw [f] at g
  have := of_decide_eq_false g.symm
  omega
theorem s54 {X : Fz} {O : Obj} {τ : Sig} (e : Eqs τ 5 wlBG) (ht : τ.tab = wlTab) (h : Cm X O τ) (n0 : 0 ≤ τ.ival 0) (n1 : τ.ival 0 < 18446744073709551616) : τ.sval 191 = bs (pbL (zig (τ.ival 178))) := by
  have a := a54 e ht h n0 n1
  have i := i54 e ht h n0 n1
  rw [eqFs (e.at 186 _ rfl rfl), ht, tab_s, m54 e ht h n0 n1 (by omega)]
theorem qq54 {X : Fz} {O : Obj} {τ : Sig} (e : Eqs τ 5 wlBG) (ht : τ.tab = wlTab) (h : Cm X O τ) (n0 : 0 ≤ τ.ival 0) (n1 : τ.ival 0 < 18446744073709551616) (f : τ.bval 194 = false) : False := by
  have c : τ.sval 192 = τ.sval 2 ++ τ.sval 191 := eqCat (e.at 187 _ rfl rfl) rfl rfl
  have z : τ.ival 193 = ((τ.sval 192).size : Nat) := eqLen (e.at 188 _ rfl rfl)
  have d : τ.bval 194 = decide (τ.ival 193 ≤ 9223372036854775807) := eqB (e.at 189 _ rfl rfl) rfl
  have l := pbL_len (zig (τ.ival 178))
  have w := h.b
  rw [c, s54 e ht h n0 n1, app_size, bs_size] at z
  rw [f] at d
  have := of_decide_eq_false d.symm
  omega
theorem ne54 {X : Fz} {O : Obj} {τ : Sig} (e : Eqs τ 5 wlBG) (ht : τ.tab = wlTab) (h : Cm X O τ) (n0 : 0 ≤ τ.ival 0) (n1 : τ.ival 0 < 18446744073709551616) (f : τ.bval 195 = true) : False := by
  have c2 : τ.sval 185 = τ.sval 2 ++ τ.sval 184 := eqCat (e.at 180 _ rfl rfl) rfl rfl
  have c5 : τ.sval 192 = τ.sval 2 ++ τ.sval 191 := eqCat (e.at 187 _ rfl rfl) rfl rfl
  have s2 : τ.sval 184 = bs (pbL (zig (τ.ival 178))) := by rw [eqFs (e.at 179 _ rfl rfl), ht, tab_s, x54 e ht h n0 n1]
  have := eqStrNe (e.at 190 _ rfl rfl) (by rw [c2, c5, s2, s54 e ht h n0 n1])
  rw [f] at this
  cases this
theorem a63 {X : Fz} {O : Obj} {τ : Sig} (e : Eqs τ 5 wlBG) (ht : τ.tab = wlTab) (h : Cm X O τ) (n0 : 0 ≤ τ.ival 0) (n1 : τ.ival 0 < 18446744073709551616) : τ.ival 196 = τ.ival 0 / 9223372036854775808 := (eqI (x := (τ.ival 0 : Int).fdiv (2 ^ (min (63 : Int).toNat IntKind.u64.bits))) (e.at 191 _ rfl rfl) rfl).trans (by rw [show (2 : Int) ^ (min (63 : Int).toNat IntKind.u64.bits) = 9223372036854775808 by decide]; exact fdiv_pow (by decide))
theorem p63 {X : Fz} {O : Obj} {τ : Sig} (e : Eqs τ 5 wlBG) (ht : τ.tab = wlTab) (h : Cm X O τ) (n0 : 0 ≤ τ.ival 0) (n1 : τ.ival 0 < 18446744073709551616) (f : τ.bval 201 = false) : False := by
  have a : τ.ival 199 = IntKind.i64.wrap (τ.tab 141 [τ.ival 196]) := eqI (e.at 194 _ rfl rfl) rfl
  have c : τ.ival 200 = IntKind.i64.wrap (τ.ival 1 + τ.ival 199) := eqI (e.at 195 _ rfl rfl) rfl
  have d : τ.bval 201 = decide ((0 : Int) < τ.ival 200) := eqB (e.at 196 _ rfl rfl) rfl
  have l := pbL_len (τ.ival 196)
  have w := h.b
  rw [ht, tab_n, wr_i64] at a
  rw [wr_i64] at c
  rw [f] at d
  have := of_decide_eq_false d.symm
  omega
theorem q63 {X : Fz} {O : Obj} {τ : Sig} (e : Eqs τ 5 wlBG) (ht : τ.tab = wlTab) (h : Cm X O τ) (n0 : 0 ≤ τ.ival 0) (n1 : τ.ival 0 < 18446744073709551616) (f : τ.bval 203 = false) : False := by
  have a : τ.sval 197 = bs (pbL (τ.ival 196)) := by rw [eqFs (e.at 192 _ rfl rfl), ht, tab_s]
  have c : τ.sval 198 = τ.sval 2 ++ τ.sval 197 := eqCat (e.at 193 _ rfl rfl) rfl rfl
  have z : τ.ival 202 = ((τ.sval 198).size : Nat) := eqLen (e.at 197 _ rfl rfl)
  have d : τ.bval 203 = decide (τ.ival 202 ≤ 9223372036854775807) := eqB (e.at 198 _ rfl rfl) rfl
  have l := pbL_len (τ.ival 196)
  have w := h.b
  rw [c, a, app_size, bs_size] at z
  rw [f] at d
  have := of_decide_eq_false d.symm
  omega
theorem i63 {X : Fz} {O : Obj} {τ : Sig} (e : Eqs τ 5 wlBG) (ht : τ.tab = wlTab) (h : Cm X O τ) (n0 : 0 ≤ τ.ival 0) (n1 : τ.ival 0 < 18446744073709551616) : τ.ival 204 = (τ.ival 196 + 9223372036854775808) % 18446744073709551616 - 9223372036854775808 := (eqI (e.at 199 _ rfl rfl) rfl).trans (wr_i64 _)
theorem x63 {X : Fz} {O : Obj} {τ : Sig} (e : Eqs τ 5 wlBG) (ht : τ.tab = wlTab) (h : Cm X O τ) (n0 : 0 ≤ τ.ival 0) (n1 : τ.ival 0 < 18446744073709551616) : τ.ival 209 = zig (τ.ival 204) := by
  have a := i63 e ht h n0 n1
  have u : τ.ival 205 = τ.ival 204 % 18446744073709551616 := (eqI (e.at 200 _ rfl rfl) rfl).trans (wr_u64 _)
  have s : τ.ival 206 = τ.ival 205 * 2 % 18446744073709551616 := by
    have : τ.ival 206 = IntKind.u64.wrap (τ.ival 205 * 2 ^ (min (1 : Int).toNat IntKind.u64.bits)) := eqI (e.at 201 _ rfl rfl) rfl
    rw [show (2 : Int) ^ (min (1 : Int).toNat IntKind.u64.bits) = 2 by decide, wr_u64] at this
    exact this
  have hh : τ.ival 207 = τ.ival 204 / 9223372036854775808 := (eqI (x := (τ.ival 204 : Int).fdiv (2 ^ (min (63 : Int).toNat IntKind.i64.bits))) (e.at 202 _ rfl rfl) rfl).trans (by rw [show (2 : Int) ^ (min (63 : Int).toNat IntKind.i64.bits) = 9223372036854775808 by decide]; exact fdiv_pow (by decide))
  have q : τ.ival 208 = τ.ival 207 % 18446744073709551616 := (eqI (e.at 203 _ rfl rfl) rfl).trans (wr_u64 _)
  exact zig_xor (by omega) (by omega) u s hh q (eqI (e.at 204 _ rfl rfl) rfl)
theorem pp63 {X : Fz} {O : Obj} {τ : Sig} (e : Eqs τ 5 wlBG) (ht : τ.tab = wlTab) (h : Cm X O τ) (n0 : 0 ≤ τ.ival 0) (n1 : τ.ival 0 < 18446744073709551616) (f : τ.bval 214 = false) : False := by
  have a : τ.ival 212 = IntKind.i64.wrap (τ.tab 141 [τ.ival 209]) := eqI (e.at 207 _ rfl rfl) rfl
  have c : τ.ival 213 = IntKind.i64.wrap (τ.ival 1 + τ.ival 212) := eqI (e.at 208 _ rfl rfl) rfl
  have d : τ.bval 214 = decide ((0 : Int) < τ.ival 213) := eqB (e.at 209 _ rfl rfl) rfl
  have l := pbL_len (τ.ival 209)
  have w := h.b
  rw [ht, tab_n, wr_i64] at a
  rw [wr_i64] at c
  rw [f] at d
  have := of_decide_eq_false d.symm
  omega
theorem g63 {X : Fz} {O : Obj} {τ : Sig} (e : Eqs τ 5 wlBG) (ht : τ.tab = wlTab) (h : Cm X O τ) (n0 : 0 ≤ τ.ival 0) (n1 : τ.ival 0 < 18446744073709551616) : τ.bval 215 = decide (τ.ival 204 ≥ 0) := eqB (e.at 210 _ rfl rfl) rfl
theorem m63 {X : Fz} {O : Obj} {τ : Sig} (e : Eqs τ 5 wlBG) (ht : τ.tab = wlTab) (h : Cm X O τ) (n0 : 0 ≤ τ.ival 0) (n1 : τ.ival 0 < 18446744073709551616) (hc : 0 ≤ τ.ival 204) : τ.ival 216 = zig (τ.ival 204) := by
  have a := i63 e ht h n0 n1
  have u : τ.ival 205 = τ.ival 204 % 18446744073709551616 := (eqI (e.at 200 _ rfl rfl) rfl).trans (wr_u64 _)
  have s : τ.ival 216 = 2 * τ.ival 205 % 18446744073709551616 := (eqI (e.at 211 _ rfl rfl) rfl).trans (wr_u64 _)
  unfold zig
  rw [if_pos hc]
  omega
theorem gg63 {X : Fz} {O : Obj} {τ : Sig} (e : Eqs τ 5 wlBG) (ht : τ.tab = wlTab) (h : Cm X O τ) (n0 : 0 ≤ τ.ival 0) (n1 : τ.ival 0 < 18446744073709551616) (f : τ.bval 215 = false) : False := by
  have a := a63 e ht h n0 n1
  have i := i63 e ht h n0 n1
  have g := g63 e ht h n0 n1
  rw [f] at g
  have := of_decide_eq_false g.symm
  omega
theorem s63 {X : Fz} {O : Obj} {τ : Sig} (e : Eqs τ 5 wlBG) (ht : τ.tab = wlTab) (h : Cm X O τ) (n0 : 0 ≤ τ.ival 0) (n1 : τ.ival 0 < 18446744073709551616) : τ.sval 217 = bs (pbL (zig (τ.ival 204))) := by
  have a := a63 e ht h n0 n1
  have i := i63 e ht h n0 n1
  rw [eqFs (e.at 212 _ rfl rfl), ht, tab_s, m63 e ht h n0 n1 (by omega)]
theorem qq63 {X : Fz} {O : Obj} {τ : Sig} (e : Eqs τ 5 wlBG) (ht : τ.tab = wlTab) (h : Cm X O τ) (n0 : 0 ≤ τ.ival 0) (n1 : τ.ival 0 < 18446744073709551616) (f : τ.bval 220 = false) : False := by
  have c : τ.sval 218 = τ.sval 2 ++ τ.sval 217 := eqCat (e.at 213 _ rfl rfl) rfl rfl
  have z : τ.ival 219 = ((τ.sval 218).size : Nat) := eqLen (e.at 214 _ rfl rfl)
  have d : τ.bval 220 = decide (τ.ival 219 ≤ 9223372036854775807) := eqB (e.at 215 _ rfl rfl) rfl
  have l := pbL_len (zig (τ.ival 204))
  have w := h.b
  rw [c, s63 e ht h n0 n1, app_size, bs_size] at z
  rw [f] at d
  have := of_decide_eq_false d.symm
  omega
theorem ne63 {X : Fz} {O : Obj} {τ : Sig} (e : Eqs τ 5 wlBG) (ht : τ.tab = wlTab) (h : Cm X O τ) (n0 : 0 ≤ τ.ival 0) (n1 : τ.ival 0 < 18446744073709551616) (f : τ.bval 221 = true) : False := by
  have c2 : τ.sval 211 = τ.sval 2 ++ τ.sval 210 := eqCat (e.at 206 _ rfl rfl) rfl rfl
  have c5 : τ.sval 218 = τ.sval 2 ++ τ.sval 217 := eqCat (e.at 213 _ rfl rfl) rfl rfl
  have s2 : τ.sval 210 = bs (pbL (zig (τ.ival 204))) := by rw [eqFs (e.at 205 _ rfl rfl), ht, tab_s, x63 e ht h n0 n1]
  have := eqStrNe (e.at 216 _ rfl rfl) (by rw [c2, c5, s2, s63 e ht h n0 n1])
  rw [f] at this
  cases this
theorem vf {X : Fz} {O : Obj} {τ : Sig} (e : Eqs τ 4 wlCG) (ht : τ.tab = wlTab) (h : J2 X O τ) : τ.sval 20 = bs (pbL (τ.ival 19)) := by rw [eqFs (e.at 16 _ rfl rfl), ht, tab_s]
theorem vl {X : Fz} {O : Obj} {τ : Sig} (e : Eqs τ 4 wlCG) (ht : τ.tab = wlTab) (h : J2 X O τ) : τ.ival 18 = ((τ.sval 3).size : Nat) := eqLen (e.at 14 _ rfl rfl)
theorem v8 {X : Fz} {O : Obj} {τ : Sig} (e : Eqs τ 4 wlCG) (ht : τ.tab = wlTab) (h : J2 X O τ) : τ.sval 8 = bs [1] := eqRow (e.at 4 _ rfl rfl) rfl (by decide) (by decide)
theorem v9 {X : Fz} {O : Obj} {τ : Sig} (e : Eqs τ 4 wlCG) (ht : τ.tab = wlTab) (h : J2 X O τ) : τ.sval 9 = τ.sval 2 ++ τ.sval 8 := eqCat (e.at 5 _ rfl rfl) rfl rfl
theorem v14 {X : Fz} {O : Obj} {τ : Sig} (e : Eqs τ 4 wlCG) (ht : τ.tab = wlTab) (h : J2 X O τ) : τ.sval 14 = τ.sval 2 ++ bs [1] := eqCat (e.at 10 _ rfl rfl) rfl rfl
theorem v21 {X : Fz} {O : Obj} {τ : Sig} (e : Eqs τ 4 wlCG) (ht : τ.tab = wlTab) (h : J2 X O τ) : τ.sval 21 = τ.sval 2 ++ τ.sval 20 := eqCat (e.at 17 _ rfl rfl) rfl rfl
theorem v24 {X : Fz} {O : Obj} {τ : Sig} (e : Eqs τ 4 wlCG) (ht : τ.tab = wlTab) (h : J2 X O τ) : τ.sval 24 = τ.sval 21 ++ τ.sval 3 := eqCat (e.at 20 _ rfl rfl) rfl rfl
theorem v30 {X : Fz} {O : Obj} {τ : Sig} (e : Eqs τ 4 wlCG) (ht : τ.tab = wlTab) (h : J2 X O τ) : τ.sval 30 = τ.sval 20 ++ τ.sval 3 := eqCat (e.at 26 _ rfl rfl) rfl rfl
theorem v33 {X : Fz} {O : Obj} {τ : Sig} (e : Eqs τ 4 wlCG) (ht : τ.tab = wlTab) (h : J2 X O τ) : τ.sval 33 = τ.sval 2 ++ τ.sval 30 := eqCat (e.at 29 _ rfl rfl) rfl rfl
theorem v37 {X : Fz} {O : Obj} {τ : Sig} (e : Eqs τ 4 wlCG) (ht : τ.tab = wlTab) (h : J2 X O τ) : τ.sval 37 = bs [0] := eqRow (e.at 33 _ rfl rfl) rfl (by decide) (by decide)
theorem v38 {X : Fz} {O : Obj} {τ : Sig} (e : Eqs τ 4 wlCG) (ht : τ.tab = wlTab) (h : J2 X O τ) : τ.sval 38 = τ.sval 2 ++ τ.sval 37 := eqCat (e.at 34 _ rfl rfl) rfl rfl
theorem v39 {X : Fz} {O : Obj} {τ : Sig} (e : Eqs τ 4 wlCG) (ht : τ.tab = wlTab) (h : J2 X O τ) : τ.sval 39 = τ.sval 2 ++ bs [0] := eqCat (e.at 35 _ rfl rfl) rfl rfl
theorem z10 {X : Fz} {O : Obj} {τ : Sig} (e : Eqs τ 4 wlCG) (ht : τ.tab = wlTab) (h : J2 X O τ) : 1 ≤ τ.ival 10 ∧ τ.ival 10 ≤ 500 := by
  have a : τ.ival 10 = IntKind.i64.wrap (τ.ival 1 + 1) := eqI (e.at 6 _ rfl rfl) rfl
  have w := h.c.b
  have s := h.s
  rw [wr_i64] at a
  omega
theorem z15 {X : Fz} {O : Obj} {τ : Sig} (e : Eqs τ 4 wlCG) (ht : τ.tab = wlTab) (h : J2 X O τ) : (τ.ival 15 : Int) ≤ 1000 := by
  have z : τ.ival 15 = ((τ.sval 14).size : Nat) := eqLen (e.at 11 _ rfl rfl)
  have l := pbL_len (τ.ival 19)
  have w := h.c.b
  have s := h.s
  rw [v14 e ht h] at z
  simp only [app_size, bs_size, List.length_cons, List.length_nil] at z
  omega
theorem z22 {X : Fz} {O : Obj} {τ : Sig} (e : Eqs τ 4 wlCG) (ht : τ.tab = wlTab) (h : J2 X O τ) : 1 ≤ τ.ival 22 ∧ τ.ival 22 ≤ 8 := by
  have a : τ.ival 22 = IntKind.i64.wrap (τ.tab 141 [τ.ival 19]) := eqI (e.at 18 _ rfl rfl) rfl
  have l := pbL_len (τ.ival 19)
  rw [ht, tab_n, wr_i64] at a
  omega
theorem z23 {X : Fz} {O : Obj} {τ : Sig} (e : Eqs τ 4 wlCG) (ht : τ.tab = wlTab) (h : J2 X O τ) : 1 ≤ τ.ival 23 ∧ τ.ival 23 ≤ 500 := by
  have a : τ.ival 23 = IntKind.i64.wrap (τ.ival 1 + τ.ival 22) := eqI (e.at 19 _ rfl rfl) rfl
  have w := h.c.b
  have s := h.s
  have := z22 e ht h
  rw [wr_i64] at a
  omega
theorem z26 {X : Fz} {O : Obj} {τ : Sig} (e : Eqs τ 4 wlCG) (ht : τ.tab = wlTab) (h : J2 X O τ) : 1 ≤ τ.ival 26 ∧ τ.ival 26 ≤ 1000 := by
  have a : τ.ival 26 = IntKind.i64.wrap (τ.ival 23 + τ.ival 18) := eqI (e.at 22 _ rfl rfl) rfl
  have w := h.c.b
  have s := h.s
  have := z23 e ht h
  have := vl e ht h
  rw [wr_i64] at a
  omega
theorem z31 {X : Fz} {O : Obj} {τ : Sig} (e : Eqs τ 4 wlCG) (ht : τ.tab = wlTab) (h : J2 X O τ) : (τ.ival 31 : Int) ≤ 1000 := by
  have z : τ.ival 31 = ((τ.sval 30).size : Nat) := eqLen (e.at 27 _ rfl rfl)
  have l := pbL_len (τ.ival 19)
  have w := h.c.b
  have s := h.s
  rw [v30 e ht h, vf e ht h] at z
  simp only [app_size, bs_size, List.length_cons, List.length_nil] at z
  omega
theorem z34 {X : Fz} {O : Obj} {τ : Sig} (e : Eqs τ 4 wlCG) (ht : τ.tab = wlTab) (h : J2 X O τ) : (τ.ival 34 : Int) ≤ 1000 := by
  have z : τ.ival 34 = ((τ.sval 33).size : Nat) := eqLen (e.at 30 _ rfl rfl)
  have l := pbL_len (τ.ival 19)
  have w := h.c.b
  have s := h.s
  rw [v33 e ht h, v30 e ht h, vf e ht h] at z
  simp only [app_size, bs_size, List.length_cons, List.length_nil] at z
  omega
theorem z40 {X : Fz} {O : Obj} {τ : Sig} (e : Eqs τ 4 wlCG) (ht : τ.tab = wlTab) (h : J2 X O τ) : (τ.ival 40 : Int) ≤ 1000 := by
  have z : τ.ival 40 = ((τ.sval 39).size : Nat) := eqLen (e.at 36 _ rfl rfl)
  have l := pbL_len (τ.ival 19)
  have w := h.c.b
  have s := h.s
  rw [v39 e ht h] at z
  simp only [app_size, bs_size, List.length_cons, List.length_nil] at z
  omega

abbrev WZ (W : World) : Exit → Act → World → Prop := bodyPost Tryd.prog Tryd.f4 (fun e W' => e = .returned (.bool true) ∧ Below W.heap.size W W')
theorem endC {W : World} {σ : Sig} : EndZ wlTab 84 W (WZ W) .ret wlSE σ := by
  intro en a w hxe hA
  exact at_end (r := 6) rfl hA (by simp [wlSE]) (.inl hxe)
set_option maxHeartbeats 0 in
theorem stC {W : World} {v : Value} {X : Fz} {O : Obj} (hO : isErr O) (hX : RowV W [.i .u8] v X) : Stage Tryd.prog wlTab 84 W (WZ W) ((flatC (bodyOf Tryd.f4)).drop 5) wlSe 4 wlKA (J2 X O) := by
  refine Stage.lastI mixed (wlC_seg (EE X O)) ⟨rfl, rfl⟩ (fun σ τ ag h => ⟨h.c.agree (ag.less (by decide)), by rw [← (ag.val 3 (by decide)).2.2]; exact h.s⟩) (fun τ h => (h.c.inv hX).rows) (fun τ h => ⟨EE_inv hO h.c.ext, h.c.inv hX⟩) (fun τ e ht hi hj => ?_)
  refine segsPw_segs ?_
  exact ⟨fun f0 => ⟨fun f1 => ⟨fun f2 => ⟨fun f3 => ⟨fun f4 => ⟨fun f5 => ⟨fun f6 => ⟨fun f7 => ⟨fun f8 => ⟨fun f9 => ⟨fun f10 => ⟨fun f11 => ⟨fun f12 => ⟨fun f13 => ⟨fun f14 => (by exact endC),
 fun f14 => (by have := eqStrEq (e.at 32 _ rfl rfl) (by simp only [v24 e ht hj, v21 e ht hj, vf e ht hj, v33 e ht hj, v30 e ht hj, ByteArray.append_assoc]); rw [f14] at this; cases this)⟩,
 fun f13 => (by have d : τ.bval 35 = decide (τ.ival 34 ≤ 9223372036854775807) := eqB (e.at 31 _ rfl rfl) rfl; rw [f13] at d; have := of_decide_eq_false d.symm; have := hj.c.b; have := hj.s; have := z34 e ht hj; omega)⟩,
 fun f12 => (by have d : τ.bval 32 = decide (τ.ival 31 ≤ 9223372036854775807) := eqB (e.at 28 _ rfl rfl) rfl; rw [f12] at d; have := of_decide_eq_false d.symm; have := hj.c.b; have := hj.s; have := z31 e ht hj; omega)⟩,
 fun f11 => (by have d : τ.bval 29 = decide ((0 : Int) < τ.ival 26) := eqB (e.at 25 _ rfl rfl) rfl; rw [f11] at d; have := of_decide_eq_false d.symm; have := hj.c.b; have := hj.s; have := z26 e ht hj; omega)⟩,
 fun f10 => (by have d : τ.bval 28 = decide (τ.ival 26 ≤ 140737488355328) := eqB (e.at 24 _ rfl rfl) rfl; rw [f10] at d; have := of_decide_eq_false d.symm; have := hj.c.b; have := hj.s; have := z26 e ht hj; omega)⟩,
 fun f9 => (by have d : τ.bval 27 = decide ((0 : Int) ≤ τ.ival 26) := eqB (e.at 23 _ rfl rfl) rfl; rw [f9] at d; have := of_decide_eq_false d.symm; have := hj.c.b; have := hj.s; have := z26 e ht hj; omega)⟩,
 fun f8 => (by have d : τ.bval 25 = decide (τ.ival 18 ≤ 9223372036854775807) := eqB (e.at 21 _ rfl rfl) rfl; rw [f8] at d; have := of_decide_eq_false d.symm; have := hj.c.b; have := hj.s; have := vl e ht hj; omega)⟩,
 fun f7 => (by have := eqStrEq (e.at 13 _ rfl rfl) (by simp only [v9 e ht hj, v8 e ht hj, v14 e ht hj, ByteArray.append_assoc]); rw [f7] at this; cases this)⟩,
 fun f6 => (by have d : τ.bval 16 = decide (τ.ival 15 ≤ 9223372036854775807) := eqB (e.at 12 _ rfl rfl) rfl; rw [f6] at d; have := of_decide_eq_false d.symm; have := hj.c.b; have := hj.s; have := z15 e ht hj; omega)⟩,
 fun f5 => (by have d : τ.bval 13 = decide ((0 : Int) < τ.ival 10) := eqB (e.at 9 _ rfl rfl) rfl; rw [f5] at d; have := of_decide_eq_false d.symm; have := hj.c.b; have := hj.s; have := z10 e ht hj; omega)⟩,
 fun f4 => (by have d : τ.bval 12 = decide (τ.ival 10 ≤ 140737488355328) := eqB (e.at 8 _ rfl rfl) rfl; rw [f4] at d; have := of_decide_eq_false d.symm; have := hj.c.b; have := hj.s; have := z10 e ht hj; omega)⟩,
 fun f3 => (by have d : τ.bval 11 = decide ((0 : Int) ≤ τ.ival 10) := eqB (e.at 7 _ rfl rfl) rfl; rw [f3] at d; have := of_decide_eq_false d.symm; have := hj.c.b; have := hj.s; have := z10 e ht hj; omega)⟩,
 fun f2 => ⟨fun f3 => ⟨fun f4 => ⟨fun f5 => ⟨fun f6 => ⟨fun f7 => ⟨fun f8 => ⟨fun f9 => ⟨fun f10 => ⟨fun f11 => ⟨fun f12 => ⟨fun f13 => ⟨fun f14 => (by exact endC),
 fun f14 => (by have := eqStrEq (e.at 32 _ rfl rfl) (by simp only [v24 e ht hj, v21 e ht hj, vf e ht hj, v33 e ht hj, v30 e ht hj, ByteArray.append_assoc]); rw [f14] at this; cases this)⟩,
 fun f13 => (by have d : τ.bval 35 = decide (τ.ival 34 ≤ 9223372036854775807) := eqB (e.at 31 _ rfl rfl) rfl; rw [f13] at d; have := of_decide_eq_false d.symm; have := hj.c.b; have := hj.s; have := z34 e ht hj; omega)⟩,
 fun f12 => (by have d : τ.bval 32 = decide (τ.ival 31 ≤ 9223372036854775807) := eqB (e.at 28 _ rfl rfl) rfl; rw [f12] at d; have := of_decide_eq_false d.symm; have := hj.c.b; have := hj.s; have := z31 e ht hj; omega)⟩,
 fun f11 => (by have d : τ.bval 29 = decide ((0 : Int) < τ.ival 26) := eqB (e.at 25 _ rfl rfl) rfl; rw [f11] at d; have := of_decide_eq_false d.symm; have := hj.c.b; have := hj.s; have := z26 e ht hj; omega)⟩,
 fun f10 => (by have d : τ.bval 28 = decide (τ.ival 26 ≤ 140737488355328) := eqB (e.at 24 _ rfl rfl) rfl; rw [f10] at d; have := of_decide_eq_false d.symm; have := hj.c.b; have := hj.s; have := z26 e ht hj; omega)⟩,
 fun f9 => (by have d : τ.bval 27 = decide ((0 : Int) ≤ τ.ival 26) := eqB (e.at 23 _ rfl rfl) rfl; rw [f9] at d; have := of_decide_eq_false d.symm; have := hj.c.b; have := hj.s; have := z26 e ht hj; omega)⟩,
 fun f8 => (by have d : τ.bval 25 = decide (τ.ival 18 ≤ 9223372036854775807) := eqB (e.at 21 _ rfl rfl) rfl; rw [f8] at d; have := of_decide_eq_false d.symm; have := hj.c.b; have := hj.s; have := vl e ht hj; omega)⟩,
 fun f7 => (by have := eqStrEq (e.at 38 _ rfl rfl) (by simp only [v38 e ht hj, v37 e ht hj, v39 e ht hj, ByteArray.append_assoc]); rw [f7] at this; cases this)⟩,
 fun f6 => (by have d : τ.bval 41 = decide (τ.ival 40 ≤ 9223372036854775807) := eqB (e.at 37 _ rfl rfl) rfl; rw [f6] at d; have := of_decide_eq_false d.symm; have := hj.c.b; have := hj.s; have := z40 e ht hj; omega)⟩,
 fun f5 => (by have d : τ.bval 13 = decide ((0 : Int) < τ.ival 10) := eqB (e.at 9 _ rfl rfl) rfl; rw [f5] at d; have := of_decide_eq_false d.symm; have := hj.c.b; have := hj.s; have := z10 e ht hj; omega)⟩,
 fun f4 => (by have d : τ.bval 12 = decide (τ.ival 10 ≤ 140737488355328) := eqB (e.at 8 _ rfl rfl) rfl; rw [f4] at d; have := of_decide_eq_false d.symm; have := hj.c.b; have := hj.s; have := z10 e ht hj; omega)⟩,
 fun f3 => (by have d : τ.bval 11 = decide ((0 : Int) ≤ τ.ival 10) := eqB (e.at 7 _ rfl rfl) rfl; rw [f3] at d; have := of_decide_eq_false d.symm; have := hj.c.b; have := hj.s; have := z10 e ht hj; omega)⟩⟩,
 fun f1 => (by have d : τ.bval 5 = decide (τ.ival 1 ≤ 1000000) := eqB (e.at 1 _ rfl rfl) rfl; rw [f1] at d; have := of_decide_eq_false d.symm; have := hj.c.b; have := hj.s; omega)⟩,
 fun f0 => (by have d : τ.bval 4 = decide ((0 : Int) ≤ τ.ival 1) := eqB (e.at 0 _ rfl rfl) rfl; rw [f0] at d; have := of_decide_eq_false d.symm; have := hj.c.b; have := hj.s; omega)⟩
abbrev LB (W : World) (X : Fz) (O : Obj) (k : Nat) : Exit → Act → World → Prop :=
  LoopZ Tryd.prog (idOf (bodyOf Tryd.f4)) ((flatC (bodyOf Tryd.f4)).drop 5) (WZ W) (InvS wlTab 84 W wlS1 5 wlK1 (J1 X O) (fun σ => (100 - σ.ival 3).toNat)) k
theorem outB {W : World} {X : Fz} {O : Obj} {k : Nat} {τ : Sig} (hC : Stage Tryd.prog wlTab 84 W (WZ W) ((flatC (bodyOf Tryd.f4)).drop 5) wlSe 4 wlKA (J2 X O)) (e : Eqs τ 5 wlBG) (ht : τ.tab = wlTab) (hi : InsOk τ 5 wlK1) (hj : J1 X O τ ∧ (100 - τ.ival 3).toNat = k) :
    EndZ wlTab 84 W (LB W X O k) (.exit 0) wlSe (asgS τ [(0, .symi .u64 0), (3, .syms 4), (2, .syms 2), (1, .symi .i64 1)]) := by
  refine EndZ.out (by simp) (EndZ.blk hC (.inr rfl) ?_ ⟨⟨hj.1.c.ext, hj.1.c.len, hj.1.c.con⟩, hj.1.s⟩ ht)
  intro i q hlt hq
  have : i = 0 ∨ i = 1 ∨ i = 2 ∨ i = 3 := by omega
  rcases this with rfl | rfl | rfl | rfl
  · exact hi 0 q (by decide) hq
  · exact hi 1 q (by decide) hq
  · cases hq
  · cases hq
theorem nextB {W : World} {X : Fz} {O : Obj} {k : Nat} {τ : Sig} {k0 : Int} (e : Eqs τ 5 wlBG) (ht : τ.tab = wlTab) (hi : InsOk τ 5 wlK1) (hj : J1 X O τ ∧ (100 - τ.ival 3).toNat = k) (f : τ.ival 3 = k0) (hk : 0 ≤ k0 ∧ k0 ≤ 63 ∧ k0 % 9 = 0) :
    EndZ wlTab 84 W (LB W X O k) .normal wlS1 (asgS τ [(0, .symi .u64 0), (4, .syms 4), (2, .syms 2), (3, .int .i64 (k0 + 9)), (1, .symi .i64 1)]) := by
  refine EndZ.loop ?_ ⟨⟨hj.1.c.ext, hj.1.c.len, hj.1.c.con⟩, ⟨(k0 / 9 + 1).toNat, by omega, (show k0 + 9 = _ by omega)⟩, hj.1.s⟩ ht ?_
  · intro i q hlt hq
    have : i = 0 ∨ i = 1 ∨ i = 2 ∨ i = 3 ∨ i = 4 := by omega
    rcases this with rfl | rfl | rfl | rfl | rfl
    · exact hi 0 q (by decide) hq
    · exact hi 1 q (by decide) hq
    · cases hq
    · have hq : IntKind.i64 = q := Option.some.inj hq
      subst hq
      show IntKind.i64.wrap (k0 + 9) = k0 + 9
      rw [wr_i64]; omega
    · cases hq
  · show (100 - (k0 + 9)).toNat < k
    omega
set_option maxHeartbeats 0 in
theorem stB {W : World} {v : Value} {X : Fz} {O : Obj} (hX : RowV W [.i .u8] v X) (hC : Stage Tryd.prog wlTab 84 W (WZ W) ((flatC (bodyOf Tryd.f4)).drop 5) wlSe 4 wlKA (J2 X O)) (k : Nat) :
    Stage Tryd.prog wlTab 84 W (LB W X O k) (flatC (loopOf (bodyOf Tryd.f4))) wlS1 5 wlK1 (fun σ => J1 X O σ ∧ (100 - σ.ival 3).toNat = k) := by
  refine Stage.lastI mixed (wlB_seg (EE X O)) ⟨rfl, rfl⟩ (fun σ τ ag h => ⟨⟨h.1.c.agree (ag.less (by decide)), by rw [← (ag.val 3 (by decide)).1]; exact h.1.k, by rw [← (ag.val 4 (by decide)).2.2]; exact h.1.s⟩, by rw [← (ag.val 3 (by decide)).1]; exact h.2⟩) (fun τ h => (h.1.c.inv hX).rows) (fun τ h => h.1.c.inv hX) (fun τ e ht hi hj => ?_)
  have i0 := hi 0 .u64 (by decide) rfl
  rw [wr_u64] at i0
  have n0 : 0 ≤ τ.ival 0 := by omega
  have n1 : τ.ival 0 < 18446744073709551616 := by omega
  refine segsPw_segs ?_
  exact ⟨fun f0 => ⟨fun f1 => ⟨fun f2 => ⟨fun f3 => ⟨fun f4 => ⟨fun f5 => ⟨fun f6 => ⟨fun f7 => (by exact ne0 e ht hj.1.c n0 n1 f7),
 fun f7 => (by exact nextB (k0 := 0) e ht hi hj f2 (by decide))⟩,
 fun f6 => (by exact qq0 e ht hj.1.c n0 n1 f6)⟩,
 fun f5 => (by exact pp0 e ht hj.1.c n0 n1 f5)⟩,
 fun f4 => (by exact q0 e ht hj.1.c n0 n1 f4)⟩,
 fun f3 => (by exact p0 e ht hj.1.c n0 n1 f3)⟩,
 fun f2 => ⟨fun f3 => ⟨fun f4 => ⟨fun f5 => ⟨fun f6 => ⟨fun f7 => ⟨fun f8 => ⟨fun f9 => (by exact ne9 e ht hj.1.c n0 n1 f9),
 fun f9 => (by exact nextB (k0 := 9) e ht hi hj f3 (by decide))⟩,
 fun f8 => (by exact qq9 e ht hj.1.c n0 n1 f8)⟩,
 fun f7 => (by exact gg9 e ht hj.1.c n0 n1 f7)⟩,
 fun f6 => (by exact pp9 e ht hj.1.c n0 n1 f6)⟩,
 fun f5 => (by exact q9 e ht hj.1.c n0 n1 f5)⟩,
 fun f4 => (by exact p9 e ht hj.1.c n0 n1 f4)⟩,
 fun f3 => ⟨fun f4 => ⟨fun f5 => ⟨fun f6 => ⟨fun f7 => ⟨fun f8 => ⟨fun f9 => ⟨fun f10 => (by exact ne18 e ht hj.1.c n0 n1 f10),
 fun f10 => (by exact nextB (k0 := 18) e ht hi hj f4 (by decide))⟩,
 fun f9 => (by exact qq18 e ht hj.1.c n0 n1 f9)⟩,
 fun f8 => (by exact gg18 e ht hj.1.c n0 n1 f8)⟩,
 fun f7 => (by exact pp18 e ht hj.1.c n0 n1 f7)⟩,
 fun f6 => (by exact q18 e ht hj.1.c n0 n1 f6)⟩,
 fun f5 => (by exact p18 e ht hj.1.c n0 n1 f5)⟩,
 fun f4 => ⟨fun f5 => ⟨fun f6 => ⟨fun f7 => ⟨fun f8 => ⟨fun f9 => ⟨fun f10 => ⟨fun f11 => (by exact ne27 e ht hj.1.c n0 n1 f11),
 fun f11 => (by exact nextB (k0 := 27) e ht hi hj f5 (by decide))⟩,
 fun f10 => (by exact qq27 e ht hj.1.c n0 n1 f10)⟩,
 fun f9 => (by exact gg27 e ht hj.1.c n0 n1 f9)⟩,
 fun f8 => (by exact pp27 e ht hj.1.c n0 n1 f8)⟩,
 fun f7 => (by exact q27 e ht hj.1.c n0 n1 f7)⟩,
 fun f6 => (by exact p27 e ht hj.1.c n0 n1 f6)⟩,
 fun f5 => ⟨fun f6 => ⟨fun f7 => ⟨fun f8 => ⟨fun f9 => ⟨fun f10 => ⟨fun f11 => ⟨fun f12 => (by exact ne36 e ht hj.1.c n0 n1 f12),
 fun f12 => (by exact nextB (k0 := 36) e ht hi hj f6 (by decide))⟩,
 fun f11 => (by exact qq36 e ht hj.1.c n0 n1 f11)⟩,
 fun f10 => (by exact gg36 e ht hj.1.c n0 n1 f10)⟩,
 fun f9 => (by exact pp36 e ht hj.1.c n0 n1 f9)⟩,
 fun f8 => (by exact q36 e ht hj.1.c n0 n1 f8)⟩,
 fun f7 => (by exact p36 e ht hj.1.c n0 n1 f7)⟩,
 fun f6 => ⟨fun f7 => ⟨fun f8 => ⟨fun f9 => ⟨fun f10 => ⟨fun f11 => ⟨fun f12 => ⟨fun f13 => (by exact ne45 e ht hj.1.c n0 n1 f13),
 fun f13 => (by exact nextB (k0 := 45) e ht hi hj f7 (by decide))⟩,
 fun f12 => (by exact qq45 e ht hj.1.c n0 n1 f12)⟩,
 fun f11 => (by exact gg45 e ht hj.1.c n0 n1 f11)⟩,
 fun f10 => (by exact pp45 e ht hj.1.c n0 n1 f10)⟩,
 fun f9 => (by exact q45 e ht hj.1.c n0 n1 f9)⟩,
 fun f8 => (by exact p45 e ht hj.1.c n0 n1 f8)⟩,
 fun f7 => ⟨fun f8 => ⟨fun f9 => ⟨fun f10 => ⟨fun f11 => ⟨fun f12 => ⟨fun f13 => ⟨fun f14 => (by exact ne54 e ht hj.1.c n0 n1 f14),
 fun f14 => (by exact nextB (k0 := 54) e ht hi hj f8 (by decide))⟩,
 fun f13 => (by exact qq54 e ht hj.1.c n0 n1 f13)⟩,
 fun f12 => (by exact gg54 e ht hj.1.c n0 n1 f12)⟩,
 fun f11 => (by exact pp54 e ht hj.1.c n0 n1 f11)⟩,
 fun f10 => (by exact q54 e ht hj.1.c n0 n1 f10)⟩,
 fun f9 => (by exact p54 e ht hj.1.c n0 n1 f9)⟩,
 fun f8 => ⟨fun f9 => ⟨fun f10 => ⟨fun f11 => ⟨fun f12 => ⟨fun f13 => ⟨fun f14 => ⟨fun f15 => (by exact ne63 e ht hj.1.c n0 n1 f15),
 fun f15 => (by exact nextB (k0 := 63) e ht hi hj f9 (by decide))⟩,
 fun f14 => (by exact qq63 e ht hj.1.c n0 n1 f14)⟩,
 fun f13 => (by exact gg63 e ht hj.1.c n0 n1 f13)⟩,
 fun f12 => (by exact pp63 e ht hj.1.c n0 n1 f12)⟩,
 fun f11 => (by exact q63 e ht hj.1.c n0 n1 f11)⟩,
 fun f10 => (by exact p63 e ht hj.1.c n0 n1 f10)⟩,
 fun f9 => ⟨fun f10 => (by exact outB hC e ht hi hj),
 fun f10 => (by obtain ⟨j, hj8, hjk⟩ := hj.1.k; omega)⟩⟩⟩⟩⟩⟩⟩⟩⟩,
 fun f1 => (by have d : τ.bval 6 = decide (τ.ival 1 ≤ 1000000) := eqB (e.at 1 _ rfl rfl) rfl; rw [f1] at d; have := of_decide_eq_false d.symm; have := hj.1.c.b; omega)⟩,
 fun f0 => (by have d : τ.bval 5 = decide ((0 : Int) ≤ τ.ival 1) := eqB (e.at 0 _ rfl rfl) rfl; rw [f0] at d; have := of_decide_eq_false d.symm; have := hj.1.c.b; omega)⟩

theorem walk (W : World) (hL : laidMetH Tryd.prog laid W) (v0 : Value) (X : Fz) (hX : RowV W [.i .u8] v0 X) (n1 : Int) (i1 : InR [.i .u64] [n1]) (s2 : ByteArray) (z2 : s2.size ≤ 9223372036854775807) :
    Calls Tryd.prog 4 #[v0, encC (.i .u64) n1, .string s2] W fun e W' => e = .returned (.bool true) ∧ Below W.heap.size W W' := by
  obtain ⟨O, hO, hY⟩ := err_of_cell (handle_of_laid hL)
  let σ0 : Sig := ⟨fun i => if i = 1 then (X.len : Int) else n1, fun _ => false, fun i => if i = 2 then conS X else s2, wlTab, EE X O⟩
  have hn : IntKind.u64.wrap n1 = n1 := i1.1
  have hl := hX.len
  have hC := stC (W := W) hO hX
  refine calls_of_stageG (σ0 := σ0) (tab := wlTab) (n := 84) (q := 4) (ins := wlKA) (args := [.row 1, .symi .u64 0, .syms 3]) (J := fun σ => σ.ext = EE X O ∧ σ.ival 1 = X.len ∧ σ.sval 2 = conS X ∧ (σ.sval 3).size ≤ 9223372036854775807) Tryd.func4 rfl rfl rfl (.cons _ _ _ _ (hX.rel _ 1 rfl) (.cons _ _ _ _ ?_ (.cons _ _ _ _ (.syms 3) .nil))) (by simp) ?_ ?_ ⟨rfl, rfl, rfl, z2⟩ ?_
  · have : encC (.i .u64) n1 = .int .u64 n1 := by simp [encC, hn]
    rw [this]
    exact .symi .u64 0
  · intro i Y h hlen
    have h : EE X O i = some Y := h
    unfold EE at h
    split at h
    · cases h; exact cut_fz hX.ok hlen
    · split at h
      · cases h; exact hX.ok hlen
      · split at h
        · cases h; exact hY
        · cases h
  · intro i k hi hk
    have : i = 0 ∨ i = 1 ∨ i = 2 ∨ i = 3 := by omega
    rcases this with rfl | rfl | rfl | rfl
    · have hk : IntKind.u64 = k := Option.some.inj hk
      subst hk
      exact hn
    · have hk : IntKind.i64 = k := Option.some.inj hk
      subst hk
      show IntKind.i64.wrap (X.len : Int) = X.len
      rw [wr_i64]; omega
    · cases hk
    · cases hk
  rw [show flatC (bodyOf Tryd.f4) = (flatC (bodyOf Tryd.f4)).take 4 ++ (.block (idOf (bodyOf Tryd.f4)) (.loop (loopOf (bodyOf Tryd.f4))) :: (flatC (bodyOf Tryd.f4)).drop 5) from rfl]
  refine Stage.segC (q2 := 5) (ins2 := wlK1) (S2 := wlS1) (J2 := J1 X O) (X := wlAX) mixed wlA_lt wlA_ok (fun F => no_hooks rfl F) rfl (by kernel_rfl) wlA_reck rfl (by kernel_rfl) ⟨rfl, rfl⟩ (fun σ τ ag h => ⟨by rw [← ag.ext]; exact h.1, by rw [← (ag.val 1 (by decide)).1]; exact h.2.1, by rw [← (ag.val 2 (by decide)).2.2]; exact h.2.2.1, by rw [← (ag.val 3 (by decide)).2.2]; exact h.2.2.2⟩) (fun τ e ht hj => ?_) (fun τ hj => ?_)
    (Stage.loopS (μ := fun σ => (100 - σ.ival 3).toNat) (fun k => stB hX hC k)) ?_
  · have h4 : τ.ival 4 = (if 50 < τ.ival 1 then 50 else τ.ival 1) := eqI (e.at 0 _ rfl rfl) rfl
    have h4 : τ.ival 4 = ((cutY X).len : Int) := by
      rw [h4, hj.2.1]
      show _ = ((min X.len 50 : Nat) : Int)
      split <;> omega
    refine ⟨fun i r Y hr hY => ?_, fun p hp Y hY => ?_⟩
    · rw [hj.1] at hY
      have : i = 0 ∨ i = 1 := by
        have := (List.getElem?_eq_some_iff.1 hr).1
        simp [wlAX] at this
        omega
      rcases this with rfl | rfl
      · have hY : some (cutY X) = some Y := hY
        cases hY
        have hr : some (⟨.symi .i64 4, []⟩ : RowS) = some r := hr
        cases hr
        exact ⟨by show AVal.int .i64 _ = _; rw [h4], fun p hp => by cases hp⟩
      · have hY : some X = some Y := hY
        cases hY
        have hr : some (⟨.symi .i64 1, []⟩ : RowS) = some r := hr
        cases hr
        exact ⟨by show AVal.int .i64 _ = _; rw [hj.2.1], fun p hp => by cases hp⟩
    · obtain rfl := List.mem_singleton.1 hp
      rw [hj.1] at hY
      have hY : some X = some Y := hY
      cases hY
      exact ⟨cutY X, by rw [hj.1]; rfl, rfl, rfl, Nat.min_le_left _ _, by show AVal.int .i64 _ = _; rw [h4]⟩
  · refine ⟨fun Y hY => ?_, trivial⟩
    have hY : τ.ext 0 = some Y := hY
    rw [hj.1] at hY
    have hY : some (cutY X) = some Y := hY
    cases hY
    exact conS_ok hX hj.2.2.1
  · intro τ e ht hi hj
    have h4 : τ.ival 4 = (if 50 < τ.ival 1 then 50 else τ.ival 1) := eqI (e.at 0 _ rfl rfl) rfl
    have h4 : τ.ival 4 = ((cutY X).len : Int) := by
      rw [h4, hj.2.1]
      show _ = ((min X.len 50 : Nat) : Int)
      split <;> omega
    have h5 : τ.ival 5 = ((τ.sval 3).size : Nat) := eqLen (e.at 1 _ rfl rfl)
    have h6 : τ.ival 6 = (if 200 < τ.ival 5 then 200 else τ.ival 5) := eqI (e.at 2 _ rfl rfl) rfl
    have h7 : τ.bval 7 = decide ((0 : Int) ≤ τ.ival 6) := eqB (e.at 3 _ rfl rfl) rfl
    have h8 : τ.bval 8 = decide (τ.ival 6 ≤ τ.ival 5) := eqB (e.at 4 _ rfl rfl) rfl
    have h9 : τ.sval 9 = (τ.sval 3).extract (0 : Int).toNat (τ.ival 6).toNat := eqSub (e.at 5 _ rfl rfl) (show den τ (.int .i64 0) = .int .i64 0 from rfl) (show den τ (.symi .i64 6) = .int .i64 (τ.ival 6) from rfl)
    have b6 : 0 ≤ τ.ival 6 ∧ τ.ival 6 ≤ 200 ∧ τ.ival 6 ≤ τ.ival 5 := by rw [h6]; split <;> omega
    have hsz : (τ.sval 9).size ≤ 200 := by rw [h9, ByteArray.size_extract]; omega
    have hle : (cutY X).len ≤ 50 := Nat.min_le_right _ _
    refine segsPw_segs ⟨fun f0 => ⟨fun f1 => .inl ⟨rfl, rfl, ?_, ⟨⟨hj.1, h4, hj.2.2.1⟩, ⟨0, by omega, rfl⟩, hsz⟩, ht⟩, fun f1 => ?_⟩, fun f0 => ?_⟩
    · intro i k hlt hk
      have : i = 0 ∨ i = 1 ∨ i = 2 ∨ i = 3 ∨ i = 4 := by omega
      rcases this with rfl | rfl | rfl | rfl | rfl
      · exact hi 0 k (by decide) hk
      · have hk : IntKind.i64 = k := Option.some.inj hk
        subst hk
        show IntKind.i64.wrap (τ.ival 4) = τ.ival 4
        rw [wr_i64]; omega
      · cases hk
      · have hk : IntKind.i64 = k := Option.some.inj hk
        subst hk
        rfl
      · cases hk
    · rw [f1] at h8
      have := of_decide_eq_false h8.symm
      omega
    · rw [f0] at h7
      have := of_decide_eq_false h7.symm
      omega

section
variable {H : Type} {enc : TypeId × Value → H} {P : Program}
theorem post_of_below {f : Func} {s : ChangeSpec} {apart fresh handsOn again : Bool} {W W' : World} {args : Array Value} {v : Value} {ds gs : List (DataW H)} {before pa pv : List MemPlace}
    (hW : DataW.Whole enc P f.params.toList s.vars apart W args.toList ds gs before)
    (hres : ∀ (b : Nat) (sp : Nat → Bool) (hd : Bool), DataW.TrodAll enc P W' b sp hd f.resultTypes.toList (v.resultList f.resultTypes.size) (s.fn H (ds ++ gs)).results [])
    (hargs : ∀ sp : Nat → Bool, (∀ p ∈ before, sp p.block = true) → DataW.TrodAll enc P W' 0 sp true f.params.toList args.toList (s.fn H (ds ++ gs)).args pa)
    (hvars : ∀ sp : Nat → Bool, (∀ p ∈ before, sp p.block = true) → DataW.TrodVars enc P W' sp s.vars (s.fn H (ds ++ gs)).vars pv)
    (hps : before = pa ++ pv) (hb : Below W.heap.size W W')
    (hok : ∀ (j : Nat) (t : TypeId) (r : Value), f.resultTypes[j]? = some t → (v.resultList f.resultTypes.size)[j]? = some r → Value.okWide P W' .any 0 t r) :
    s.post enc P f apart fresh handsOn again W args v W' := by
  have hlt : ∀ p ∈ before, p.block < W.heap.size := fun p hp => hW.lt p hp
  have hold : ∀ p ∈ before, (fun b => decide (b < W.heap.size)) p.block = true := fun p hp => by simpa using hlt p hp
  refine ⟨ds, gs, before, [], pa, pv, hW, hres _ _ _, hargs _ hold, hvars _ hold, World.keptBut_mono (fun p hp => ⟨hp, ?_⟩) (hb.frame (· ∈ before)), fun _ => ?_⟩
  · rw [hps, List.mem_append] at hp
    exact Or.inr hp
  · obtain ⟨_, _, _, _, _, hz, hn⟩ := hW
    refine ⟨hok, _, _, ([] ++ pa) ++ pv, ⟨[] ++ pa, pv, trodAll_append (hargs _ (fun _ _ => rfl)) (hres _ _ _), hvars _ (fun _ _ => rfl), rfl, ?_, ?_⟩, ?_⟩
    · intro b off hp
      have hin : MemPlace.cell b off ∈ before := by rw [hps]; simpa using hp
      rw [hb.frozen (hlt _ hin)]
      exact hz b off hin
    · intro ha
      have := hn ha
      rw [hps] at this
      simpa using this
    · intro p hp _
      rw [hps]
      simpa using hp
end


theorem size5 : Nat.beq (Tryd.prog.cellsOf 5) ([.i .u8] : List Cl).length = true := by kernel_rfl
theorem flat5 : flat Tryd.prog 4 5 = some [.i .u8] := by kernel_rfl
theorem agg22 : Ev.isAgg Tryd.prog 22 = false := by kernel_rfl
theorem flat22 : flat Tryd.prog 4 22 = some [.i .u64] := by kernel_rfl

set_option maxRecDepth 100000 in
theorem lifted (os : Os) (started : os.Started) (H : Type) (enc : TypeId × Value → H) :
    ReturnsInHanded {} Tryd.checked os 4 .any (fun w args => (Rows.wireLaysSpec.pre enc Tryd.prog Tryd.f4 [] false w args ∧ laidMetH Tryd.prog laid w) ∧ sizedMet enc Tryd.prog Tryd.f4 (OpenSpec.ofChange Rows.wireLaysSpec) false w args) (Rows.wireLaysSpec.post enc Tryd.prog Tryd.f4 false true false false) := by
  refine returnsInHanded_of_change_and (C := Tryd.checked) (X := fun w _ => laidMetH Tryd.prog laid w) (fun _ _ _ hh h => h.of_heap hh) own started (by kernel_rfl) Tryd.func4
    (ChangeSpec.witness_at (enc := enc) (C := Tryd.checked) (os := os) (X := fun w _ => laidMetH Tryd.prog laid w) false (laidWorld os) #[.slice none 0 0, .int .u64 0, .string .empty] 8 rfl (by kernel_rfl) (by kernel_rfl) (by kernel_rfl) (by kernel_rfl) (by kernel_rfl) (laidWorld_met os _)) ?_
  intro W base args ds gs before hval0 hW _ _ hL _
  have hval : ∀ (j : Nat) t v, Tryd.f4.params[j]? = some t → args[j]? = some v → Value.okWide Tryd.prog W .any base t v := hval0
  have hW' := hW
  obtain ⟨p, q, hA0, hV, rfl, hfz, hnd⟩ := hW
  have hA : DataW.TrodAll enc Tryd.prog W 0 (fun _ => true) true Tryd.f4.params.toList args.toList ds p := hA0
  rw [Tryd.params4] at hA hval
  obtain ⟨v0, vs0, d0, ds0, p0, q0, hargs, rfl, rfl, h0, r0⟩ := trodAll_cons hA
  obtain ⟨v1, vs1, d1, ds1, p1, q1, rfl, rfl, rfl, h1, r1⟩ := trodAll_cons r0
  obtain ⟨v2, vs2, d2, ds2, p2, q2, rfl, rfl, rfl, h2, r2⟩ := trodAll_cons r1
  obtain ⟨rfl, rfl, rfl⟩ := trodAll_nil r2
  obtain rfl : args = #[v0, v1, v2] := by cases args; simp_all
  obtain ⟨rfl, rfl⟩ := trodVars_none hV
  obtain ⟨X0, R0⟩ := open_rows (cl := [.i .u8]) Tryd.underlying24 flat5 size5 rfl (hval 0 24 v0 rfl rfl) h0
  obtain ⟨n1, i1, rfl, rfl⟩ := open_one flat22 agg22 (hval 1 22 v1 rfl rfl) h1
  obtain ⟨s2, rfl, rfl, rfl, z2⟩ := Go.ChangeMaps.open_string Tryd.underlying9 (hval 2 9 v2 rfl rfl) h2
  clear hA0 hval0
  simp only [List.append_nil] at hW'
  refine (walk W hL v0 X0 R0.row n1 i1 s2 z2).mono fun e W' ⟨he, hg⟩ => ?_
  subst he
  exact ⟨_, rfl, post_of_below (pa := p0 ++ ([] ++ ([] ++ ([])))) (pv := []) hW' (fun _ _ _ => (trodAll_cons_mk (shut_bool Tryd.underlying4 _) trodAll_mk0)) (fun sp hsp => (trodAll_cons_mk (R0.again W' hg sp (fun z hz => hsp z (by simp [hz]))) (trodAll_cons_mk (shut_flat flat22 h1) (trodAll_cons_mk (Go.ChangeMaps.shut_string Tryd.underlying9 z2) trodAll_mk0)))) (fun _ _ => rfl) (by simp)
    hg (ok_one (by kernel_rfl) rfl (okWide_bool_mk Tryd.underlying4 _))⟩

theorem over : Rows.wireLaysRow.holds Tryd.pinned (OpenSpec.ofChange Rows.wireLaysSpec) :=
  OpenClaim.holds_of_wide 4 Tryd.f4 rfl rfl rfl rfl rfl rfl rfl ⟨rfl, rfl, rfl, rfl, rfl⟩ rfl rfl rfl rfl rfl (by kernel_rfl) Tryd.func4 (by kernel_rfl)
    (of_decide_eq_true (by kernel_rfl)) (by unfold Func.isWrapper; first | (rw [if_pos (by decide +kernel)]; kernel_rfl) | (rw [if_neg (by decide +kernel)]; exact ⟨rfl, rfl⟩))
    (fun os started H enc _ => lifted os started H enc)

/-- THE STATEMENT: the row's, and what it lists tied to the program's text (the tie is given). -/
theorem proved : Rows.WireLaysCardSaid :=
  Claim7.holds_tied_plain_at .later [] [.handle] true (true, "c2838ca91c28a9fb7908c478833805ac40200ffe986e5b7931e25f0c134e5a5f") true
    over (fun _ h => by cases h) (by kernel_rfl) (fun _ h => by cases h) wireLays_row_tie rfl ⟨rfl, rfl⟩ (by kernel_rfl) rfl
    (fun f fn hf hfn => by
      obtain rfl : f = 4 := Option.some.inj ((show Tryd.prog.funcNamed "plover/ploverlaw01.WireLays" = some 4 by kernel_rfl).symm.trans hf) |>.symm
      obtain rfl : fn = Tryd.f4 := (Option.some.inj (Tryd.func4.symm.trans hfn)).symm
      exact ⟨by kernel_rfl, fun j t ht => by
        rw [Tryd.params4] at ht
        rcases j with _ | _ | _ | j
        · obtain rfl : t = 24 := by simpa using ht.symm
          exact (show Tryd.prog.wantsStandIn 24 = false by kernel_rfl)
        · obtain rfl : t = 22 := by simpa using ht.symm
          exact (show Tryd.prog.wantsStandIn 22 = false by kernel_rfl)
        · obtain rfl : t = 9 := by simpa using ht.symm
          exact (show Tryd.prog.wantsStandIn 9 = false by kernel_rfl)
        · simp at ht⟩)
    (by kernel_rfl)
#print axioms proved
end Go.Proofs.YtapfkgenachpgaaDoor.wireLays
