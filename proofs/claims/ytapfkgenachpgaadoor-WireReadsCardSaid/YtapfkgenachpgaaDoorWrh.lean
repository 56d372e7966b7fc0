/-
  WireReads: the round of its loop, reckoned.
  No conditions.
-/
import Derived.Test.YtapfkgenachpgaaDoorChecked
import Derived.WalkKit
import Derived.Below
import Derived.ChangeSame
import Derived.Test.YtapfkgenachpgaaDoorWrg
namespace Go.Proofs.YtapfkgenachpgaaDoor.wr
open Go.RowKit
open Go.Ev Go.Proofs.YtapfkgenachpgaaDoor.fa Go.Proofs.YtapfkgenachpgaaDoor.wn
set_option linter.unusedVariables false
set_option linter.unusedSimpArgs false

set_option maxHeartbeats 0 in
theorem uc0 {W : World} {v1 : Value} {X : Fz} {O : Obj} {k : Nat} {τ : Sig} (hX : RowV W wrC2 v1 X) (hC : Stage Tryd.prog wnTab 76 W (WZ W) ((flatC (bodyOf Tryd.f5)).drop 5) wrSe 0 [] (fun σ => σ.ext = EE X O)) (e : Eqs τ 8 wrB0G) (ht : τ.tab = wnTab) (hi : InsOk τ 8 wrKe) (he : RowE (EE X O) X τ) (hix : ((X.len : Int) - τ.ival 0).toNat = k) (h : Cx false τ) (f0 : τ.bval 9 = true) (f1 : τ.bval 10 = true) (f2 : τ.bval 11 = true) (f3 : τ.bval 14 = true) (f4 : τ.bval 12 = true) (f5 : τ.bval 13 = true) (f6 : τ.bval 16 = true) : segsPw τ (EndZ wnTab 76 W (LZ W X O k)) (.pick 24 0 (.run wrB0V0) (.pick 24 3 (.run wrB0V1) (.pick 24 5 (.run wrB0V2) .dead))) := by
  have hE : τ.ext = EE X O := he.ext
  have b := wrB0_base e h
  have p0 := ob_rT (uo9 e) f0
  have p1 := ob_rT (uo10 e) f1
  have p2 := ob_rT (uo11 e) f2
  have p3 := ob_rT (uo14 e) f3
  have p4 := ob_rT (uo12 e) f4
  have p5 := ob_rT (uo13 e) f5
  have p6 := ob_rT (uo16 e) f6
  exact ⟨fun f7 => ⟨fun f8 => have q8 := uo66 e; have t8 := ob_T f8; (by have := uo57 e h; have := uo58 e h; have := uo59 e; have := uo60 e h; have := uo61 e h; have := uo62 e h; have := uo63 e h; have := uo64 e; have := uo65 e; have := uo66 e; omega),
 fun f8 => have q8 := uo66 e; have t8 := ob_F f8; ⟨fun f9 => have p9 := ob_rT (uo67 e) f9; ⟨fun f10 => have q10 := uo76 e; have t10 := ob_T f10; (by have := uo29 e h; have := uo40 e h; have := uo68 e; have := uo69 e; have := uo70 e; have := uo71 e; have := uo72 e; have := uo73 e; have := uo74 e; have := uo75 e; have := uo76 e; omega),
 fun f10 => have q10 := uo76 e; have t10 := ob_F f10; (by have := uo29 e h; have := uo40 e h; have := uo78 e; have r : τ.ival 0 + 1 = τ.ival 78 ∧ τ.ival 0 < τ.ival 1 ∧ (0 : Int) ≤ τ.ival 29 ∧ τ.ival 29 ≤ τ.ival 8 := (by refine ⟨?_, ?_, ?_, ?_⟩ <;> omega); exact nextJ hX he hix h (insOk_kt (X := wrB0X) e hi wrB0_kt (by kernel_rfl)) ⟨rfl, rfl⟩ r.1 r.2.1 r.2.2.1 r.2.2.2 (fun hb => by cases hb) (base8 e))⟩,
 fun f9 => have p9 := ob_rF (uo67 e) f9; ⟨fun f10 => have q10 := uo77 e; have t10 := ob_T f10; (by have := uo29 e h; have := uo40 e h; have := uo68 e; have := uo69 e; have := uo71 e; have := uo77 e; omega),
 fun f10 => have q10 := uo77 e; have t10 := ob_F f10; (by have := uo29 e h; have := uo40 e h; have := uo78 e; have r : τ.ival 0 + 1 = τ.ival 78 ∧ τ.ival 0 < τ.ival 1 ∧ (0 : Int) ≤ τ.ival 29 ∧ τ.ival 29 ≤ τ.ival 8 := (by refine ⟨?_, ?_, ?_, ?_⟩ <;> omega); exact nextJ hX he hix h (insOk_kt (X := wrB0X) e hi wrB0_kt (by kernel_rfl)) ⟨rfl, rfl⟩ r.1 r.2.1 r.2.2.1 r.2.2.2 (fun hb => by cases hb) (base8 e))⟩⟩⟩,
 fun f7 => ⟨fun f8 => ⟨fun f9 => have q9 := uo66 e; have t9 := ob_T f9; (by have := uo57 e h; have := uo58 e h; have := uo59 e; have := uo60 e h; have := uo61 e h; have := uo62 e h; have := uo63 e h; have := uo64 e; have := uo65 e; have := uo66 e; omega),
 fun f9 => have q9 := uo66 e; have t9 := ob_F f9; (by have := uo29 e h; have := uo78 e; have r : τ.ival 0 + 1 = τ.ival 78 ∧ τ.ival 0 < τ.ival 1 ∧ (0 : Int) ≤ τ.ival 29 ∧ τ.ival 29 ≤ τ.ival 8 ∧ ¬ (3 : Int) = 0 := (by refine ⟨?_, ?_, ?_, ?_, ?_⟩ <;> omega); exact nextJ hX he hix h (insOk_kt (X := wrB0X) e hi wrB0_kt (by kernel_rfl)) ⟨rfl, rfl⟩ r.1 r.2.1 r.2.2.1 r.2.2.2.1 (fun _ => r.2.2.2.2) (base8 e))⟩,
 fun f8 => ⟨fun f9 => ⟨fun f10 => have q10 := uo66 e; have t10 := ob_T f10; (by have := uo57 e h; have := uo58 e h; have := uo59 e; have := uo60 e h; have := uo61 e h; have := uo62 e h; have := uo63 e h; have := uo64 e; have := uo65 e; have := uo66 e; omega),
 fun f10 => have q10 := uo66 e; have t10 := ob_F f10; (by have := uo29 e h; have := uo78 e; have r : τ.ival 0 + 1 = τ.ival 78 ∧ τ.ival 0 < τ.ival 1 ∧ (0 : Int) ≤ τ.ival 29 ∧ τ.ival 29 ≤ τ.ival 8 ∧ ¬ (5 : Int) = 0 := (by refine ⟨?_, ?_, ?_, ?_, ?_⟩ <;> omega); exact nextJ hX he hix h (insOk_kt (X := wrB0X) e hi wrB0_kt (by kernel_rfl)) ⟨rfl, rfl⟩ r.1 r.2.1 r.2.2.1 r.2.2.2.1 (fun _ => r.2.2.2.2) (base8 e))⟩,
 fun f9 => (by omega)⟩⟩⟩
set_option maxHeartbeats 0 in
theorem uc1 {W : World} {v1 : Value} {X : Fz} {O : Obj} {k : Nat} {τ : Sig} (hX : RowV W wrC2 v1 X) (hC : Stage Tryd.prog wnTab 76 W (WZ W) ((flatC (bodyOf Tryd.f5)).drop 5) wrSe 0 [] (fun σ => σ.ext = EE X O)) (e : Eqs τ 8 wrB0G) (ht : τ.tab = wnTab) (hi : InsOk τ 8 wrKe) (he : RowE (EE X O) X τ) (hix : ((X.len : Int) - τ.ival 0).toNat = k) (h : Cx false τ) (f0 : τ.bval 9 = true) (f1 : τ.bval 10 = true) (f2 : τ.bval 11 = true) (f3 : τ.bval 14 = true) (f4 : τ.bval 12 = true) (f5 : τ.bval 13 = true) (f6 : τ.bval 16 = false) (f7 : τ.bval 17 = true) : segsPw τ (EndZ wnTab 76 W (LZ W X O k)) (.node 25 (.run wrB0V3) (.run wrB0V4)) := by
  have hE : τ.ext = EE X O := he.ext
  have b := wrB0_base e h
  have p0 := ob_rT (uo9 e) f0
  have p1 := ob_rT (uo10 e) f1
  have p2 := ob_rT (uo11 e) f2
  have p3 := ob_rT (uo14 e) f3
  have p4 := ob_rT (uo12 e) f4
  have p5 := ob_rT (uo13 e) f5
  have p6 := ob_rF (uo16 e) f6
  have p7 := ob_rT (uo17 e) f7
  exact ⟨fun f8 => have p8 := ob_rT (uo25 e) f8; have t8 := ob_T f8; ⟨fun f9 => have p9 := ob_rT (uo79 e) f9; (by have := uo37 e h; omega),
 fun f9 => have p9 := ob_rF (uo79 e) f9; ⟨fun f10 => have p10 := ob_rT (uo80 e) f10; (by have := uo37 e h; omega),
 fun f10 => have p10 := ob_rF (uo80 e) f10; ⟨fun f11 => have p11 := ob_rT (uo81 e) f11; ⟨fun f12 => have p12 := ob_rT (uo82 e) f12; ⟨fun f13 => have q13 := uo93 e; have t13 := ob_T f13; (by have := uo37 e h; have := uo44 e h; have := uo45 e h; have := uo85 e; have := uo93 e; omega),
 fun f13 => have q13 := uo93 e; have t13 := ob_F f13; ⟨fun f14 => have p14 := ob_rT (uo94 e) f14; ⟨fun f15 => have q15 := uo103 e; have t15 := ob_T f15; (by have := uo37 e h; have := uo44 e h; have := uo45 e h; have := uo88 e h; have := uo95 e; have := uo96 e; have := uo97 e; have := uo98 e; have := uo99 e; have := uo100 e; have := uo101 e; have := uo102 e; have := uo103 e; omega),
 fun f15 => have q15 := uo103 e; have t15 := ob_F f15; (by have := uo37 e h; have := uo44 e h; have := uo45 e h; have := uo78 e; have := uo88 e h; have r : τ.ival 0 + 1 = τ.ival 78 ∧ τ.ival 0 < τ.ival 1 ∧ (0 : Int) ≤ τ.ival 44 ∧ τ.ival 44 ≤ τ.ival 8 := (by refine ⟨?_, ?_, ?_, ?_⟩ <;> omega); exact nextJ hX he hix h (insOk_kt (X := wrB0X) e hi wrB0_kt (by kernel_rfl)) ⟨rfl, rfl⟩ r.1 r.2.1 r.2.2.1 r.2.2.2 (fun hb => by cases hb) (base8 e))⟩,
 fun f14 => have p14 := ob_rF (uo94 e) f14; ⟨fun f15 => have q15 := uo104 e; have t15 := ob_T f15; (by have := uo37 e h; have := uo44 e h; have := uo45 e h; have := uo88 e h; have := uo95 e; have := uo96 e; have := uo98 e; have := uo104 e; omega),
 fun f15 => have q15 := uo104 e; have t15 := ob_F f15; (by have := uo37 e h; have := uo44 e h; have := uo45 e h; have := uo78 e; have := uo88 e h; have r : τ.ival 0 + 1 = τ.ival 78 ∧ τ.ival 0 < τ.ival 1 ∧ (0 : Int) ≤ τ.ival 44 ∧ τ.ival 44 ≤ τ.ival 8 := (by refine ⟨?_, ?_, ?_, ?_⟩ <;> omega); exact nextJ hX he hix h (insOk_kt (X := wrB0X) e hi wrB0_kt (by kernel_rfl)) ⟨rfl, rfl⟩ r.1 r.2.1 r.2.2.1 r.2.2.2 (fun hb => by cases hb) (base8 e))⟩⟩⟩,
 fun f12 => have p12 := ob_rF (uo82 e) f12; (by have := uo37 e h; have := uo44 e h; have := uo45 e h; omega)⟩,
 fun f11 => have p11 := ob_rF (uo81 e) f11; (by have := uo37 e h; have := uo44 e h; have := uo45 e h; omega)⟩⟩⟩,
 fun f8 => have p8 := ob_rF (uo25 e) f8; have t8 := ob_F f8; ⟨fun f9 => have p9 := ob_rT (uo79 e) f9; ⟨fun f10 => have p10 := ob_rT (uo80 e) f10; (by have := uo37 e h; have := uo78 e; have r : τ.ival 0 + 1 = τ.ival 78 ∧ τ.ival 0 < τ.ival 1 ∧ (0 : Int) ≤ τ.ival 2 ∧ τ.ival 2 ≤ τ.ival 8 ∧ ¬ (3 : Int) = 0 := (by refine ⟨?_, ?_, ?_, ?_, ?_⟩ <;> omega); exact nextJ hX he hix h (insOk_kt (X := wrB0X) e hi wrB0_kt (by kernel_rfl)) ⟨rfl, rfl⟩ r.1 r.2.1 r.2.2.1 r.2.2.2.1 (fun _ => r.2.2.2.2) (base8 e)),
 fun f10 => have p10 := ob_rF (uo80 e) f10; (by have := uo37 e h; omega)⟩,
 fun f9 => have p9 := ob_rF (uo79 e) f9; (by have := uo37 e h; omega)⟩⟩
set_option maxHeartbeats 0 in
theorem uc2 {W : World} {v1 : Value} {X : Fz} {O : Obj} {k : Nat} {τ : Sig} (hX : RowV W wrC2 v1 X) (hC : Stage Tryd.prog wnTab 76 W (WZ W) ((flatC (bodyOf Tryd.f5)).drop 5) wrSe 0 [] (fun σ => σ.ext = EE X O)) (e : Eqs τ 8 wrB0G) (ht : τ.tab = wnTab) (hi : InsOk τ 8 wrKe) (he : RowE (EE X O) X τ) (hix : ((X.len : Int) - τ.ival 0).toNat = k) (h : Cx false τ) (f0 : τ.bval 9 = true) (f1 : τ.bval 10 = true) (f2 : τ.bval 11 = true) (f3 : τ.bval 14 = true) (f4 : τ.bval 12 = true) (f5 : τ.bval 13 = true) (f6 : τ.bval 16 = false) (f7 : τ.bval 17 = false) (f8 : τ.bval 18 = true) : segsPw τ (EndZ wnTab 76 W (LZ W X O k)) (.node 25 (.node 43 (.node 47 (.run wrB0V5) .dead) (.node 47 .dead (.run wrB0V6))) (.run wrB0V7)) := by
  have hE : τ.ext = EE X O := he.ext
  have b := wrB0_base e h
  have p0 := ob_rT (uo9 e) f0
  have p1 := ob_rT (uo10 e) f1
  have p2 := ob_rT (uo11 e) f2
  have p3 := ob_rT (uo14 e) f3
  have p4 := ob_rT (uo12 e) f4
  have p5 := ob_rT (uo13 e) f5
  have p6 := ob_rF (uo16 e) f6
  have p7 := ob_rF (uo17 e) f7
  have p8 := ob_rT (uo18 e) f8
  exact ⟨fun f9 => have p9 := ob_rT (uo25 e) f9; have t9 := ob_T f9; ⟨fun f10 => have p10 := ob_rT (uo43 e) f10; ⟨fun f11 => have p11 := ob_rT (uo47 e) f11; have t11 := ob_T f11; ⟨fun f12 => have p12 := ob_rT (uo111 e) f12; ⟨fun f13 => have p13 := ob_rT (uo80 e) f13; (by have := uo37 e h; omega),
 fun f13 => have p13 := ob_rF (uo80 e) f13; ⟨fun f14 => have p14 := ob_rT (uo81 e) f14; ⟨fun f15 => have p15 := ob_rT (uo82 e) f15; ⟨fun f16 => have q16 := uo117 e; have t16 := ob_T f16; (by have := uo37 e h; have := uo44 e h; have := uo45 e h; have := uo113 e; have := uo114 e; have := uo117 e; omega),
 fun f16 => have q16 := uo117 e; have t16 := ob_F f16; (by have := uo37 e h; have := uo44 e h; have := uo45 e h; have := uo78 e; have r : τ.ival 0 + 1 = τ.ival 78 ∧ τ.ival 0 < τ.ival 1 ∧ (0 : Int) ≤ τ.ival 2 ∧ τ.ival 2 ≤ τ.ival 8 ∧ ¬ (5 : Int) = 0 := (by refine ⟨?_, ?_, ?_, ?_, ?_⟩ <;> omega); exact nextJ hX he hix h (insOk_kt (X := wrB0X) e hi wrB0_kt (by kernel_rfl)) ⟨rfl, rfl⟩ r.1 r.2.1 r.2.2.1 r.2.2.2.1 (fun _ => r.2.2.2.2) (base8 e))⟩,
 fun f15 => have p15 := ob_rF (uo82 e) f15; (by have := uo37 e h; have := uo44 e h; have := uo45 e h; omega)⟩,
 fun f14 => have p14 := ob_rF (uo81 e) f14; (by have := uo37 e h; have := uo44 e h; have := uo45 e h; omega)⟩⟩,
 fun f12 => have p12 := ob_rF (uo111 e) f12; (by have := uo37 e h; omega)⟩,
 fun f11 => have p11 := ob_rF (uo47 e) f11; have t11 := ob_F f11; (by omega)⟩,
 fun f10 => have p10 := ob_rF (uo43 e) f10; ⟨fun f11 => have p11 := ob_rT (uo47 e) f11; have t11 := ob_T f11; (by omega),
 fun f11 => have p11 := ob_rF (uo47 e) f11; have t11 := ob_F f11; ⟨fun f12 => have p12 := ob_rT (uo111 e) f12; ⟨fun f13 => have p13 := ob_rT (uo79 e) f13; (by have := uo37 e h; omega),
 fun f13 => have p13 := ob_rF (uo79 e) f13; ⟨fun f14 => have p14 := ob_rT (uo80 e) f14; (by have := uo37 e h; omega),
 fun f14 => have p14 := ob_rF (uo80 e) f14; ⟨fun f15 => have p15 := ob_rT (uo81 e) f15; ⟨fun f16 => have p16 := ob_rT (uo82 e) f16; ⟨fun f17 => have q17 := uo119 e; have t17 := ob_T f17; (by have := uo37 e h; have := uo44 e h; have := uo45 e h; have := uo112 e; have := uo113 e; have := uo116 e; have := uo119 e; omega),
 fun f17 => have q17 := uo119 e; have t17 := ob_F f17; ⟨fun f18 => have p18 := ob_rT (uo94 e) f18; ⟨fun f19 => have q19 := uo103 e; have t19 := ob_T f19; (by have := uo37 e h; have := uo44 e h; have := uo45 e h; have := uo88 e h; have := uo95 e; have := uo96 e; have := uo97 e; have := uo98 e; have := uo99 e; have := uo100 e; have := uo101 e; have := uo102 e; have := uo103 e; omega),
 fun f19 => have q19 := uo103 e; have t19 := ob_F f19; (by have := uo37 e h; have := uo44 e h; have := uo45 e h; have := uo78 e; have := uo88 e h; have r : τ.ival 0 + 1 = τ.ival 78 ∧ τ.ival 0 < τ.ival 1 ∧ (0 : Int) ≤ τ.ival 44 ∧ τ.ival 44 ≤ τ.ival 8 := (by refine ⟨?_, ?_, ?_, ?_⟩ <;> omega); exact nextJ hX he hix h (insOk_kt (X := wrB0X) e hi wrB0_kt (by kernel_rfl)) ⟨rfl, rfl⟩ r.1 r.2.1 r.2.2.1 r.2.2.2 (fun hb => by cases hb) (base8 e))⟩,
 fun f18 => have p18 := ob_rF (uo94 e) f18; ⟨fun f19 => have q19 := uo104 e; have t19 := ob_T f19; (by have := uo37 e h; have := uo44 e h; have := uo45 e h; have := uo88 e h; have := uo95 e; have := uo96 e; have := uo98 e; have := uo104 e; omega),
 fun f19 => have q19 := uo104 e; have t19 := ob_F f19; (by have := uo37 e h; have := uo44 e h; have := uo45 e h; have := uo78 e; have := uo88 e h; have r : τ.ival 0 + 1 = τ.ival 78 ∧ τ.ival 0 < τ.ival 1 ∧ (0 : Int) ≤ τ.ival 44 ∧ τ.ival 44 ≤ τ.ival 8 := (by refine ⟨?_, ?_, ?_, ?_⟩ <;> omega); exact nextJ hX he hix h (insOk_kt (X := wrB0X) e hi wrB0_kt (by kernel_rfl)) ⟨rfl, rfl⟩ r.1 r.2.1 r.2.2.1 r.2.2.2 (fun hb => by cases hb) (base8 e))⟩⟩⟩,
 fun f16 => have p16 := ob_rF (uo82 e) f16; (by have := uo37 e h; have := uo44 e h; have := uo45 e h; omega)⟩,
 fun f15 => have p15 := ob_rF (uo81 e) f15; (by have := uo37 e h; have := uo44 e h; have := uo45 e h; omega)⟩⟩⟩,
 fun f12 => have p12 := ob_rF (uo111 e) f12; (by have := uo37 e h; omega)⟩⟩⟩,
 fun f9 => have p9 := ob_rF (uo25 e) f9; have t9 := ob_F f9; ⟨fun f10 => have p10 := ob_rT (uo111 e) f10; (by have := uo37 e h; omega),
 fun f10 => have p10 := ob_rF (uo111 e) f10; ⟨fun f11 => have p11 := ob_rT (uo79 e) f11; ⟨fun f12 => have p12 := ob_rT (uo80 e) f12; (by have := uo37 e h; have := uo78 e; have r : τ.ival 0 + 1 = τ.ival 78 ∧ τ.ival 0 < τ.ival 1 ∧ (0 : Int) ≤ τ.ival 2 ∧ τ.ival 2 ≤ τ.ival 8 ∧ ¬ (3 : Int) = 0 := (by refine ⟨?_, ?_, ?_, ?_, ?_⟩ <;> omega); exact nextJ hX he hix h (insOk_kt (X := wrB0X) e hi wrB0_kt (by kernel_rfl)) ⟨rfl, rfl⟩ r.1 r.2.1 r.2.2.1 r.2.2.2.1 (fun _ => r.2.2.2.2) (base8 e)),
 fun f12 => have p12 := ob_rF (uo80 e) f12; (by have := uo37 e h; omega)⟩,
 fun f11 => have p11 := ob_rF (uo79 e) f11; (by have := uo37 e h; omega)⟩⟩⟩
set_option maxHeartbeats 0 in
theorem uc3 {W : World} {v1 : Value} {X : Fz} {O : Obj} {k : Nat} {τ : Sig} (hX : RowV W wrC2 v1 X) (hC : Stage Tryd.prog wnTab 76 W (WZ W) ((flatC (bodyOf Tryd.f5)).drop 5) wrSe 0 [] (fun σ => σ.ext = EE X O)) (e : Eqs τ 8 wrB0G) (ht : τ.tab = wnTab) (hi : InsOk τ 8 wrKe) (he : RowE (EE X O) X τ) (hix : ((X.len : Int) - τ.ival 0).toNat = k) (h : Cx false τ) (f0 : τ.bval 9 = true) (f1 : τ.bval 10 = true) (f2 : τ.bval 11 = true) (f3 : τ.bval 14 = true) (f4 : τ.bval 12 = true) (f5 : τ.bval 13 = true) (f6 : τ.bval 16 = false) (f7 : τ.bval 17 = false) (f8 : τ.bval 18 = false) (f9 : τ.bval 19 = true) : segsPw τ (EndZ wnTab 76 W (LZ W X O k)) (.pick 24 0 (.node 49 (.run wrB0V8) (.node 51 (.run wrB0V9) (.node 39 (.node 41 (.run wrB0V10) .dead) (.node 41 .dead (.node 31 (.node 32 (.node 33 (.node 35 (.node 36 (.run wrB0V11) .dead) .dead) .dead) .dead) .dead))))) (.pick 24 3 (.run wrB0V12) (.pick 24 5 (.run wrB0V13) .dead))) := by
  have hE : τ.ext = EE X O := he.ext
  have b := wrB0_base e h
  have p0 := ob_rT (uo9 e) f0
  have p1 := ob_rT (uo10 e) f1
  have p2 := ob_rT (uo11 e) f2
  have p3 := ob_rT (uo14 e) f3
  have p4 := ob_rT (uo12 e) f4
  have p5 := ob_rT (uo13 e) f5
  have p6 := ob_rF (uo16 e) f6
  have p7 := ob_rF (uo17 e) f7
  have p8 := ob_rF (uo18 e) f8
  have p9 := ob_rT (uo19 e) f9
  exact ⟨fun f10 => ⟨fun f11 => have p11 := ob_rT (uo49 e) f11; (by have := uo48 e h; have := uo78 e; have r : τ.ival 0 + 1 = τ.ival 78 ∧ τ.ival 0 < τ.ival 1 ∧ (0 : Int) ≤ τ.ival 2 ∧ τ.ival 2 ≤ τ.ival 8 ∧ ¬ (4 : Int) = 0 := (by refine ⟨?_, ?_, ?_, ?_, ?_⟩ <;> omega); exact nextJ hX he hix h (insOk_kt (X := wrB0X) e hi wrB0_kt (by kernel_rfl)) ⟨rfl, rfl⟩ r.1 r.2.1 r.2.2.1 r.2.2.2.1 (fun _ => r.2.2.2.2) (base8 e)),
 fun f11 => have p11 := ob_rF (uo49 e) f11; ⟨fun f12 => have p12 := ob_rT (uo51 e) f12; (by have := uo48 e h; have := uo50 e; have := uo78 e; have r : τ.ival 0 + 1 = τ.ival 78 ∧ τ.ival 0 < τ.ival 1 ∧ (0 : Int) ≤ τ.ival 2 ∧ τ.ival 2 ≤ τ.ival 8 ∧ ¬ (4 : Int) = 0 := (by refine ⟨?_, ?_, ?_, ?_, ?_⟩ <;> omega); exact nextJ hX he hix h (insOk_kt (X := wrB0X) e hi wrB0_kt (by kernel_rfl)) ⟨rfl, rfl⟩ r.1 r.2.1 r.2.2.1 r.2.2.2.1 (fun _ => r.2.2.2.2) (base8 e)),
 fun f12 => have p12 := ob_rF (uo51 e) f12; ⟨fun f13 => have p13 := ob_rT (uo39 e) f13; ⟨fun f14 => have p14 := ob_rT (uo41 e) f14; (by have := uo28 e h; have := uo29 e h; have := uo37 e h; have := uo38 e h; have := uo40 e h; have := uo48 e h; have := uo50 e; have := uo78 e; have r : τ.ival 0 + 1 = τ.ival 78 ∧ τ.ival 0 < τ.ival 1 ∧ (0 : Int) ≤ τ.ival 2 ∧ τ.ival 2 ≤ τ.ival 8 ∧ ¬ (3 : Int) = 0 := (by refine ⟨?_, ?_, ?_, ?_, ?_⟩ <;> omega); exact nextJ hX he hix h (insOk_kt (X := wrB0X) e hi wrB0_kt (by kernel_rfl)) ⟨rfl, rfl⟩ r.1 r.2.1 r.2.2.1 r.2.2.2.1 (fun _ => r.2.2.2.2) (base8 e)),
 fun f14 => have p14 := ob_rF (uo41 e) f14; (by have := uo28 e h; have := uo29 e h; have := uo37 e h; have := uo38 e h; have := uo40 e h; have := uo48 e h; have := uo50 e; omega)⟩,
 fun f13 => have p13 := ob_rF (uo39 e) f13; ⟨fun f14 => have p14 := ob_rT (uo41 e) f14; (by have := uo28 e h; have := uo29 e h; have := uo37 e h; have := uo38 e h; have := uo40 e h; have := uo48 e h; have := uo50 e; omega),
 fun f14 => have p14 := ob_rF (uo41 e) f14; ⟨fun f15 => have p15 := ob_rT (uo31 e) f15; ⟨fun f16 => have p16 := ob_rT (uo32 e) f16; ⟨fun f17 => have p17 := ob_rT (uo33 e) f17; ⟨fun f18 => have p18 := ob_rT (uo35 e) f18; ⟨fun f19 => have p19 := ob_rT (uo36 e) f19; ⟨fun f20 => have q20 := uo154 e; have t20 := ob_T f20; (by have := uo28 e h; have := uo29 e h; have := uo30 e h; have := uo34 e h; have := uo37 e h; have := uo38 e h; have := uo40 e h; have := uo48 e h; have := uo50 e; have := uo153 e h; have := uo154 e; omega),
 fun f20 => have q20 := uo154 e; have t20 := ob_F f20; ⟨fun f21 => have p21 := ob_rT (uo155 e) f21; (by have := uo28 e h; have := uo29 e h; have := uo30 e h; have := uo34 e h; have := uo37 e h; have := uo38 e h; have := uo40 e h; have := uo48 e h; have := uo50 e; have := uo150 e h; have := uo151 e h; omega),
 fun f21 => have p21 := ob_rF (uo155 e) f21; ⟨fun f22 => have p22 := ob_rT (uo158 e) f22; (by have := uo28 e h; have := uo29 e h; have := uo30 e h; have := uo34 e h; have := uo37 e h; have := uo38 e h; have := uo40 e h; have := uo48 e h; have := uo50 e; have := uo150 e h; have := uo151 e h; have := uo156 e h; have := uo157 e h; omega),
 fun f22 => have p22 := ob_rF (uo158 e) f22; ⟨fun f23 => have p23 := ob_rT (uo159 e) f23; ⟨fun f24 => have q24 := uo168 e; have t24 := ob_T f24; (by have := uo28 e h; have := uo29 e h; have := uo30 e h; have := uo34 e h; have := uo37 e h; have := uo38 e h; have := uo40 e h; have := uo48 e h; have := uo50 e; have := uo150 e h; have := uo151 e h; have := uo156 e h; have := uo157 e h; have := uo160 e; have := uo161 e; have := uo162 e; have := uo163 e; have := uo164 e; have := uo165 e; have := uo166 e; have := uo167 e; have := uo168 e; omega),
 fun f24 => have q24 := uo168 e; have t24 := ob_F f24; (by have := uo28 e h; have := uo29 e h; have := uo30 e h; have := uo34 e h; have := uo37 e h; have := uo38 e h; have := uo40 e h; have := uo48 e h; have := uo50 e; have := uo78 e; have := uo150 e h; have := uo151 e h; have := uo156 e h; have := uo157 e h; have r : τ.ival 0 + 1 = τ.ival 78 ∧ τ.ival 0 < τ.ival 1 ∧ (0 : Int) ≤ τ.ival 151 ∧ τ.ival 151 ≤ τ.ival 8 ∧ (τ.ival 30 : Int) = τ.ival 151 := (by refine ⟨?_, ?_, ?_, ?_, ?_⟩ <;> omega); exact And.intro (And.intro (congrArg (AVal.int .i64) r.2.2.2.2) trivial) (nextJ hX he hix h (insOk_kt (X := wrB0X) e hi wrB0_kt (by kernel_rfl)) ⟨rfl, rfl⟩ r.1 r.2.1 r.2.2.1 r.2.2.2.1 (fun hb => by cases hb) (base8 e)))⟩,
 fun f23 => have p23 := ob_rF (uo159 e) f23; ⟨fun f24 => have q24 := uo169 e; have t24 := ob_T f24; (by have := uo28 e h; have := uo29 e h; have := uo30 e h; have := uo34 e h; have := uo37 e h; have := uo38 e h; have := uo40 e h; have := uo48 e h; have := uo50 e; have := uo150 e h; have := uo151 e h; have := uo156 e h; have := uo157 e h; have := uo160 e; have := uo161 e; have := uo163 e; have := uo169 e; omega),
 fun f24 => have q24 := uo169 e; have t24 := ob_F f24; (by have := uo28 e h; have := uo29 e h; have := uo30 e h; have := uo34 e h; have := uo37 e h; have := uo38 e h; have := uo40 e h; have := uo48 e h; have := uo50 e; have := uo78 e; have := uo150 e h; have := uo151 e h; have := uo156 e h; have := uo157 e h; have r : τ.ival 0 + 1 = τ.ival 78 ∧ τ.ival 0 < τ.ival 1 ∧ (0 : Int) ≤ τ.ival 151 ∧ τ.ival 151 ≤ τ.ival 8 ∧ (τ.ival 30 : Int) = τ.ival 151 := (by refine ⟨?_, ?_, ?_, ?_, ?_⟩ <;> omega); exact And.intro (And.intro (congrArg (AVal.int .i64) r.2.2.2.2) trivial) (nextJ hX he hix h (insOk_kt (X := wrB0X) e hi wrB0_kt (by kernel_rfl)) ⟨rfl, rfl⟩ r.1 r.2.1 r.2.2.1 r.2.2.2.1 (fun hb => by cases hb) (base8 e)))⟩⟩⟩⟩⟩,
 fun f19 => have p19 := ob_rF (uo36 e) f19; (by have := uo28 e h; have := uo29 e h; have := uo30 e h; have := uo34 e h; have := uo37 e h; have := uo38 e h; have := uo40 e h; have := uo48 e h; have := uo50 e; omega)⟩,
 fun f18 => have p18 := ob_rF (uo35 e) f18; (by have := uo28 e h; have := uo29 e h; have := uo30 e h; have := uo34 e h; have := uo37 e h; have := uo38 e h; have := uo40 e h; have := uo48 e h; have := uo50 e; omega)⟩,
 fun f17 => have p17 := ob_rF (uo33 e) f17; (by have := uo28 e h; have := uo29 e h; have := uo30 e h; have := uo37 e h; have := uo38 e h; have := uo40 e h; have := uo48 e h; have := uo50 e; omega)⟩,
 fun f16 => have p16 := ob_rF (uo32 e) f16; (by have := uo28 e h; have := uo29 e h; have := uo30 e h; have := uo37 e h; have := uo38 e h; have := uo40 e h; have := uo48 e h; have := uo50 e; omega)⟩,
 fun f15 => have p15 := ob_rF (uo31 e) f15; (by have := uo28 e h; have := uo29 e h; have := uo37 e h; have := uo38 e h; have := uo40 e h; have := uo48 e h; have := uo50 e; omega)⟩⟩⟩⟩⟩,
 fun f10 => ⟨fun f11 => ⟨fun f12 => have p12 := ob_rT (uo170 e) f12; (by have := uo29 e h; omega),
 fun f12 => have p12 := ob_rF (uo170 e) f12; ⟨fun f13 => have p13 := ob_rT (uo171 e) f13; (by have := uo29 e h; have := uo37 e h; have := uo40 e h; omega),
 fun f13 => have p13 := ob_rF (uo171 e) f13; (by have := uo29 e h; have := uo37 e h; have := uo40 e h; have := uo78 e; have r : τ.ival 0 + 1 = τ.ival 78 ∧ τ.ival 0 < τ.ival 1 ∧ (0 : Int) ≤ τ.ival 2 ∧ τ.ival 2 ≤ τ.ival 8 ∧ ¬ (3 : Int) = 0 ∧ (τ.ival 29 : Int) = τ.ival 2 := (by refine ⟨?_, ?_, ?_, ?_, ?_, ?_⟩ <;> omega); exact And.intro (And.intro (congrArg (AVal.int .i64) r.2.2.2.2.2) trivial) (nextJ hX he hix h (insOk_kt (X := wrB0X) e hi wrB0_kt (by kernel_rfl)) ⟨rfl, rfl⟩ r.1 r.2.1 r.2.2.1 r.2.2.2.1 (fun _ => r.2.2.2.2.1) (base8 e)))⟩⟩,
 fun f11 => ⟨fun f12 => ⟨fun f13 => have p13 := ob_rT (uo170 e) f13; (by have := uo29 e h; omega),
 fun f13 => have p13 := ob_rF (uo170 e) f13; ⟨fun f14 => have p14 := ob_rT (uo171 e) f14; (by have := uo29 e h; have := uo37 e h; have := uo40 e h; omega),
 fun f14 => have p14 := ob_rF (uo171 e) f14; (by have := uo29 e h; have := uo37 e h; have := uo40 e h; have := uo78 e; have r : τ.ival 0 + 1 = τ.ival 78 ∧ τ.ival 0 < τ.ival 1 ∧ (0 : Int) ≤ τ.ival 2 ∧ τ.ival 2 ≤ τ.ival 8 ∧ ¬ (5 : Int) = 0 ∧ (τ.ival 29 : Int) = τ.ival 2 := (by refine ⟨?_, ?_, ?_, ?_, ?_, ?_⟩ <;> omega); exact And.intro (And.intro (congrArg (AVal.int .i64) r.2.2.2.2.2) trivial) (nextJ hX he hix h (insOk_kt (X := wrB0X) e hi wrB0_kt (by kernel_rfl)) ⟨rfl, rfl⟩ r.1 r.2.1 r.2.2.1 r.2.2.2.1 (fun _ => r.2.2.2.2.1) (base8 e)))⟩⟩,
 fun f12 => (by omega)⟩⟩⟩
set_option maxHeartbeats 0 in
theorem uc4 {W : World} {v1 : Value} {X : Fz} {O : Obj} {k : Nat} {τ : Sig} (hX : RowV W wrC2 v1 X) (hC : Stage Tryd.prog wnTab 76 W (WZ W) ((flatC (bodyOf Tryd.f5)).drop 5) wrSe 0 [] (fun σ => σ.ext = EE X O)) (e : Eqs τ 8 wrB0G) (ht : τ.tab = wnTab) (hi : InsOk τ 8 wrKe) (he : RowE (EE X O) X τ) (hix : ((X.len : Int) - τ.ival 0).toNat = k) (h : Cx false τ) (f0 : τ.bval 9 = true) (f1 : τ.bval 10 = true) (f2 : τ.bval 11 = true) (f3 : τ.bval 14 = true) (f4 : τ.bval 12 = true) (f5 : τ.bval 13 = true) (f6 : τ.bval 16 = false) (f7 : τ.bval 17 = false) (f8 : τ.bval 18 = false) (f9 : τ.bval 19 = false) (f10 : τ.bval 20 = true) : segsPw τ (EndZ wnTab 76 W (LZ W X O k)) (.pick 24 0 (.node 49 (.run wrB0V14) (.node 51 (.run wrB0V15) (.node 39 (.node 41 (.run wrB0V16) .dead) (.node 41 .dead (.node 31 (.node 32 (.node 33 (.node 35 (.node 36 (.run wrB0V17) .dead) .dead) .dead) .dead) .dead))))) (.pick 24 3 (.run wrB0V18) (.pick 24 5 (.run wrB0V19) .dead))) := by
  have hE : τ.ext = EE X O := he.ext
  have b := wrB0_base e h
  have p0 := ob_rT (uo9 e) f0
  have p1 := ob_rT (uo10 e) f1
  have p2 := ob_rT (uo11 e) f2
  have p3 := ob_rT (uo14 e) f3
  have p4 := ob_rT (uo12 e) f4
  have p5 := ob_rT (uo13 e) f5
  have p6 := ob_rF (uo16 e) f6
  have p7 := ob_rF (uo17 e) f7
  have p8 := ob_rF (uo18 e) f8
  have p9 := ob_rF (uo19 e) f9
  have p10 := ob_rT (uo20 e) f10
  exact ⟨fun f11 => ⟨fun f12 => have p12 := ob_rT (uo49 e) f12; (by have := uo48 e h; have := uo78 e; have r : τ.ival 0 + 1 = τ.ival 78 ∧ τ.ival 0 < τ.ival 1 ∧ (0 : Int) ≤ τ.ival 2 ∧ τ.ival 2 ≤ τ.ival 8 ∧ ¬ (4 : Int) = 0 := (by refine ⟨?_, ?_, ?_, ?_, ?_⟩ <;> omega); exact nextJ hX he hix h (insOk_kt (X := wrB0X) e hi wrB0_kt (by kernel_rfl)) ⟨rfl, rfl⟩ r.1 r.2.1 r.2.2.1 r.2.2.2.1 (fun _ => r.2.2.2.2) (base8 e)),
 fun f12 => have p12 := ob_rF (uo49 e) f12; ⟨fun f13 => have p13 := ob_rT (uo51 e) f13; (by have := uo48 e h; have := uo50 e; have := uo78 e; have r : τ.ival 0 + 1 = τ.ival 78 ∧ τ.ival 0 < τ.ival 1 ∧ (0 : Int) ≤ τ.ival 2 ∧ τ.ival 2 ≤ τ.ival 8 ∧ ¬ (4 : Int) = 0 := (by refine ⟨?_, ?_, ?_, ?_, ?_⟩ <;> omega); exact nextJ hX he hix h (insOk_kt (X := wrB0X) e hi wrB0_kt (by kernel_rfl)) ⟨rfl, rfl⟩ r.1 r.2.1 r.2.2.1 r.2.2.2.1 (fun _ => r.2.2.2.2) (base8 e)),
 fun f13 => have p13 := ob_rF (uo51 e) f13; ⟨fun f14 => have p14 := ob_rT (uo39 e) f14; ⟨fun f15 => have p15 := ob_rT (uo41 e) f15; (by have := uo28 e h; have := uo29 e h; have := uo37 e h; have := uo38 e h; have := uo40 e h; have := uo48 e h; have := uo50 e; have := uo78 e; have r : τ.ival 0 + 1 = τ.ival 78 ∧ τ.ival 0 < τ.ival 1 ∧ (0 : Int) ≤ τ.ival 2 ∧ τ.ival 2 ≤ τ.ival 8 ∧ ¬ (3 : Int) = 0 := (by refine ⟨?_, ?_, ?_, ?_, ?_⟩ <;> omega); exact nextJ hX he hix h (insOk_kt (X := wrB0X) e hi wrB0_kt (by kernel_rfl)) ⟨rfl, rfl⟩ r.1 r.2.1 r.2.2.1 r.2.2.2.1 (fun _ => r.2.2.2.2) (base8 e)),
 fun f15 => have p15 := ob_rF (uo41 e) f15; (by have := uo28 e h; have := uo29 e h; have := uo37 e h; have := uo38 e h; have := uo40 e h; have := uo48 e h; have := uo50 e; omega)⟩,
 fun f14 => have p14 := ob_rF (uo39 e) f14; ⟨fun f15 => have p15 := ob_rT (uo41 e) f15; (by have := uo28 e h; have := uo29 e h; have := uo37 e h; have := uo38 e h; have := uo40 e h; have := uo48 e h; have := uo50 e; omega),
 fun f15 => have p15 := ob_rF (uo41 e) f15; ⟨fun f16 => have p16 := ob_rT (uo31 e) f16; ⟨fun f17 => have p17 := ob_rT (uo32 e) f17; ⟨fun f18 => have p18 := ob_rT (uo33 e) f18; ⟨fun f19 => have p19 := ob_rT (uo35 e) f19; ⟨fun f20 => have p20 := ob_rT (uo36 e) f20; ⟨fun f21 => have q21 := uo154 e; have t21 := ob_T f21; (by have := uo28 e h; have := uo29 e h; have := uo30 e h; have := uo34 e h; have := uo37 e h; have := uo38 e h; have := uo40 e h; have := uo48 e h; have := uo50 e; have := uo153 e h; have := uo154 e; omega),
 fun f21 => have q21 := uo154 e; have t21 := ob_F f21; ⟨fun f22 => have p22 := ob_rT (uo155 e) f22; (by have := uo28 e h; have := uo29 e h; have := uo30 e h; have := uo34 e h; have := uo37 e h; have := uo38 e h; have := uo40 e h; have := uo48 e h; have := uo50 e; have := uo150 e h; have := uo151 e h; omega),
 fun f22 => have p22 := ob_rF (uo155 e) f22; ⟨fun f23 => have p23 := ob_rT (uo158 e) f23; (by have := uo28 e h; have := uo29 e h; have := uo30 e h; have := uo34 e h; have := uo37 e h; have := uo38 e h; have := uo40 e h; have := uo48 e h; have := uo50 e; have := uo150 e h; have := uo151 e h; have := uo156 e h; have := uo157 e h; omega),
 fun f23 => have p23 := ob_rF (uo158 e) f23; ⟨fun f24 => have p24 := ob_rT (uo159 e) f24; ⟨fun f25 => have q25 := uo168 e; have t25 := ob_T f25; (by have := uo28 e h; have := uo29 e h; have := uo30 e h; have := uo34 e h; have := uo37 e h; have := uo38 e h; have := uo40 e h; have := uo48 e h; have := uo50 e; have := uo150 e h; have := uo151 e h; have := uo156 e h; have := uo157 e h; have := uo160 e; have := uo161 e; have := uo162 e; have := uo163 e; have := uo164 e; have := uo165 e; have := uo166 e; have := uo167 e; have := uo168 e; omega),
 fun f25 => have q25 := uo168 e; have t25 := ob_F f25; (by have := uo28 e h; have := uo29 e h; have := uo30 e h; have := uo34 e h; have := uo37 e h; have := uo38 e h; have := uo40 e h; have := uo48 e h; have := uo50 e; have := uo78 e; have := uo150 e h; have := uo151 e h; have := uo156 e h; have := uo157 e h; have r : τ.ival 0 + 1 = τ.ival 78 ∧ τ.ival 0 < τ.ival 1 ∧ (0 : Int) ≤ τ.ival 151 ∧ τ.ival 151 ≤ τ.ival 8 ∧ (τ.ival 30 : Int) = τ.ival 151 := (by refine ⟨?_, ?_, ?_, ?_, ?_⟩ <;> omega); exact And.intro (And.intro (congrArg (AVal.int .i64) r.2.2.2.2) trivial) (nextJ hX he hix h (insOk_kt (X := wrB0X) e hi wrB0_kt (by kernel_rfl)) ⟨rfl, rfl⟩ r.1 r.2.1 r.2.2.1 r.2.2.2.1 (fun hb => by cases hb) (base8 e)))⟩,
 fun f24 => have p24 := ob_rF (uo159 e) f24; ⟨fun f25 => have q25 := uo169 e; have t25 := ob_T f25; (by have := uo28 e h; have := uo29 e h; have := uo30 e h; have := uo34 e h; have := uo37 e h; have := uo38 e h; have := uo40 e h; have := uo48 e h; have := uo50 e; have := uo150 e h; have := uo151 e h; have := uo156 e h; have := uo157 e h; have := uo160 e; have := uo161 e; have := uo163 e; have := uo169 e; omega),
 fun f25 => have q25 := uo169 e; have t25 := ob_F f25; (by have := uo28 e h; have := uo29 e h; have := uo30 e h; have := uo34 e h; have := uo37 e h; have := uo38 e h; have := uo40 e h; have := uo48 e h; have := uo50 e; have := uo78 e; have := uo150 e h; have := uo151 e h; have := uo156 e h; have := uo157 e h; have r : τ.ival 0 + 1 = τ.ival 78 ∧ τ.ival 0 < τ.ival 1 ∧ (0 : Int) ≤ τ.ival 151 ∧ τ.ival 151 ≤ τ.ival 8 ∧ (τ.ival 30 : Int) = τ.ival 151 := (by refine ⟨?_, ?_, ?_, ?_, ?_⟩ <;> omega); exact And.intro (And.intro (congrArg (AVal.int .i64) r.2.2.2.2) trivial) (nextJ hX he hix h (insOk_kt (X := wrB0X) e hi wrB0_kt (by kernel_rfl)) ⟨rfl, rfl⟩ r.1 r.2.1 r.2.2.1 r.2.2.2.1 (fun hb => by cases hb) (base8 e)))⟩⟩⟩⟩⟩,
 fun f20 => have p20 := ob_rF (uo36 e) f20; (by have := uo28 e h; have := uo29 e h; have := uo30 e h; have := uo34 e h; have := uo37 e h; have := uo38 e h; have := uo40 e h; have := uo48 e h; have := uo50 e; omega)⟩,
 fun f19 => have p19 := ob_rF (uo35 e) f19; (by have := uo28 e h; have := uo29 e h; have := uo30 e h; have := uo34 e h; have := uo37 e h; have := uo38 e h; have := uo40 e h; have := uo48 e h; have := uo50 e; omega)⟩,
 fun f18 => have p18 := ob_rF (uo33 e) f18; (by have := uo28 e h; have := uo29 e h; have := uo30 e h; have := uo37 e h; have := uo38 e h; have := uo40 e h; have := uo48 e h; have := uo50 e; omega)⟩,
 fun f17 => have p17 := ob_rF (uo32 e) f17; (by have := uo28 e h; have := uo29 e h; have := uo30 e h; have := uo37 e h; have := uo38 e h; have := uo40 e h; have := uo48 e h; have := uo50 e; omega)⟩,
 fun f16 => have p16 := ob_rF (uo31 e) f16; (by have := uo28 e h; have := uo29 e h; have := uo37 e h; have := uo38 e h; have := uo40 e h; have := uo48 e h; have := uo50 e; omega)⟩⟩⟩⟩⟩,
 fun f11 => ⟨fun f12 => ⟨fun f13 => have p13 := ob_rT (uo170 e) f13; (by have := uo29 e h; omega),
 fun f13 => have p13 := ob_rF (uo170 e) f13; ⟨fun f14 => have p14 := ob_rT (uo171 e) f14; (by have := uo29 e h; have := uo37 e h; have := uo40 e h; omega),
 fun f14 => have p14 := ob_rF (uo171 e) f14; (by have := uo29 e h; have := uo37 e h; have := uo40 e h; have := uo78 e; have r : τ.ival 0 + 1 = τ.ival 78 ∧ τ.ival 0 < τ.ival 1 ∧ (0 : Int) ≤ τ.ival 2 ∧ τ.ival 2 ≤ τ.ival 8 ∧ ¬ (3 : Int) = 0 ∧ (τ.ival 29 : Int) = τ.ival 2 := (by refine ⟨?_, ?_, ?_, ?_, ?_, ?_⟩ <;> omega); exact And.intro (And.intro (congrArg (AVal.int .i64) r.2.2.2.2.2) trivial) (nextJ hX he hix h (insOk_kt (X := wrB0X) e hi wrB0_kt (by kernel_rfl)) ⟨rfl, rfl⟩ r.1 r.2.1 r.2.2.1 r.2.2.2.1 (fun _ => r.2.2.2.2.1) (base8 e)))⟩⟩,
 fun f12 => ⟨fun f13 => ⟨fun f14 => have p14 := ob_rT (uo170 e) f14; (by have := uo29 e h; omega),
 fun f14 => have p14 := ob_rF (uo170 e) f14; ⟨fun f15 => have p15 := ob_rT (uo171 e) f15; (by have := uo29 e h; have := uo37 e h; have := uo40 e h; omega),
 fun f15 => have p15 := ob_rF (uo171 e) f15; (by have := uo29 e h; have := uo37 e h; have := uo40 e h; have := uo78 e; have r : τ.ival 0 + 1 = τ.ival 78 ∧ τ.ival 0 < τ.ival 1 ∧ (0 : Int) ≤ τ.ival 2 ∧ τ.ival 2 ≤ τ.ival 8 ∧ ¬ (5 : Int) = 0 ∧ (τ.ival 29 : Int) = τ.ival 2 := (by refine ⟨?_, ?_, ?_, ?_, ?_, ?_⟩ <;> omega); exact And.intro (And.intro (congrArg (AVal.int .i64) r.2.2.2.2.2) trivial) (nextJ hX he hix h (insOk_kt (X := wrB0X) e hi wrB0_kt (by kernel_rfl)) ⟨rfl, rfl⟩ r.1 r.2.1 r.2.2.1 r.2.2.2.1 (fun _ => r.2.2.2.2.1) (base8 e)))⟩⟩,
 fun f13 => (by omega)⟩⟩⟩
set_option maxHeartbeats 0 in
theorem uc5 {W : World} {v1 : Value} {X : Fz} {O : Obj} {k : Nat} {τ : Sig} (hX : RowV W wrC2 v1 X) (hC : Stage Tryd.prog wnTab 76 W (WZ W) ((flatC (bodyOf Tryd.f5)).drop 5) wrSe 0 [] (fun σ => σ.ext = EE X O)) (e : Eqs τ 8 wrB0G) (ht : τ.tab = wnTab) (hi : InsOk τ 8 wrKe) (he : RowE (EE X O) X τ) (hix : ((X.len : Int) - τ.ival 0).toNat = k) (h : Cx false τ) (f0 : τ.bval 9 = true) (f1 : τ.bval 10 = true) (f2 : τ.bval 11 = true) (f3 : τ.bval 14 = true) (f4 : τ.bval 12 = true) (f5 : τ.bval 13 = true) (f6 : τ.bval 16 = false) (f7 : τ.bval 17 = false) (f8 : τ.bval 18 = false) (f9 : τ.bval 19 = false) (f10 : τ.bval 20 = false) (f11 : τ.bval 21 = true) : segsPw τ (EndZ wnTab 76 W (LZ W X O k)) (.pick 24 0 (.node 49 (.run wrB0V20) (.node 51 (.run wrB0V21) (.run wrB0V22))) (.pick 24 3 (.run wrB0V23) (.pick 24 5 (.run wrB0V24) .dead))) := by
  have hE : τ.ext = EE X O := he.ext
  have b := wrB0_base e h
  have p0 := ob_rT (uo9 e) f0
  have p1 := ob_rT (uo10 e) f1
  have p2 := ob_rT (uo11 e) f2
  have p3 := ob_rT (uo14 e) f3
  have p4 := ob_rT (uo12 e) f4
  have p5 := ob_rT (uo13 e) f5
  have p6 := ob_rF (uo16 e) f6
  have p7 := ob_rF (uo17 e) f7
  have p8 := ob_rF (uo18 e) f8
  have p9 := ob_rF (uo19 e) f9
  have p10 := ob_rF (uo20 e) f10
  have p11 := ob_rT (uo21 e) f11
  exact ⟨fun f12 => ⟨fun f13 => have p13 := ob_rT (uo49 e) f13; ⟨fun f14 => have p14 := ob_rT (uo173 e) f14; (by have := uo48 e h; have := uo172 e h; omega),
 fun f14 => have p14 := ob_rF (uo173 e) f14; ⟨fun f15 => have p15 := ob_rT (uo175 e) f15; (by have := uo37 e h; have := uo48 e h; have := uo172 e h; have := uo174 e h; omega),
 fun f15 => have p15 := ob_rF (uo175 e) f15; (by have := uo37 e h; have := uo48 e h; have := uo78 e; have := uo172 e h; have := uo174 e h; have r : τ.ival 0 + 1 = τ.ival 78 ∧ τ.ival 0 < τ.ival 1 ∧ (0 : Int) ≤ τ.ival 172 ∧ τ.ival 172 ≤ τ.ival 8 ∧ ¬ (4 : Int) = 0 ∧ (τ.ival 2 : Int) = τ.ival 172 := (by refine ⟨?_, ?_, ?_, ?_, ?_, ?_⟩ <;> omega); exact And.intro (And.intro (congrArg (AVal.int .i64) r.2.2.2.2.2) trivial) (nextJ hX he hix h (insOk_kt (X := wrB0X) e hi wrB0_kt (by kernel_rfl)) ⟨rfl, rfl⟩ r.1 r.2.1 r.2.2.1 r.2.2.2.1 (fun _ => r.2.2.2.2.1) (base8 e)))⟩⟩,
 fun f13 => have p13 := ob_rF (uo49 e) f13; ⟨fun f14 => have p14 := ob_rT (uo51 e) f14; ⟨fun f15 => have p15 := ob_rT (uo173 e) f15; (by have := uo48 e h; have := uo50 e; have := uo172 e h; omega),
 fun f15 => have p15 := ob_rF (uo173 e) f15; ⟨fun f16 => have p16 := ob_rT (uo175 e) f16; (by have := uo37 e h; have := uo48 e h; have := uo50 e; have := uo172 e h; have := uo174 e h; omega),
 fun f16 => have p16 := ob_rF (uo175 e) f16; (by have := uo37 e h; have := uo48 e h; have := uo50 e; have := uo78 e; have := uo172 e h; have := uo174 e h; have r : τ.ival 0 + 1 = τ.ival 78 ∧ τ.ival 0 < τ.ival 1 ∧ (0 : Int) ≤ τ.ival 172 ∧ τ.ival 172 ≤ τ.ival 8 ∧ ¬ (4 : Int) = 0 ∧ (τ.ival 2 : Int) = τ.ival 172 := (by refine ⟨?_, ?_, ?_, ?_, ?_, ?_⟩ <;> omega); exact And.intro (And.intro (congrArg (AVal.int .i64) r.2.2.2.2.2) trivial) (nextJ hX he hix h (insOk_kt (X := wrB0X) e hi wrB0_kt (by kernel_rfl)) ⟨rfl, rfl⟩ r.1 r.2.1 r.2.2.1 r.2.2.2.1 (fun _ => r.2.2.2.2.1) (base8 e)))⟩⟩,
 fun f14 => have p14 := ob_rF (uo51 e) f14; ⟨fun f15 => have p15 := ob_rT (uo67 e) f15; ⟨fun f16 => have q16 := uo76 e; have t16 := ob_T f16; (by have := uo29 e h; have := uo40 e h; have := uo48 e h; have := uo50 e; have := uo68 e; have := uo69 e; have := uo70 e; have := uo71 e; have := uo72 e; have := uo73 e; have := uo74 e; have := uo75 e; have := uo76 e; omega),
 fun f16 => have q16 := uo76 e; have t16 := ob_F f16; (by have := uo29 e h; have := uo40 e h; have := uo48 e h; have := uo50 e; have := uo78 e; have r : τ.ival 0 + 1 = τ.ival 78 ∧ τ.ival 0 < τ.ival 1 ∧ (0 : Int) ≤ τ.ival 29 ∧ τ.ival 29 ≤ τ.ival 8 := (by refine ⟨?_, ?_, ?_, ?_⟩ <;> omega); exact nextJ hX he hix h (insOk_kt (X := wrB0X) e hi wrB0_kt (by kernel_rfl)) ⟨rfl, rfl⟩ r.1 r.2.1 r.2.2.1 r.2.2.2 (fun hb => by cases hb) (base8 e))⟩,
 fun f15 => have p15 := ob_rF (uo67 e) f15; ⟨fun f16 => have q16 := uo77 e; have t16 := ob_T f16; (by have := uo29 e h; have := uo40 e h; have := uo48 e h; have := uo50 e; have := uo68 e; have := uo69 e; have := uo71 e; have := uo77 e; omega),
 fun f16 => have q16 := uo77 e; have t16 := ob_F f16; (by have := uo29 e h; have := uo40 e h; have := uo48 e h; have := uo50 e; have := uo78 e; have r : τ.ival 0 + 1 = τ.ival 78 ∧ τ.ival 0 < τ.ival 1 ∧ (0 : Int) ≤ τ.ival 29 ∧ τ.ival 29 ≤ τ.ival 8 := (by refine ⟨?_, ?_, ?_, ?_⟩ <;> omega); exact nextJ hX he hix h (insOk_kt (X := wrB0X) e hi wrB0_kt (by kernel_rfl)) ⟨rfl, rfl⟩ r.1 r.2.1 r.2.2.1 r.2.2.2 (fun hb => by cases hb) (base8 e))⟩⟩⟩⟩,
 fun f12 => ⟨fun f13 => ⟨fun f14 => have q14 := uo177 e; have t14 := ob_T f14; (by have := uo28 e h; have := uo176 e; have := uo177 e; omega),
 fun f14 => have q14 := uo177 e; have t14 := ob_F f14; ⟨fun f15 => have p15 := ob_rT (uo178 e) f15; (by have := uo29 e h; have := uo172 e h; omega),
 fun f15 => have p15 := ob_rF (uo178 e) f15; ⟨fun f16 => have p16 := ob_rT (uo179 e) f16; (by have := uo29 e h; have := uo40 e h; have := uo172 e h; have := uo174 e h; omega),
 fun f16 => have p16 := ob_rF (uo179 e) f16; (by have := uo29 e h; have := uo40 e h; have := uo78 e; have := uo172 e h; have := uo174 e h; have r : τ.ival 0 + 1 = τ.ival 78 ∧ τ.ival 0 < τ.ival 1 ∧ (0 : Int) ≤ τ.ival 172 ∧ τ.ival 172 ≤ τ.ival 8 ∧ ¬ (3 : Int) = 0 ∧ (τ.ival 29 : Int) = τ.ival 172 := (by refine ⟨?_, ?_, ?_, ?_, ?_, ?_⟩ <;> omega); exact And.intro (And.intro (congrArg (AVal.int .i64) r.2.2.2.2.2) trivial) (nextJ hX he hix h (insOk_kt (X := wrB0X) e hi wrB0_kt (by kernel_rfl)) ⟨rfl, rfl⟩ r.1 r.2.1 r.2.2.1 r.2.2.2.1 (fun _ => r.2.2.2.2.1) (base8 e)))⟩⟩⟩,
 fun f13 => ⟨fun f14 => ⟨fun f15 => have q15 := uo177 e; have t15 := ob_T f15; (by have := uo28 e h; have := uo176 e; have := uo177 e; omega),
 fun f15 => have q15 := uo177 e; have t15 := ob_F f15; ⟨fun f16 => have p16 := ob_rT (uo178 e) f16; (by have := uo29 e h; have := uo172 e h; omega),
 fun f16 => have p16 := ob_rF (uo178 e) f16; ⟨fun f17 => have p17 := ob_rT (uo179 e) f17; (by have := uo29 e h; have := uo40 e h; have := uo172 e h; have := uo174 e h; omega),
 fun f17 => have p17 := ob_rF (uo179 e) f17; (by have := uo29 e h; have := uo40 e h; have := uo78 e; have := uo172 e h; have := uo174 e h; have r : τ.ival 0 + 1 = τ.ival 78 ∧ τ.ival 0 < τ.ival 1 ∧ (0 : Int) ≤ τ.ival 172 ∧ τ.ival 172 ≤ τ.ival 8 ∧ ¬ (5 : Int) = 0 ∧ (τ.ival 29 : Int) = τ.ival 172 := (by refine ⟨?_, ?_, ?_, ?_, ?_, ?_⟩ <;> omega); exact And.intro (And.intro (congrArg (AVal.int .i64) r.2.2.2.2.2) trivial) (nextJ hX he hix h (insOk_kt (X := wrB0X) e hi wrB0_kt (by kernel_rfl)) ⟨rfl, rfl⟩ r.1 r.2.1 r.2.2.1 r.2.2.2.1 (fun _ => r.2.2.2.2.1) (base8 e)))⟩⟩⟩,
 fun f14 => (by omega)⟩⟩⟩
set_option maxHeartbeats 0 in
theorem uc6 {W : World} {v1 : Value} {X : Fz} {O : Obj} {k : Nat} {τ : Sig} (hX : RowV W wrC2 v1 X) (hC : Stage Tryd.prog wnTab 76 W (WZ W) ((flatC (bodyOf Tryd.f5)).drop 5) wrSe 0 [] (fun σ => σ.ext = EE X O)) (e : Eqs τ 8 wrB0G) (ht : τ.tab = wnTab) (hi : InsOk τ 8 wrKe) (he : RowE (EE X O) X τ) (hix : ((X.len : Int) - τ.ival 0).toNat = k) (h : Cx false τ) (f0 : τ.bval 9 = true) (f1 : τ.bval 10 = true) (f2 : τ.bval 11 = true) (f3 : τ.bval 14 = true) (f4 : τ.bval 12 = true) (f5 : τ.bval 13 = true) (f6 : τ.bval 16 = false) (f7 : τ.bval 17 = false) (f8 : τ.bval 18 = false) (f9 : τ.bval 19 = false) (f10 : τ.bval 20 = false) (f11 : τ.bval 21 = false) (f12 : τ.bval 22 = true) : segsPw τ (EndZ wnTab 76 W (LZ W X O k)) (.pick 24 0 (.node 49 (.run wrB0V25) (.node 51 (.run wrB0V26) (.run wrB0V27))) (.pick 24 3 (.run wrB0V28) (.pick 24 5 (.run wrB0V29) .dead))) := by
  have hE : τ.ext = EE X O := he.ext
  have b := wrB0_base e h
  have p0 := ob_rT (uo9 e) f0
  have p1 := ob_rT (uo10 e) f1
  have p2 := ob_rT (uo11 e) f2
  have p3 := ob_rT (uo14 e) f3
  have p4 := ob_rT (uo12 e) f4
  have p5 := ob_rT (uo13 e) f5
  have p6 := ob_rF (uo16 e) f6
  have p7 := ob_rF (uo17 e) f7
  have p8 := ob_rF (uo18 e) f8
  have p9 := ob_rF (uo19 e) f9
  have p10 := ob_rF (uo20 e) f10
  have p11 := ob_rF (uo21 e) f11
  have p12 := ob_rT (uo22 e) f12
  exact ⟨fun f13 => ⟨fun f14 => have p14 := ob_rT (uo49 e) f14; ⟨fun f15 => have p15 := ob_rT (uo173 e) f15; (by have := uo48 e h; have := uo172 e h; omega),
 fun f15 => have p15 := ob_rF (uo173 e) f15; ⟨fun f16 => have p16 := ob_rT (uo175 e) f16; (by have := uo37 e h; have := uo48 e h; have := uo172 e h; have := uo174 e h; omega),
 fun f16 => have p16 := ob_rF (uo175 e) f16; (by have := uo37 e h; have := uo48 e h; have := uo78 e; have := uo172 e h; have := uo174 e h; have r : τ.ival 0 + 1 = τ.ival 78 ∧ τ.ival 0 < τ.ival 1 ∧ (0 : Int) ≤ τ.ival 172 ∧ τ.ival 172 ≤ τ.ival 8 ∧ ¬ (4 : Int) = 0 ∧ (τ.ival 2 : Int) = τ.ival 172 := (by refine ⟨?_, ?_, ?_, ?_, ?_, ?_⟩ <;> omega); exact And.intro (And.intro (congrArg (AVal.int .i64) r.2.2.2.2.2) trivial) (nextJ hX he hix h (insOk_kt (X := wrB0X) e hi wrB0_kt (by kernel_rfl)) ⟨rfl, rfl⟩ r.1 r.2.1 r.2.2.1 r.2.2.2.1 (fun _ => r.2.2.2.2.1) (base8 e)))⟩⟩,
 fun f14 => have p14 := ob_rF (uo49 e) f14; ⟨fun f15 => have p15 := ob_rT (uo51 e) f15; ⟨fun f16 => have p16 := ob_rT (uo173 e) f16; (by have := uo48 e h; have := uo50 e; have := uo172 e h; omega),
 fun f16 => have p16 := ob_rF (uo173 e) f16; ⟨fun f17 => have p17 := ob_rT (uo175 e) f17; (by have := uo37 e h; have := uo48 e h; have := uo50 e; have := uo172 e h; have := uo174 e h; omega),
 fun f17 => have p17 := ob_rF (uo175 e) f17; (by have := uo37 e h; have := uo48 e h; have := uo50 e; have := uo78 e; have := uo172 e h; have := uo174 e h; have r : τ.ival 0 + 1 = τ.ival 78 ∧ τ.ival 0 < τ.ival 1 ∧ (0 : Int) ≤ τ.ival 172 ∧ τ.ival 172 ≤ τ.ival 8 ∧ ¬ (4 : Int) = 0 ∧ (τ.ival 2 : Int) = τ.ival 172 := (by refine ⟨?_, ?_, ?_, ?_, ?_, ?_⟩ <;> omega); exact And.intro (And.intro (congrArg (AVal.int .i64) r.2.2.2.2.2) trivial) (nextJ hX he hix h (insOk_kt (X := wrB0X) e hi wrB0_kt (by kernel_rfl)) ⟨rfl, rfl⟩ r.1 r.2.1 r.2.2.1 r.2.2.2.1 (fun _ => r.2.2.2.2.1) (base8 e)))⟩⟩,
 fun f15 => have p15 := ob_rF (uo51 e) f15; ⟨fun f16 => have p16 := ob_rT (uo67 e) f16; ⟨fun f17 => have q17 := uo76 e; have t17 := ob_T f17; (by have := uo29 e h; have := uo40 e h; have := uo48 e h; have := uo50 e; have := uo68 e; have := uo69 e; have := uo70 e; have := uo71 e; have := uo72 e; have := uo73 e; have := uo74 e; have := uo75 e; have := uo76 e; omega),
 fun f17 => have q17 := uo76 e; have t17 := ob_F f17; (by have := uo29 e h; have := uo40 e h; have := uo48 e h; have := uo50 e; have := uo78 e; have r : τ.ival 0 + 1 = τ.ival 78 ∧ τ.ival 0 < τ.ival 1 ∧ (0 : Int) ≤ τ.ival 29 ∧ τ.ival 29 ≤ τ.ival 8 := (by refine ⟨?_, ?_, ?_, ?_⟩ <;> omega); exact nextJ hX he hix h (insOk_kt (X := wrB0X) e hi wrB0_kt (by kernel_rfl)) ⟨rfl, rfl⟩ r.1 r.2.1 r.2.2.1 r.2.2.2 (fun hb => by cases hb) (base8 e))⟩,
 fun f16 => have p16 := ob_rF (uo67 e) f16; ⟨fun f17 => have q17 := uo77 e; have t17 := ob_T f17; (by have := uo29 e h; have := uo40 e h; have := uo48 e h; have := uo50 e; have := uo68 e; have := uo69 e; have := uo71 e; have := uo77 e; omega),
 fun f17 => have q17 := uo77 e; have t17 := ob_F f17; (by have := uo29 e h; have := uo40 e h; have := uo48 e h; have := uo50 e; have := uo78 e; have r : τ.ival 0 + 1 = τ.ival 78 ∧ τ.ival 0 < τ.ival 1 ∧ (0 : Int) ≤ τ.ival 29 ∧ τ.ival 29 ≤ τ.ival 8 := (by refine ⟨?_, ?_, ?_, ?_⟩ <;> omega); exact nextJ hX he hix h (insOk_kt (X := wrB0X) e hi wrB0_kt (by kernel_rfl)) ⟨rfl, rfl⟩ r.1 r.2.1 r.2.2.1 r.2.2.2 (fun hb => by cases hb) (base8 e))⟩⟩⟩⟩,
 fun f13 => ⟨fun f14 => ⟨fun f15 => have q15 := uo177 e; have t15 := ob_T f15; (by have := uo28 e h; have := uo176 e; have := uo177 e; omega),
 fun f15 => have q15 := uo177 e; have t15 := ob_F f15; ⟨fun f16 => have p16 := ob_rT (uo178 e) f16; (by have := uo29 e h; have := uo172 e h; omega),
 fun f16 => have p16 := ob_rF (uo178 e) f16; ⟨fun f17 => have p17 := ob_rT (uo179 e) f17; (by have := uo29 e h; have := uo40 e h; have := uo172 e h; have := uo174 e h; omega),
 fun f17 => have p17 := ob_rF (uo179 e) f17; (by have := uo29 e h; have := uo40 e h; have := uo78 e; have := uo172 e h; have := uo174 e h; have r : τ.ival 0 + 1 = τ.ival 78 ∧ τ.ival 0 < τ.ival 1 ∧ (0 : Int) ≤ τ.ival 172 ∧ τ.ival 172 ≤ τ.ival 8 ∧ ¬ (3 : Int) = 0 ∧ (τ.ival 29 : Int) = τ.ival 172 := (by refine ⟨?_, ?_, ?_, ?_, ?_, ?_⟩ <;> omega); exact And.intro (And.intro (congrArg (AVal.int .i64) r.2.2.2.2.2) trivial) (nextJ hX he hix h (insOk_kt (X := wrB0X) e hi wrB0_kt (by kernel_rfl)) ⟨rfl, rfl⟩ r.1 r.2.1 r.2.2.1 r.2.2.2.1 (fun _ => r.2.2.2.2.1) (base8 e)))⟩⟩⟩,
 fun f14 => ⟨fun f15 => ⟨fun f16 => have q16 := uo177 e; have t16 := ob_T f16; (by have := uo28 e h; have := uo176 e; have := uo177 e; omega),
 fun f16 => have q16 := uo177 e; have t16 := ob_F f16; ⟨fun f17 => have p17 := ob_rT (uo178 e) f17; (by have := uo29 e h; have := uo172 e h; omega),
 fun f17 => have p17 := ob_rF (uo178 e) f17; ⟨fun f18 => have p18 := ob_rT (uo179 e) f18; (by have := uo29 e h; have := uo40 e h; have := uo172 e h; have := uo174 e h; omega),
 fun f18 => have p18 := ob_rF (uo179 e) f18; (by have := uo29 e h; have := uo40 e h; have := uo78 e; have := uo172 e h; have := uo174 e h; have r : τ.ival 0 + 1 = τ.ival 78 ∧ τ.ival 0 < τ.ival 1 ∧ (0 : Int) ≤ τ.ival 172 ∧ τ.ival 172 ≤ τ.ival 8 ∧ ¬ (5 : Int) = 0 ∧ (τ.ival 29 : Int) = τ.ival 172 := (by refine ⟨?_, ?_, ?_, ?_, ?_, ?_⟩ <;> omega); exact And.intro (And.intro (congrArg (AVal.int .i64) r.2.2.2.2.2) trivial) (nextJ hX he hix h (insOk_kt (X := wrB0X) e hi wrB0_kt (by kernel_rfl)) ⟨rfl, rfl⟩ r.1 r.2.1 r.2.2.1 r.2.2.2.1 (fun _ => r.2.2.2.2.1) (base8 e)))⟩⟩⟩,
 fun f15 => (by omega)⟩⟩⟩
set_option maxHeartbeats 0 in
theorem uc7 {W : World} {v1 : Value} {X : Fz} {O : Obj} {k : Nat} {τ : Sig} (hX : RowV W wrC2 v1 X) (hC : Stage Tryd.prog wnTab 76 W (WZ W) ((flatC (bodyOf Tryd.f5)).drop 5) wrSe 0 [] (fun σ => σ.ext = EE X O)) (e : Eqs τ 8 wrB0G) (ht : τ.tab = wnTab) (hi : InsOk τ 8 wrKe) (he : RowE (EE X O) X τ) (hix : ((X.len : Int) - τ.ival 0).toNat = k) (h : Cx false τ) (f0 : τ.bval 9 = true) (f1 : τ.bval 10 = true) (f2 : τ.bval 11 = true) (f3 : τ.bval 14 = true) (f4 : τ.bval 12 = true) (f5 : τ.bval 13 = true) (f6 : τ.bval 16 = false) (f7 : τ.bval 17 = false) (f8 : τ.bval 18 = false) (f9 : τ.bval 19 = false) (f10 : τ.bval 20 = false) (f11 : τ.bval 21 = false) (f12 : τ.bval 22 = false) (f13 : τ.bval 23 = true) : segsPw τ (EndZ wnTab 76 W (LZ W X O k)) (.run wrB0V30) := by
  have hE : τ.ext = EE X O := he.ext
  have b := wrB0_base e h
  have p0 := ob_rT (uo9 e) f0
  have p1 := ob_rT (uo10 e) f1
  have p2 := ob_rT (uo11 e) f2
  have p3 := ob_rT (uo14 e) f3
  have p4 := ob_rT (uo12 e) f4
  have p5 := ob_rT (uo13 e) f5
  have p6 := ob_rF (uo16 e) f6
  have p7 := ob_rF (uo17 e) f7
  have p8 := ob_rF (uo18 e) f8
  have p9 := ob_rF (uo19 e) f9
  have p10 := ob_rF (uo20 e) f10
  have p11 := ob_rF (uo21 e) f11
  have p12 := ob_rF (uo22 e) f12
  have p13 := ob_rT (uo23 e) f13
  exact ⟨fun f14 => have p14 := ob_rT (uo182 e) f14; ⟨fun f15 => have q15 := uo186 e; have t15 := ob_T f15; (by have := uo180 e; have := uo181 e h; have := uo183 e; have := uo184 e; have := uo185 e; have := uo186 e; omega),
 fun f15 => have q15 := uo186 e; have t15 := ob_F f15; ⟨fun f16 => have q16 := uo196 e; have t16 := ob_T f16; (by have := uo25 e; have := uo48 e h; have := uo180 e; have := uo181 e h; have := uo183 e; have := uo187 e; have := uo188 e; have := uo189 e; have := uo190 e; have := uo191 e; have := uo192 e; have := uo193 e; have := uo194 e; have := uo195 e; have := uo196 e; omega),
 fun f16 => have q16 := uo196 e; have t16 := ob_F f16; (by have := uo78 e; have := uo180 e; have := uo181 e h; have r : τ.ival 0 + 1 = τ.ival 78 ∧ τ.ival 0 < τ.ival 1 ∧ (0 : Int) ≤ τ.ival 2 ∧ τ.ival 2 ≤ τ.ival 8 ∧ ¬ (τ.ival 181 : Int) = 0 := (by refine ⟨?_, ?_, ?_, ?_, ?_⟩ <;> omega); exact nextJ hX he hix h (insOk_kt (X := wrB0X) e hi wrB0_kt (by kernel_rfl)) ⟨rfl, rfl⟩ r.1 r.2.1 r.2.2.1 r.2.2.2.1 (fun _ => r.2.2.2.2) (base8 e))⟩⟩,
 fun f14 => have p14 := ob_rF (uo182 e) f14; ⟨fun f15 => have p15 := ob_rT (uo111 e) f15; ⟨fun f16 => have q16 := uo204 e; have t16 := ob_T f16; (by have := uo25 e; have := uo37 e h; have := uo180 e; have := uo181 e h; have := uo197 e; have := uo198 e; have := uo199 e; have := uo200 e; have := uo201 e; have := uo202 e; have := uo203 e; have := uo204 e; omega),
 fun f16 => have q16 := uo204 e; have t16 := ob_F f16; (by have := uo37 e h; have := uo78 e; have := uo180 e; have := uo181 e h; have r : τ.ival 0 + 1 = τ.ival 78 ∧ τ.ival 0 < τ.ival 1 ∧ (0 : Int) ≤ τ.ival 2 ∧ τ.ival 2 ≤ τ.ival 8 := (by refine ⟨?_, ?_, ?_, ?_⟩ <;> omega); exact nextJ hX he hix h (insOk_kt (X := wrB0X) e hi wrB0_kt (by kernel_rfl)) ⟨rfl, rfl⟩ r.1 r.2.1 r.2.2.1 r.2.2.2 (fun hb => by cases hb) (base8 e))⟩,
 fun f15 => have p15 := ob_rF (uo111 e) f15; ⟨fun f16 => have q16 := uo205 e; have t16 := ob_T f16; (by have := uo25 e; have := uo37 e h; have := uo180 e; have := uo181 e h; have := uo197 e; have := uo199 e; have := uo205 e; omega),
 fun f16 => have q16 := uo205 e; have t16 := ob_F f16; (by have := uo37 e h; have := uo78 e; have := uo180 e; have := uo181 e h; have r : τ.ival 0 + 1 = τ.ival 78 ∧ τ.ival 0 < τ.ival 1 ∧ (0 : Int) ≤ τ.ival 2 ∧ τ.ival 2 ≤ τ.ival 8 := (by refine ⟨?_, ?_, ?_, ?_⟩ <;> omega); exact nextJ hX he hix h (insOk_kt (X := wrB0X) e hi wrB0_kt (by kernel_rfl)) ⟨rfl, rfl⟩ r.1 r.2.1 r.2.2.1 r.2.2.2 (fun hb => by cases hb) (base8 e))⟩⟩⟩
set_option maxHeartbeats 0 in
theorem uc8 {W : World} {v1 : Value} {X : Fz} {O : Obj} {k : Nat} {τ : Sig} (hX : RowV W wrC2 v1 X) (hC : Stage Tryd.prog wnTab 76 W (WZ W) ((flatC (bodyOf Tryd.f5)).drop 5) wrSe 0 [] (fun σ => σ.ext = EE X O)) (e : Eqs τ 8 wrB0G) (ht : τ.tab = wnTab) (hi : InsOk τ 8 wrKe) (he : RowE (EE X O) X τ) (hix : ((X.len : Int) - τ.ival 0).toNat = k) (h : Cx false τ) (f0 : τ.bval 9 = true) (f1 : τ.bval 10 = true) (f2 : τ.bval 11 = true) (f3 : τ.bval 14 = true) (f4 : τ.bval 12 = true) (f5 : τ.bval 13 = true) (f6 : τ.bval 16 = false) (f7 : τ.bval 17 = false) (f8 : τ.bval 18 = false) (f9 : τ.bval 19 = false) (f10 : τ.bval 20 = false) (f11 : τ.bval 21 = false) (f12 : τ.bval 22 = false) (f13 : τ.bval 23 = false) : segsPw τ (EndZ wnTab 76 W (LZ W X O k)) (.pick 24 0 (.run wrB0V31) (.pick 24 3 (.run wrB0V32) (.pick 24 5 (.run wrB0V33) .dead))) := by
  have hE : τ.ext = EE X O := he.ext
  have b := wrB0_base e h
  have p0 := ob_rT (uo9 e) f0
  have p1 := ob_rT (uo10 e) f1
  have p2 := ob_rT (uo11 e) f2
  have p3 := ob_rT (uo14 e) f3
  have p4 := ob_rT (uo12 e) f4
  have p5 := ob_rT (uo13 e) f5
  have p6 := ob_rF (uo16 e) f6
  have p7 := ob_rF (uo17 e) f7
  have p8 := ob_rF (uo18 e) f8
  have p9 := ob_rF (uo19 e) f9
  have p10 := ob_rF (uo20 e) f10
  have p11 := ob_rF (uo21 e) f11
  have p12 := ob_rF (uo22 e) f12
  have p13 := ob_rF (uo23 e) f13
  exact ⟨fun f14 => ⟨fun f15 => have p15 := ob_rT (uo67 e) f15; ⟨fun f16 => have q16 := uo76 e; have t16 := ob_T f16; (by have := uo29 e h; have := uo40 e h; have := uo68 e; have := uo69 e; have := uo70 e; have := uo71 e; have := uo72 e; have := uo73 e; have := uo74 e; have := uo75 e; have := uo76 e; omega),
 fun f16 => have q16 := uo76 e; have t16 := ob_F f16; (by have := uo29 e h; have := uo40 e h; have := uo78 e; have r : τ.ival 0 + 1 = τ.ival 78 ∧ τ.ival 0 < τ.ival 1 ∧ (0 : Int) ≤ τ.ival 29 ∧ τ.ival 29 ≤ τ.ival 8 := (by refine ⟨?_, ?_, ?_, ?_⟩ <;> omega); exact nextJ hX he hix h (insOk_kt (X := wrB0X) e hi wrB0_kt (by kernel_rfl)) ⟨rfl, rfl⟩ r.1 r.2.1 r.2.2.1 r.2.2.2 (fun hb => by cases hb) (base8 e))⟩,
 fun f15 => have p15 := ob_rF (uo67 e) f15; ⟨fun f16 => have q16 := uo77 e; have t16 := ob_T f16; (by have := uo29 e h; have := uo40 e h; have := uo68 e; have := uo69 e; have := uo71 e; have := uo77 e; omega),
 fun f16 => have q16 := uo77 e; have t16 := ob_F f16; (by have := uo29 e h; have := uo40 e h; have := uo78 e; have r : τ.ival 0 + 1 = τ.ival 78 ∧ τ.ival 0 < τ.ival 1 ∧ (0 : Int) ≤ τ.ival 29 ∧ τ.ival 29 ≤ τ.ival 8 := (by refine ⟨?_, ?_, ?_, ?_⟩ <;> omega); exact nextJ hX he hix h (insOk_kt (X := wrB0X) e hi wrB0_kt (by kernel_rfl)) ⟨rfl, rfl⟩ r.1 r.2.1 r.2.2.1 r.2.2.2 (fun hb => by cases hb) (base8 e))⟩⟩,
 fun f14 => ⟨fun f15 => (by have := uo29 e h; have := uo78 e; have r : τ.ival 0 + 1 = τ.ival 78 ∧ τ.ival 0 < τ.ival 1 ∧ (0 : Int) ≤ τ.ival 29 ∧ τ.ival 29 ≤ τ.ival 8 ∧ ¬ (3 : Int) = 0 := (by refine ⟨?_, ?_, ?_, ?_, ?_⟩ <;> omega); exact nextJ hX he hix h (insOk_kt (X := wrB0X) e hi wrB0_kt (by kernel_rfl)) ⟨rfl, rfl⟩ r.1 r.2.1 r.2.2.1 r.2.2.2.1 (fun _ => r.2.2.2.2) (base8 e)),
 fun f15 => ⟨fun f16 => (by have := uo29 e h; have := uo78 e; have r : τ.ival 0 + 1 = τ.ival 78 ∧ τ.ival 0 < τ.ival 1 ∧ (0 : Int) ≤ τ.ival 29 ∧ τ.ival 29 ≤ τ.ival 8 ∧ ¬ (5 : Int) = 0 := (by refine ⟨?_, ?_, ?_, ?_, ?_⟩ <;> omega); exact nextJ hX he hix h (insOk_kt (X := wrB0X) e hi wrB0_kt (by kernel_rfl)) ⟨rfl, rfl⟩ r.1 r.2.1 r.2.2.1 r.2.2.2.1 (fun _ => r.2.2.2.2) (base8 e)),
 fun f16 => (by omega)⟩⟩⟩
set_option maxHeartbeats 0 in
theorem round0 {W : World} {v1 : Value} {X : Fz} {O : Obj} {k : Nat} (hX : RowV W wrC2 v1 X) (hC : Stage Tryd.prog wnTab 76 W (WZ W) ((flatC (bodyOf Tryd.f5)).drop 5) wrSe 0 [] (fun σ => σ.ext = EE X O)) (τ : Sig) (e : Eqs τ 8 wrB0G) (ht : τ.tab = wnTab) (hi : InsOk τ 8 wrKe) (he : RowE (EE X O) X τ) (hj : J false τ) (hix : ((X.len : Int) - τ.ival 0).toNat = k) :
    segsW τ (EndZ wnTab 76 W (LZ W X O k)) wrB0W [] := by
  have hE : τ.ext = EE X O := he.ext
  have hk := hi 7 .i16 (by decide) rfl
  rw [wr_i16] at hk
  have hl := hX.len
  have h : Cx false τ := ⟨hj, ht, he.lo, by rw [he.len]; exact he.hi, by rw [he.len]; exact hl, by omega, by omega⟩
  have b := wrB0_base e h
  refine segsPw_segs ?_
  exact ⟨fun f0 => have p0 := ob_rT (uo9 e) f0; ⟨fun f1 => have p1 := ob_rT (uo10 e) f1; ⟨fun f2 => have p2 := ob_rT (uo11 e) f2; ⟨fun f3 => have p3 := ob_rT (uo14 e) f3; ⟨fun f4 => have p4 := ob_rT (uo12 e) f4; ⟨fun f5 => have p5 := ob_rT (uo13 e) f5; ⟨fun f6 => have p6 := ob_rT (uo16 e) f6; (uc0 hX hC e ht hi he hix h f0 f1 f2 f3 f4 f5 f6),
 fun f6 => have p6 := ob_rF (uo16 e) f6; ⟨fun f7 => have p7 := ob_rT (uo17 e) f7; (uc1 hX hC e ht hi he hix h f0 f1 f2 f3 f4 f5 f6 f7),
 fun f7 => have p7 := ob_rF (uo17 e) f7; ⟨fun f8 => have p8 := ob_rT (uo18 e) f8; (uc2 hX hC e ht hi he hix h f0 f1 f2 f3 f4 f5 f6 f7 f8),
 fun f8 => have p8 := ob_rF (uo18 e) f8; ⟨fun f9 => have p9 := ob_rT (uo19 e) f9; (uc3 hX hC e ht hi he hix h f0 f1 f2 f3 f4 f5 f6 f7 f8 f9),
 fun f9 => have p9 := ob_rF (uo19 e) f9; ⟨fun f10 => have p10 := ob_rT (uo20 e) f10; (uc4 hX hC e ht hi he hix h f0 f1 f2 f3 f4 f5 f6 f7 f8 f9 f10),
 fun f10 => have p10 := ob_rF (uo20 e) f10; ⟨fun f11 => have p11 := ob_rT (uo21 e) f11; (uc5 hX hC e ht hi he hix h f0 f1 f2 f3 f4 f5 f6 f7 f8 f9 f10 f11),
 fun f11 => have p11 := ob_rF (uo21 e) f11; ⟨fun f12 => have p12 := ob_rT (uo22 e) f12; (uc6 hX hC e ht hi he hix h f0 f1 f2 f3 f4 f5 f6 f7 f8 f9 f10 f11 f12),
 fun f12 => have p12 := ob_rF (uo22 e) f12; ⟨fun f13 => have p13 := ob_rT (uo23 e) f13; (uc7 hX hC e ht hi he hix h f0 f1 f2 f3 f4 f5 f6 f7 f8 f9 f10 f11 f12 f13),
 fun f13 => have p13 := ob_rF (uo23 e) f13; (uc8 hX hC e ht hi he hix h f0 f1 f2 f3 f4 f5 f6 f7 f8 f9 f10 f11 f12 f13)⟩⟩⟩⟩⟩⟩⟩⟩,
 fun f5 => have p5 := ob_rF (uo13 e) f5; (by exact .out (by simp) (.blk hC (.inr rfl) (fun i k hi => absurd hi (Nat.not_lt_zero i)) hE ht))⟩,
 fun f4 => have p4 := ob_rF (uo12 e) f4; (by exact .out (by simp) (.blk hC (.inr rfl) (fun i k hi => absurd hi (Nat.not_lt_zero i)) hE ht))⟩,
 fun f3 => have p3 := ob_rF (uo14 e) f3; (by omega)⟩,
 fun f2 => have p2 := ob_rF (uo11 e) f2; (by omega)⟩,
 fun f1 => have p1 := ob_rF (uo10 e) f1; (by omega)⟩,
 fun f0 => have p0 := ob_rF (uo9 e) f0; (by omega)⟩
end Go.Proofs.YtapfkgenachpgaaDoor.wr
