/-
 A row of three bytes as a string; a player, stepped.
 No conditions.
-/
import Derived.Test.YtapfkgenachpgaaWh
namespace Go.Proofs.Ytapfkgenachpgaa.wc
open Go.Ev Go.RowKit Go.Wpl Go.Wt
set_option linter.unusedVariables false
set_option linter.unusedSimpArgs false
def conR (X : Fz) : Nat → ByteArray
 | 0 => .empty
 | n + 1 => conR X n ++ ⟨(rowB c3 [X.val n 0, X.val n 1, X.val n 2]).toArray⟩
theorem el3 {W : World} {v : Value} {X : Fz} (hX : RowV W d3 v X) {m : Nat} (hm : m < X.len) : ∃ a b c : Int, X.val m 0 = .int .u8 a ∧ X.val m 1 = .int .u8 b ∧ X.val m 2 = .int .u8 c ∧ IntKind.u8.wrap a = a ∧ IntKind.u8.wrap b = b ∧ IntKind.u8.wrap c = c := by
 obtain ⟨a, a1, a2⟩ := el_get (hX.els m hm) (j := 0) (z := .i .u8) rfl
 obtain ⟨b, b1, b2⟩ := el_get (hX.els m hm) (j := 1) (z := .i .u8) rfl
 obtain ⟨c, c1, c2⟩ := el_get (hX.els m hm) (j := 2) (z := .i .u8) rfl
 exact ⟨a, b, c, a2, b2, c2, a1, b1, c1⟩
theorem row3_ok {a b c : Int} (h1 : IntKind.u8.wrap a = a) (h2 : IntKind.u8.wrap b = b) (h3 : IntKind.u8.wrap c = c) : okCs (cx0 (fun _ _ => 0)) c3 [.int .u8 a, .int .u8 b, .int .u8 c] = true := by
 simp [okCs, okC, c3, h1, h2, h3]
theorem row3_len {W : World} {v : Value} {X : Fz} (hX : RowV W d3 v X) {m : Nat} (hm : m < X.len) : (rowB c3 [X.val m 0, X.val m 1, X.val m 2]).length = 3 := by
 obtain ⟨a, b, c, e1, e2, e3, h1, h2, h3⟩ := el3 hX hm
 rw [e1, e2, e3]
 exact rowB_len (σ := ⟨fun _ => 0, fun _ => false, fun _ => .empty, fun _ _ => 0, fun _ => none⟩) (row3_ok h1 h2 h3)
theorem conR_len {W : World} {v : Value} {X : Fz} (hX : RowV W d3 v X) : ∀ n, n ≤ X.len → (conR X n).data.toList.length = n * 3
 | 0, _ => rfl
 | n + 1, h => by
  have e : (conR X (n + 1)).data.toList = (conR X n).data.toList ++ rowB c3 [X.val n 0, X.val n 1, X.val n 2] := by simp [conR, ByteArray.data_append]
  rw [e, List.length_append, conR_len hX n (by omega), row3_len hX (by omega)]; omega
theorem rsz_c3 : rsz c3 = 3 := rfl
theorem conR_at {W : World} {v : Value} {X : Fz} (hX : RowV W d3 v X) : ∀ n, n ≤ X.len → ∀ m j, m < n → j < 3 → X.val m j = rowAtD c3 (conR X n) m j
 | 0, _, m, j, hm, _ => absurd hm (Nat.not_lt_zero m)
 | n + 1, h, m, j, hm, hj => by
  rw [conR, rowAtD_append (N := n) (by rw [rsz_c3]; exact conR_len hX n (by omega))]
  by_cases e : m < n
  ·rw [if_pos e]; exact conR_at hX n (by omega) m j e hj
  ·have : m = n := by omega
   subst this
   rw [if_neg e, Nat.sub_self]
   obtain ⟨a, b, c, e1, e2, e3, h1, h2, h3⟩ := el3 hX (show m < X.len by omega)
   have key := cellD_rowB (ng := cx0 (fun _ _ => 0)) (σ := ⟨fun _ => 0, fun _ => false, fun _ => .empty, fun _ _ => 0, fun _ => none⟩) (cx0_good rfl) [] (row3_ok h1 h2 h3)
   rw [List.append_nil] at key
   unfold rowAtD
   rw [Nat.zero_mul, List.drop_zero, e1, e2, e3]
   match j, hj with
   | 0, _ => rw [e1]; exact (key 0 _ rfl).symm
   | 1, _ => rw [e2]; exact (key 1 _ rfl).symm
   | 2, _ => rw [e3]; exact (key 2 _ rfl).symm
theorem conR_str {W : World} {v : Value} {X : Fz} (hX : RowV W d3 v X) {σ : Sig} {i : Nat} (h : σ.sval i = conR X X.len) : StrX σ (.syms i) c3 X :=
 ⟨hX.z.symm, conR X X.len, congrArg AVal.str h, conR_len hX _ (Nat.le_refl _), fun m j hm hj => conR_at hX _ (Nat.le_refl _) m j hm (by rw [hX.z] at hj; exact hj)⟩
structure LvOk (s : Lv) : Prop where
 v0 : IntKind.u8.wrap s.v0 = s.v0
 v1 : IntKind.u8.wrap s.v1 = s.v1
 v2 : IntKind.u8.wrap s.v2 = s.v2
 vc : IntKind.i64.wrap s.came = s.came
theorem LvOk.take {s : Lv} (h : LvOk s) {x : E3} (hx : okV x) : LvOk (s.take x) := by
 obtain ⟨h1, h2, h3⟩ := hx
 refine ⟨?_, ?_, ?_, ?_⟩
 ·rw [tk0]; cases x.k == 0 <;> simp [h.v0, h3]
 ·rw [tk1]; cases x.k == 0 <;> cases x.k == 1 <;> simp [h.v1, h3]
 ·rw [tk2]; cases x.k == 0 <;> cases x.k == 1 <;> simp [h.v2, h3]
 ·rw [tkc]; cases x.k == 0 <;> cases x.k == 1 <;> simp [h.vc, h1]
theorem LvOk.fold : ∀ {l : List E3} {s : Lv}, LvOk s → (∀ x, x ∈ l → okV x) → LvOk (l.foldl Lv.take s)
 | [], _, h, _ => h
 | x :: l, s, h, hl => LvOk.fold (l := l) (s := s.take x) (h.take (hl x (by simp))) (fun y hy => hl y (by simp [hy]))
theorem LvOk.zero : LvOk Lv.zero := ⟨rfl, rfl, rfl, rfl⟩
end Go.Proofs.Ytapfkgenachpgaa.wc
