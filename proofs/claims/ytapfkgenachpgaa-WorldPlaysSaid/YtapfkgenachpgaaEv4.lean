/- The evaluator, part 4. -/
import Derived.Test.YtapfkgenachpgaaEv3
namespace Go.Ev
set_option linter.unusedVariables false
set_option linter.unusedSimpArgs false
section
variable {P : Program} {g : Inj} {ng : Cx} {t : Tm} {ρ : Operand → Value} {H : List Blk} {w w' : World}
theorem factV_den {σ : Sig} (hg : ng.Good σ) {a : AVal} : den σ (factV ng a) = den σ a := by
  unfold factV
  split
  · split
    · rename_i b hb; simp only [den, hg.fact _ b hb]
    · rfl
  · split
    · rename_i n hn; simp only [den, hg.num _ n hn]
    · rfl
  · rfl
theorem first_bytes (w' : World) (s : ByteArray) : (Builtin.firstCells 1 s.size (.string s)).run P w' = .ok (s.toList.map fun b => Value.int .u8 b.toNat).toArray w' := by
  have he : s.extract 0 s.size = s := by
    apply ByteArray.ext
    simp [ByteArray.extract, ByteArray.copySlice]
  simp only [Builtin.firstCells, he, Sem.run_pure]
  congr 1
  rw [ByteArray.toList_eq]
  apply Array.ext'
  simp
theorem emptyS_spec {a : AVal} (h : emptyS a = true) : a = .str .empty := by
  unfold emptyS at h
  split at h
  · rename_i s
    have := Nat.eq_of_beq_eq_true h
    have h2 : s = .empty := by
      apply ByteArray.ext
      exact Array.eq_empty_of_size_eq_zero this
    rw [h2]
  · cases h
theorem catL_spec (hg : ng.Good g.sig) {a b c : AVal} {A B : ByteArray} (h : catL ng a b = some c) (ha : den g.sig a = .str A) (hb : den g.sig b = .str B) : den g.sig c = .str (A ++ B) := by
  unfold catL at h
  split at h
  · rename_i he
    cases h
    rw [emptyS_spec he] at ha
    cases ha
    rw [hb]
    have e : (ByteArray.empty ++ B) = B := by
      apply ByteArray.ext
      simp [ByteArray.data_append]
    rw [e]
  · split at h
    · rename_i he
      cases h
      rw [emptyS_spec he] at hb
      cases hb
      rw [ha]
      have e : (A ++ ByteArray.empty) = A := by
        apply ByteArray.ext
        simp [ByteArray.data_append]
      rw [e]
    · have := symS_res hg h
      simp only [evalS, List.map, ha, hb, sopA, Option.some.injEq] at this
      exact this.symm
theorem addL_spec (hg : ng.Good g.sig) {K : Nat} {a b r : AVal} {x y : Nat} (h : addL ng K a b = some r) (ha : den g.sig a = .int .i64 x) (hb : den g.sig b = .int .i64 y) : den g.sig r = .int .i64 ((x + y : Nat) : Int) ∧ x + y ≤ K := by
  unfold addL at h
  split at h
  · rename_i r' hr
    split at h
    · rename_i hc
      cases h
      simp only [Bool.and_eq_true] at hc
      have key : den g.sig r = .int .i64 ((x + y : Nat) : Int) := by
        split at hr
        · rename_i hz
          cases hr
          rw [isZ_spec hz] at ha
          simp only [den, AVal.int.injEq, true_and] at ha
          rw [hb]; congr 1; omega
        · split at hr
          · rename_i hz
            cases hr
            rw [isZ_spec hz] at hb
            simp only [den, AVal.int.injEq, true_and] at hb
            rw [ha]; congr 1; omega
          · split at hr
            · rename_i x' y' e1 e2
              cases hr
              have e1 := litI64_spec e1
              have e2 := litI64_spec e2
              subst e1; subst e2
              simp only [den, AVal.int.injEq, true_and] at ha hb
              simp only [den, AVal.int.injEq, true_and]
              omega
            · split at hr
              · rename_i hk
                simp only [Bool.and_eq_true] at hk
                obtain ⟨n1, d1, l1, u1⟩ := kdI_spec hg hk.1
                have hy : (y : Int) ≤ 9223372036854775807 := by
                  have hk2 := hk.2
                  simp only [Bool.or_eq_true] at hk2
                  rcases hk2 with hk2 | hk2
                  · obtain ⟨n2, d2, l2, u2⟩ := kdI_spec hg hk2
                    rw [hb] at d2
                    simp only [AVal.int.injEq, true_and] at d2
                    omega
                  · exact leqT_spec hg hk2 hb rfl
                rw [ha] at d1
                simp only [AVal.int.injEq, true_and] at d1
                have h1 := symS_res hg hr
                simp only [evalS, ha, hb, binS, intA, if_true, Option.some.injEq] at h1
                have h0 := leqT_spec hg hc.1 rfl h1.symm
                rw [← h1]
                congr 1
                simp only [IntKind.wrap, IntKind.bits, IntKind.signed] at h0 ⊢
                simp at h0 ⊢
                split at h0 <;> split <;> omega
              · cases hr
      have := leqT_spec hg hc.2 key rfl
      exact ⟨key, by omega⟩
    · cases h
  · cases h
def cellsAt (C : Array Value) (o n : Nat) : List Value := (List.range n).map fun i => C.getD (o + i) default
theorem cellsAt_get {C : Array Value} {o n i : Nat} {v : Value} (hi : i < n) (h : C[o + i]? = some v) : (cellsAt C o n)[i]? = some v := by
  have hlt := (Array.getElem?_eq_some_iff.1 h).1
  simp [cellsAt, hi, h]
theorem cellsAt_back {C : Array Value} {o n i : Nat} {v : Value} (hn : o + n ≤ C.size) (h : (cellsAt C o n)[i]? = some v) : C[o + i]? = some v := by
  have hlt : i < n := by simpa [cellsAt] using (List.getElem?_eq_some_iff.1 h).1
  simp only [cellsAt, List.getElem?_map, List.getElem?_range hlt, Option.map_some, Option.some.injEq] at h
  rw [Array.getD_eq_getD_getElem?, Array.getElem?_eq_getElem (by omega : o + i < C.size)] at h
  rw [Array.getElem?_eq_getElem (by omega : o + i < C.size)]
  simpa using h
theorem rows_at {S : ByteArray} {N : Nat} {C : Array Value} {cl : List (Option IntKind)} {L : Loc} (h3 : S.data.toList.length = N * rsz cl) (h5 : C.size = L.dl + L.n) (h7 : N * cl.length ≤ L.n)
    (h8 : ∀ m j, m < N → j < cl.length → ∃ v, C[L.dl + m * cl.length + j]? = some v ∧ VRel g (rowAtD cl S m j) v ∧ v.oneCell' = true) : RowsV g cl S N (cellsAt C L.dl (N * cl.length)) := by
  refine ⟨h3, by simp [cellsAt], fun m j hm hj => ?_⟩
  obtain ⟨v, a, b, c⟩ := h8 m j hm hj
  refine ⟨v, cellsAt_get ?_ (by rw [show L.dl + (m * cl.length + j) = L.dl + m * cl.length + j by omega]; exact a), b, c⟩
  have : (m + 1) * cl.length ≤ N * cl.length := Nat.mul_le_mul_right _ hm
  rw [Nat.add_mul, Nat.one_mul] at this
  omega
theorem firstCells_zero (w' : World) (z m cap : Nat) (ao : Option Addr) : (Builtin.firstCells z 0 (.slice ao m cap)).run P w' = .ok #[] w' := by
  cases ao with
  | none => simp [Builtin.firstCells]
  | some a => simp [Builtin.firstCells, loadCells, loadCellsFrom]
theorem lsl_cells (hH : HRel ng g H w) {b : Nat} {ap : Bool} {off n s nb : AVal} {cl : List (Option IntKind)} {e : TypeId} {u : Value} (hb : H[b]? = some (.lst s nb cl e)) (hx : VRel g (.lsl b cl.length ap off n) u) (hz : isZ off = true) (hn : sameNum n nb = true) :
    ∃ (ao : Option Addr) (m cap : Nat) (S : ByteArray) (vs : List Value), u = .slice ao m cap ∧ m ≤ cap ∧ den g.sig n = .int .i64 (m : Int) ∧ den g.sig s = .str S ∧ RowsV g cl S m vs ∧ (∀ w', w'.heap = w.heap → (Builtin.firstCells cl.length m u).run P w' = .ok vs.toArray w') ∧
      (0 < m → ∃ (L : Loc) (C : Array Value) (fr : Nat × Nat), g b = some L ∧ ao = some ⟨L.blk, L.dl, none⟩ ∧ w.heap[L.blk]? = some (.cells C e fr) ∧ C.size = L.dl + L.n ∧ FrOk fr C ∧ cap * cl.length ≤ L.n ∧ vs = cellsAt C L.dl (m * cl.length)) := by
  cases hx with
  | lsl _ _ _ _ _ o m cap ao h1 h2 h3 h4 h5 =>
    rw [isZ_spec hz] at h1
    simp only [den, AVal.int.injEq, true_and] at h1
    have ho : o = 0 := by omega
    subst ho
    have hnb := sameNum_eq hn
    subst hnb
    rcases hH.blk0 b _ hb (by simp) with ⟨s', n', cl', e', hk, hs0, hn0⟩ | ⟨L, hL, S, N, C, fr, b1, b2, b3, b4, b5, b6, b7, b8⟩
    · cases hk
      have hm0 : m = 0 := by
        rw [h2] at hn0
        simp only [AVal.int.injEq, true_and] at hn0
        omega
      subst hm0
      exact ⟨ao, 0, cap, .empty, [], rfl, h3, h2, hs0, RowsV.nil, fun w' _ => firstCells_zero w' _ _ _ _, fun h => absurd h (Nat.lt_irrefl 0)⟩
    · have hN : N = m := by
        rw [h2] at b2
        simp only [AVal.int.injEq, true_and] at b2
        omega
      subst hN
      have hr := rows_at b3 b5 b7 b8
      refine ⟨ao, N, cap, S, _, rfl, h3, h2, b1, hr, fun w' hw' => ?_, fun hp => ?_⟩
      · rcases Nat.eq_zero_or_pos N with h0 | h0
        · subst h0
          rw [firstCells_zero]
          simp [cellsAt]
        · obtain ⟨L', k1, k2, k3⟩ := h5 h0
          rw [hL] at k1; cases k1
          subst k2
          have hcell : ∀ (j : Nat) (v : Value), (cellsAt C L.dl (N * cl.length))[j]? = some v → w'.cell? ((⟨L.blk, L.dl + 0 * cl.length, none⟩ : Addr).add j) = some v := by
            intro j v hj
            rw [addr_add, cell_of (by rw [hw']; exact b4)]
            have := cellsAt_back (by omega) hj
            rw [show L.dl + 0 * cl.length + j = L.dl + j by omega]; exact this
          exact run_firstCells_some (P := P) w' cl.length N ⟨L.blk, L.dl + 0 * cl.length, none⟩ N cap _ hr.len hcell
      · obtain ⟨L', k1, k2, k3⟩ := h5 hp
        rw [hL] at k1; cases k1
        exact ⟨L, C, fr, hL, by rw [k2]; simp, b4, b5, b6, by simpa using k3, rfl⟩
theorem srcL_spec (hH : HRel ng g H w) {cl : List (Option IntKind)} {x sc sn : AVal} {u : Value} (h : srcL ng cl x H = some (sc, sn)) (hx : VRel g x u) :
    ∃ (k : Nat) (S : ByteArray) (news : List Value), Builtin.lenOf u = pure k ∧ (∀ w', w'.heap = w.heap → (Builtin.firstCells cl.length k u).run P w' = .ok news.toArray w') ∧ den g.sig sn = .int .i64 (k : Int) ∧ den g.sig sc = .str S ∧ RowsV g cl S k news := by
  unfold srcL at h
  split at h
  · cases h; cases hx
    exact ⟨0, .empty, [], rfl, fun w' _ => firstCells_zero w' _ _ _ _, rfl, rfl, RowsV.nil⟩
  · rename_i b z ap off n
    split at h
    · rename_i hz
      cases h
      cases hx with
      | lsl _ _ _ _ _ o m cap ao h1 h2 h3 h4 h5 =>
        rw [isZ_spec hz] at h2
        simp only [den, AVal.int.injEq, true_and] at h2
        have hm : m = 0 := by omega
        subst hm
        exact ⟨0, .empty, [], rfl, fun w' _ => firstCells_zero w' _ _ _ _, rfl, rfl, RowsV.nil⟩
    · split at h
      · rename_i s nb cl' e hb
        split at h
        · rename_i hc
          cases h
          simp only [Bool.and_eq_true, decide_eq_true_eq] at hc
          obtain ⟨rfl, c1, c2, c3⟩ := hc
          have c1 := Nat.eq_of_beq_eq_true c1
          subst c1
          obtain ⟨ao, m, cap, S, vs, rfl, k1, k2, k3, k4, k5, _⟩ := lsl_cells (P := P) hH hb hx c2 c3
          exact ⟨m, S, vs, rfl, k5, k2, k3, k4⟩
        · cases h
      · cases h
  · rename_i b off len cap ex
    split at h
    · rename_i l hl
      split at h
      · rename_i hok
        split at h
        · rename_i s hs
          cases h
          obtain ⟨vs, k1, k2, k3, k4, k5⟩ := run_cellsA (P := P) hH hl hx (by simp)
          have hd := symS_res hH.sig hs
          simp only [evalS, sopA, Option.some.injEq] at hd
          refine ⟨len, _, vs, ?_, k1, rfl, hd.symm, rows_of_cells hH.sig hok k3 k4⟩
          cases hx; rfl
        · cases h
      · cases h
    · cases h
  · rename_i s
    split at h
    · rename_i hb
      cases h
      have hcl : cl = [some .u8] := by
        unfold isByteC at hb
        split at hb
        · rfl
        · cases hb
      subst hcl
      cases hx
      exact ⟨s.size, s, _, rfl, fun w' _ => first_bytes w' s, rfl, rfl, rows_of_bytes s⟩
    · cases h
  · rename_i i
    split at h
    · rename_i hb
      split at h
      · rename_i n hn
        cases h
        have hcl : cl = [some .u8] := by
          unfold isByteC at hb
          split at hb
          · rfl
          · cases hb
        subst hcl
        cases hx
        refine ⟨(g.sig.sval i).size, g.sig.sval i, _, rfl, fun w' _ => first_bytes w' _, ?_, rfl, rows_of_bytes _⟩
        rw [factV_den hH.sig]; exact lenS_den hH.sig hn
      · cases h
    · cases h
  · cases h
theorem HRel.snocNone (hH : HRel ng g H w) {k : Blk} (hk : NoneL g k) : HRel ng g (H ++ [k]) w ∧ Ext g H w g (H ++ [k]) w := by
  have hback : ∀ i L, g i = some L → i < H.length := fun i L h => (hH.dom i L h).1
  have hlive : ∀ i, i < H.length → Live (H ++ [k]) i → Live H i := fun i hi ⟨b, hb, hne⟩ => ⟨b, by rwa [List.getElem?_append_left hi] at hb, hne⟩
  refine ⟨⟨fun i L hi => ?_, fun i j L M hi hj hb li lj => hH.inj i j L M hi hj hb (hlive i (hback i L hi) li) (hlive j (hback j M hj) lj), fun i b hi hb => ?_, hH.glob, hH.sig, ?_⟩,
    ⟨Sub.refl g, (fun i L hi hn => by rw [hn] at hi; cases hi), (fun i L hi hn => by rw [hn] at hi; cases hi), by simp, hlive, Nat.le_refl _, fun _ _ _ => rfl, rfl, rfl, rfl⟩⟩
  · have := hH.dom i L hi
    exact ⟨by simp; omega, this.2⟩
  · rcases Nat.lt_or_ge i H.length with h9 | h9
    · rw [List.getElem?_append_left h9] at hi
      exact hH.blk0 i b hi hb
    · rw [List.getElem?_append_right h9] at hi
      have : i - H.length = 0 := by have := (List.getElem?_eq_some_iff.1 hi).1; simp at this; omega
      rw [this] at hi
      simp at hi; subst hi
      exact .inl hk
  · exact hH.frz.to rfl rfl (by simp) fun b hb q2 => ⟨rfl, fun j L hj lj => q2 j L hj (hlive j (hback j L hj) lj)⟩
theorem HRel.goneO (hH : HRel ng g H w) (old : Option Nat) : HRel ng g (Ev.goneO H old) w ∧ Ext g H w g (Ev.goneO H old) w ∧ (Ev.goneO H old).length = H.length := by
  cases old with
  | none => exact ⟨hH, Ext.refl _ _ _, rfl⟩
  | some b => exact ⟨HRel.drop hH, Ext.drop, by simp [Ev.goneO]⟩
theorem posI_spec {σ : Sig} {a : AVal} {k : Nat} (h : posI a = true) (hd : den σ a = .int .i64 (k : Int)) : 0 < k := by
  unfold posI at h
  split at h
  · simp only [den, AVal.int.injEq, true_and] at hd
    simp only [decide_eq_true_eq] at h
    omega
  · cases h
theorem crow_cells (hH : HRel ng g H w) {i : Nat} {X : Fz} {ao : Option Addr} {cl : List (Option IntKind)} {S : ByteArray} {cap : Nat} (h1 : g.sig.ext i = some X) (z1 : cl.length = X.z) (z3 : S.data.toList.length = X.len * rsz cl) (z4 : ∀ m j, m < X.len → j < X.z → X.val m j = rowAtD cl S m j)
    (h2 : 0 < X.len → ao = some ⟨X.blk, X.off, none⟩) : ∃ vs : List Value, RowsV g cl S X.len vs ∧ ∀ w', w'.heap = w.heap → (Builtin.firstCells cl.length X.len (.slice ao X.len cap)).run P w' = .ok vs.toArray w' := by
  rcases Nat.eq_zero_or_pos X.len with h0 | h0
  · refine ⟨[], ⟨z3, by simp [h0], fun m j hm => by omega⟩, fun w' _ => ?_⟩
    rw [h0]; first | exact firstCells_zero w' _ _ _ _ | rfl
  · have hao := h2 h0
    subst hao
    obtain ⟨C, e, fr, c1, c2, _⟩ := (hH.frz.row i X h1 h0).1
    have hget : ∀ m j, m < X.len → j < cl.length → ∃ v, (cellsAt C X.off (X.len * cl.length))[m * cl.length + j]? = some v ∧ VRel g (rowAtD cl S m j) v ∧ v.oneCell' = true := by
      intro m j hm hj
      obtain ⟨v, v1, v2, v3⟩ := c2 m j hm (by omega)
      refine ⟨v, cellsAt_get ?_ (by rw [← z1] at v1; rw [show X.off + (m * cl.length + j) = X.off + m * cl.length + j by omega]; exact v1), ?_, v3⟩
      · have : (m + 1) * cl.length ≤ X.len * cl.length := Nat.mul_le_mul_right _ hm
        rw [Nat.add_mul, Nat.one_mul] at this
        omega
      · rw [← z4 m j hm (by omega)]; exact v2 g
    have hr : RowsV g cl S X.len (cellsAt C X.off (X.len * cl.length)) := ⟨z3, by simp [cellsAt], hget⟩
    refine ⟨_, hr, fun w' hw' => ?_⟩
    refine run_firstCells_some (P := P) w' cl.length X.len ⟨X.blk, X.off, none⟩ X.len cap _ hr.len fun j v hj => ?_
    rw [addr_add, cell_of (by rw [hw']; exact c1)]
    have hjl : j < X.len * cl.length := by simpa [cellsAt] using (List.getElem?_eq_some_iff.1 hj).1
    have hcl : 0 < cl.length := by
      rcases Nat.eq_zero_or_pos cl.length with h9 | h9
      · rw [h9] at hjl; simp at hjl
      · exact h9
    have hm : j / cl.length < X.len := by
      rw [Nat.div_lt_iff_lt_mul hcl]; exact hjl
    have hjj : j % cl.length < cl.length := Nat.mod_lt _ hcl
    obtain ⟨v', a1, a2, a3⟩ := c2 (j / cl.length) (j % cl.length) hm (by omega)
    have e1 : X.off + j / cl.length * X.z + j % cl.length = X.off + j := by
      rw [← z1, Nat.add_assoc]
      congr 1
      rw [Nat.mul_comm]; exact Nat.div_add_mod j cl.length
    rw [e1] at a1
    rw [cellsAt_get hjl a1] at hj
    cases hj
    exact a1
theorem dstL_spec (hH : HRel ng g H w) {cl : List (Option IntKind)} {e : TypeId} {s dc dn : AVal} {old : Option Nat} {su : Value} (h : dstL ng cl e s H = some (dc, dn, old)) (hx : VRel g s su) :
    ∃ (ao : Option Addr) (m cap : Nat) (S : ByteArray) (vs : List Value), su = .slice ao m cap ∧ m ≤ cap ∧ den g.sig dn = .int .i64 (m : Int) ∧ den g.sig dc = .str S ∧ RowsV g cl S m vs ∧ (∀ w', w'.heap = w.heap → (Builtin.firstCells cl.length m su).run P w' = .ok vs.toArray w') ∧
      ((m = 0 ∧ cap = 0) ∨ (isCrow s = true ∧ cap = m) ∨ ∃ (b : Nat) (L : Loc) (C : Array Value) (fr : Nat × Nat), 0 < m ∧ old = some b ∧ Live H b ∧ g b = some L ∧ ao = some ⟨L.blk, L.dl, none⟩ ∧ w.heap[L.blk]? = some (.cells C e fr) ∧ C.size = L.dl + L.n ∧ FrOk fr C ∧ cap * cl.length ≤ L.n ∧ vs = cellsAt C L.dl (m * cl.length)) := by
  unfold dstL at h
  split at h
  · cases h; cases hx
    exact ⟨none, 0, 0, .empty, [], rfl, Nat.le_refl _, rfl, rfl, RowsV.nil, fun w' _ => firstCells_zero w' _ _ _ _, .inl ⟨rfl, rfl⟩⟩
  · rename_i i
    split at h
    · rename_i c cl' n hc hn
      split at h
      · rename_i hcl
        cases h
        simp only [decide_eq_true_eq] at hcl
        subst hcl
        cases hx with
        | crow _ X ao h1 h2 =>
          have dn := hH.sig.rlen i n X hn h1
          obtain ⟨z1, S, z2, z3, z4⟩ := hH.sig.rstr i _ _ X hc h1
          obtain ⟨vs, v1, v2⟩ := crow_cells (P := P) hH h1 z1 z3 z4 h2
          exact ⟨ao, X.len, X.len, S, vs, rfl, Nat.le_refl _, by rw [factV_den hH.sig]; exact dn, z2, v1, v2, .inr (.inl ⟨rfl, rfl⟩)⟩
      · cases h
    · cases h
  · rename_i b z ap off n
    split at h
    · rename_i hz
      split at h
      · cases h
        cases hx with
        | lsl _ _ _ _ _ o m cap ao h1 h2 h3 h4 h5 =>
          rw [isZ_spec hz] at h2
          simp only [den, AVal.int.injEq, true_and] at h2
          have hm : m = 0 := by omega
          subst hm
          have hc := (h4 rfl).2 rfl
          subst hc
          exact ⟨ao, 0, 0, .empty, [], rfl, Nat.le_refl _, rfl, rfl, RowsV.nil, fun w' _ => firstCells_zero w' _ _ _ _, .inl ⟨rfl, rfl⟩⟩
      · cases h
    · split at h
      · rename_i c nb cl' e' hb
        split at h
        · rename_i hc
          cases h
          simp only [Bool.and_eq_true, decide_eq_true_eq] at hc
          obtain ⟨rfl, rfl, c0, c1, c2, c3⟩ := hc
          have c0 := Nat.eq_of_beq_eq_true c0
          have c1 := Nat.eq_of_beq_eq_true c1
          subst c0; subst c1
          have hap : ∃ o m cap ao, su = .slice ao m cap ∧ den g.sig dn = .int .i64 (m : Int) ∧ (m = 0 → cap = 0) ∧ o = 0 := by
            cases hx with
            | lsl _ _ _ _ _ o m cap ao h1 h2 h3 h4 h5 => exact ⟨0, m, cap, ao, rfl, h2, (h4 rfl).2, rfl⟩
          obtain ⟨_, m', cap', ao', rfl, d1, d2, _⟩ := hap
          obtain ⟨ao, m, cap, S, vs, hu, k1, k2, k3, k4, k5, k6⟩ := lsl_cells (P := P) hH hb hx c2 c3
          cases hu
          refine ⟨ao', m', cap', S, vs, rfl, k1, k2, k3, k4, k5, ?_⟩
          rcases Nat.eq_zero_or_pos m' with h0 | h0
          · exact .inl ⟨h0, d2 h0⟩
          · obtain ⟨L, C, fr, q1, q2, q3, q4, q5, q6, q7⟩ := k6 h0
            exact .inr (.inr ⟨b, L, C, fr, h0, rfl, ⟨_, hb, by simp⟩, q1, q2, q3, q4, q5, q6, q7⟩)
        · cases h
      · cases h
  · rename_i b off len cap ex
    split at h
    · split at h
      · rename_i hz
        cases h
        rw [Bool.and_eq_true] at hz
        have z1 := Nat.eq_of_beq_eq_true hz.1
        have z2 := Nat.eq_of_beq_eq_true hz.2
        subst z1; subst z2
        cases hx with
        | slice _ _ _ _ _ o2 cv L hL h0 h1 h2 =>
          have := h1 rfl
          subst this
          exact ⟨_, 0, 0, .empty, [], rfl, Nat.le_refl _, rfl, rfl, RowsV.nil, fun w' _ => firstCells_zero w' _ _ _ _, .inl ⟨rfl, rfl⟩⟩
      · cases h
    · cases h
  · cases h
theorem appendL_sound {hp hp' : Hp} (hH : HRel ng g hp.heap w) {ts : Array TypeId} {ty : TypeId} {l : List AVal} {m : Array Value} {r : AVal} (h : appendL P ng ts.toList l hp = some (r, hp')) (hl : LRel g l m.toList) :
    ∃ v w' g', (Builtin.append_ ts ty m).run P w = .ok v w' ∧ VRel g' r v ∧ After P g ng hp hp' w w' g' := by
  unfold appendL at h
  split at h
  · rename_i tt xt s x e1
    obtain ⟨ts⟩ := ts
    obtain ⟨m⟩ := m
    simp at e1
    subst e1
    simp only at hl
    cases hl with
    | cons _ su _ _ hs hl =>
    cases hl with
    | cons _ xu _ _ hx hl =>
    cases hl
    split at h
    · rename_i e dx ht hdx
      split at h
      · rename_i ie z cl hie hz hcl
        split at h
        · rename_i hc
          obtain ⟨hd, c1, c2, c3, c4, c5⟩ := hc
          split at h
          · rename_i dc dn old sc sn hdst hsrc
            split at h
            · rename_i c n hcat hadd0
              cases h
              obtain ⟨hadd, hpos0⟩ : addL ng (140737488355328 / ie.bytes) dn sn = some n ∧ (!(isCrow s) || posI sn) = true := by
                split at hadd0
                · rename_i hp; exact ⟨hadd0, hp⟩
                · cases hadd0
              obtain ⟨i', zv, hi', hzv, hzr⟩ := zeroA_spec hz
              rw [hie] at hi'; cases hi'
              have hzs : zv.cells.size = ie.size := by have := (hzr g).cells.length; simp at this; omega
              have hz1 : ∀ v, v ∈ zv.cells.toList → v.oneCell' = true := allScalar_rel c3 (hzr g).cells
              obtain ⟨k, T, news, s1, s2, s3, s4, s5⟩ := srcL_spec (P := P) hH hsrc hx
              obtain ⟨ao, mm, cap, S, ovs, rfl, d1, d2, d3, d4, d5, d6⟩ := dstL_spec (P := P) hH hdst hs
              have hc1 := catL_spec hH.sig hcat d3 s4
              obtain ⟨hn1, hn2⟩ := addL_spec hH.sig hadd d2 s3
              have hrows := d4.append s5
              have hbytes : (mm + k) * ie.bytes ≤ 140737488355328 := Nat.le_trans (Nat.mul_le_mul_right _ hn2) (Nat.div_mul_le_self _ _)
              have hsmall : mm + k ≤ 140737488355328 := Nat.le_trans hn2 (Nat.div_le_self _ _)
              rw [← c4]
              obtain ⟨o1, o2, o3⟩ := hH.goneO old
              by_cases hroom : mm + k ≤ cap
              · rcases d6 with ⟨hm0, hc0⟩ | ⟨hcr, hcm⟩ | ⟨b, L, C, fr, hpos, rfl, q0, q1, rfl, q2, q3, q4, q5, q6⟩
                ·
                  subst hm0; subst hc0
                  have hk : k = 0 := by omega
                  subst hk
                  have hnone : NoneL g (.lst c n cl e) := by
                    refine ⟨c, n, cl, e, rfl, ?_, by simpa using hn1⟩
                    rw [hc1]
                    congr 1
                    apply ByteArray.ext
                    have := hrows.size
                    apply Array.eq_empty_of_size_eq_zero
                    simpa using this
                  have hn0 : news = [] := List.eq_nil_of_length_eq_zero (by rw [s5.len]; simp)
                  subst hn0
                  obtain ⟨r1, r2⟩ := HRel.snocNone o1 hnone
                  refine ⟨.slice ao 0 0, w, g, ?_, .lsl _ _ true _ n 0 0 0 ao rfl (by simpa using hn1) (Nat.le_refl _) (fun _ => ⟨rfl, fun _ => rfl⟩) (fun hp => absurd hp (Nat.lt_irrefl 0)), r1, o2.trans hH r2⟩
                  have hw := s2 w rfl
                  cases ao with
                  | none =>
                    rw [c4] at hw
                    cases dx <;> first | (simp [okSrc] at hd; done) | simp [Builtin.append_, run_underlying ht, run_underlying hdx, run_sizeOf' w hie, s1, hw]
                  | some ad =>
                    have := run_append_room' (P := P) (w := w) tt xt ty e dx ie ht hdx hd hie ad 0 0 0 xu [] s1 (by rw [← c4]; exact hw) (Nat.le_refl _)
                    rw [this]; simp [storeCells]
                ·
                  rw [hcr] at hpos0
                  simp only [Bool.not_true, Bool.false_or] at hpos0
                  have := posI_spec hpos0 s3
                  omega
                · have hrun := run_append_room' (P := P) (w := w) tt xt ty e dx ie ht hdx hd hie ⟨L.blk, L.dl, none⟩ mm cap k xu news s1 (by rw [← c4]; exact s2 w rfl) hroom
                  have hmul : (mm + k) * cl.length ≤ cap * cl.length := Nat.mul_le_mul_right _ hroom
                  rw [Nat.add_mul] at hmul
                  have hnl := s5.len
                  obtain ⟨w', j1, j2, j3⟩ := storeCells_ok (P := P) L.blk (L.dl + mm * cl.length) e fr news 0 C w q2 q4.1 (by omega) s5.one
                  have hB : BRel (upd g hp.heap.length L) w' (.lst c n cl e) L := by
                    refine ⟨S ++ T, mm + k, _, fr, hc1, hn1, hrows.size, j3, by rw [foldl_size]; exact q3, ⟨by rw [foldl_size]; exact q4.not, by rw [foldl_size]; exact q4.eq, foldl_one news 0 _ C s5.one q4.one⟩, by rw [Nat.add_mul]; omega, fun i j hi hj => ?_⟩
                    obtain ⟨v, a, b', c'⟩ := hrows.cell i j hi hj
                    refine ⟨v, ?_, b'.mono (upd_sub _ (fresh_id hH)), c'⟩
                    have hol : ovs.length = mm * cl.length := d4.len
                    by_cases hlt : i * cl.length + j < ovs.length
                    · rw [List.getElem?_append_left hlt] at a
                      rw [foldl_low _ _ _ (by intro x hx; omega)]
                      rw [q6] at a
                      have := cellsAt_back (by omega) a
                      rw [show L.dl + i * cl.length + j = L.dl + (i * cl.length + j) by omega]; exact this
                    · rw [List.getElem?_append_right (by omega)] at a
                      have := foldl_high news 0 (L.dl + mm * cl.length) C (by omega) _ v a
                      rw [show L.dl + mm * cl.length + 0 + (i * cl.length + j - ovs.length) = L.dl + i * cl.length + j by omega] at this
                      exact this
                  obtain ⟨r1, r2⟩ := HRel.retip hH q0 q1 rfl j2 hB
                  refine ⟨.slice (some ⟨L.blk, L.dl, none⟩) (mm + k) cap, w', upd g hp.heap.length L, ?_, ?_, r1, r2⟩
                  · rw [hrun, addr_add, ← c4, j1]; rfl
                  · refine .lsl _ _ true _ n 0 (mm + k) cap _ rfl hn1 hroom (fun _ => ⟨rfl, fun h0 => by omega⟩) (fun hp => ⟨L, upd_same _ _ _, by simp, by simpa using q5⟩)
              · have hgr : cap < mm + k := by omega
                have hrun := run_append_grow' (P := P) (w := w) tt xt ty e dx ie zv ht hdx hd hie hzv ao mm cap k xu ovs news s1 (by rw [← c4]; exact s2 w.drew rfl) (by rw [← c4]; exact d5 w.drew rfl) hgr (by omega) (growslice_fits hgr hbytes)
                have e1 : ovs.toArray ++ news.toArray = (ovs ++ news).toArray := by simp
                rw [e1] at hrun
                have hone : ∀ v, v ∈ ((ovs ++ news).toArray ++ Builtin.zeroCells zv.cells (grownCap w (mm + k) cap e - (mm + k))).toList → v.oneCell' = true := by
                  intro v hv
                  simp only [Array.toList_append, List.mem_append] at hv
                  rcases hv with hv | hv
                  · exact hrows.one v (by simpa using hv)
                  · exact zeroCells_one hz1 v hv
                obtain ⟨g2, g3⟩ := HRel.newLst hH o1 o3 (e := e) (C := (ovs ++ news).toArray ++ Builtin.zeroCells zv.cells (grownCap w (mm + k) cap e - (mm + k))) hc1 hn1 hrows (fun i v hv => by
                  have := (List.getElem?_eq_some_iff.1 hv).1
                  rw [Array.getElem?_append_left (by simpa using this)]
                  simpa using hv) hone
                have hge := grownCap_ge w (mm + k) cap e
                have hCs : ((ovs ++ news).toArray ++ Builtin.zeroCells zv.cells (grownCap w (mm + k) cap e - (mm + k))).size = grownCap w (mm + k) cap e * cl.length := by
                  have := hrows.len
                  simp only [Array.size_append, List.size_toArray, size_zeroCells, hzs, this, ← c4, ← Nat.add_mul]
                  congr 1; omega
                refine ⟨_, _, _, hrun, ?_, g2, o2.trans hH g3⟩
                refine .lsl _ _ true _ n 0 (mm + k) _ _ rfl hn1 hge (fun _ => ⟨rfl, fun h0 => by omega⟩) (fun hp => ⟨_, upd_same _ _ _, by simp, ?_⟩)
                rw [Nat.zero_add, hCs]
                exact Nat.le_refl _
            · cases h
          · cases h
        · cases h
      · cases h
    · cases h
  · cases h
end
end Go.Ev
namespace Go.Ev
set_option linter.unusedVariables false
set_option linter.unusedSimpArgs false
set_option linter.unnecessarySimpa false
def insertV (P : Program) (ty : TypeId) (m k v : AVal) (hp : Hp) : Option Hp :=
  match P.underlying ty with
  | some (.map kt _) => match P.underlying kt with
    | some d => match keyA d k, m with
      | some _, .map b => match hp.heap[b]? with
        | some (.map l) => match findA d k l with
          | some none => some ⟨hp.heap.set b (.map (l ++ [(k, v)])), b :: hp.log⟩
          | _ => none
        | _ => none
      | _, _ => none
    | none => none
  | _ => none
def rangeV (P : Program) (ty : TypeId) (b : Nat) (hp : Hp) : Option (AVal × Hp) :=
  match P.underlying ty with
  | some (.map _ _) => match hp.heap[b]? with
    | some (.map l) => some (.ptr hp.heap.length 0, ⟨hp.heap.set b .gone ++ [.iter hp.heap.length l none], b :: hp.log⟩)
    | _ => none
  | _ => none
def effA (P : Program) (ng : Cx) (t : Tm) (op : Op) (hp : Hp) : Option (AVal × Hp) :=
  match op with
  | .store ty a x => match ev ng t a, ev ng t x with
    | some av, some xv => match storeV P ty av xv hp with
      | some hp' => some (undefA, hp')
      | none => none
    | _, _ => none
  | .makeMap _ none => some (.map hp.heap.length, ⟨hp.heap ++ [.map []], hp.log⟩)
  | .insert ty m k x => match ev ng t m, ev ng t k, ev ng t x with
    | some mv, some kv, some xv => match insertV P ty mv kv xv hp with
      | some hp' => some (undefA, hp')
      | none => none
    | _, _, _ => none
  | .mapUpdate ty m k x => match ev ng t m, ev ng t k, ev ng t x with
    | some mv, some kv, some xv => match insertV P ty mv kv xv hp with
      | some hp' => some (undefA, hp')
      | none => none
    | _, _, _ => none
  | .range ty x => match ev ng t x with
    | some (.map b) => rangeV P ty b hp
    | _ => none
  | .convert src dst x => match Nat.beq src dst, P.underlying src with
    | true, some (.slice e) => match P.underlying e, ev ng t x with
      | some (.int .u8), some (.slice b off len cap ex) => match hp.heap[b]? with
        | some (.cells _ _) => some (.slice b off len cap ex, ⟨hp.heap, b :: hp.log⟩)
        | _ => none
      | _, _ => none
    | _, _ => none
  | .call c => match c.callee with
    | .builtin .append => match evL ng t c.args.toList with
      | some l => match appendL P ng c.argTypes.toList l hp with
        | some r => some r
        | none => match appendA P c.argTypes.toList l hp with
          | some r => some r
          | none => appendZ P c.argTypes.toList l hp
      | none => none
    | .builtin .copy => match evL ng t c.args.toList with
      | some l => copyA P ng c.argTypes.toList l hp
      | none => none
    | _ => none
  | _ => none
inductive Out where
  | val (v : AVal)
  | pan (v : AVal)
inductive Ex where
  | normal
  | exit (id : Nat)
  | ret
  | pan (v : AVal)
def sameLoop (a b : LoopA) : Prop := b.t = a.t ∧ b.params = a.params ∧ b.assign = a.assign ∧ b.body = a.body ∧ b.dfr = a.dfr
structure Touch (hp hp' : Hp) : Prop where
  len : hp.heap.length ≤ hp'.heap.length
  log : ∃ pre, hp'.log = pre ++ hp.log ∧ ∀ i, i < hp.heap.length → i ∉ pre → hp'.heap[i]? = hp.heap[i]?
  live : ∀ i, i < hp.heap.length → Live hp'.heap i → Live hp.heap i
  loops : ∀ (i : Nat) (la : LoopA), i < hp.heap.length → hp'.heap[i]? = some (Blk.loop la) → ∃ l0, hp.heap[i]? = some (Blk.loop l0) ∧ sameLoop l0 la
theorem Touch.refl (hp : Hp) : Touch hp hp := ⟨Nat.le_refl _, ⟨[], by simp, fun _ _ _ => rfl⟩, fun _ _ h => h, fun _ la _ h => ⟨la, h, rfl, rfl, rfl, rfl, rfl⟩⟩
theorem Touch.trans {a b c : Hp} (h : Touch a b) (h' : Touch b c) : Touch a c := by
  obtain ⟨p, hp, h1⟩ := h.log
  obtain ⟨q, hq, h2⟩ := h'.log
  refine ⟨Nat.le_trans h.len h'.len, ⟨q ++ p, by rw [hq, hp, List.append_assoc], fun i hi hn => ?_⟩, fun i hi hl => h.live i hi (h'.live i (Nat.lt_of_lt_of_le hi h.len) hl), fun i lc hi hl => ?_⟩
  · simp only [List.mem_append, not_or] at hn
    exact (h2 i (Nat.lt_of_lt_of_le hi h.len) hn.1).trans (h1 i hi hn.2)
  · obtain ⟨lb, hb, f1, f2, f3, f4, f5⟩ := h'.loops i lc (Nat.lt_of_lt_of_le hi h.len) hl
    obtain ⟨la, ha, e1, e2, e3, e4, e5⟩ := h.loops i lb hi hb
    exact ⟨la, ha, f1.trans e1, f2.trans e2, f3.trans e3, f4.trans e4, f5.trans e5⟩
def OutRel (g : Inj) (o : Out) (e : Ending) : Prop :=
  match o with
  | .val v => ∃ u, e = .returned u ∧ VRel g v u
  | .pan v => ∃ u, e = .panicked [{ v := u, recovered := false }] ∧ VRel g v u
structure CallP (P : Program) (ng : Cx) (f : FuncId) (args : List AVal) (hp : Hp) (o : Out) (hp' : Hp) : Prop where
  touch : Touch hp hp'
  calls : ∀ g w args', HRel ng g hp.heap w → LRel g args args'.toList → Calls P f args' w fun e w' => ∃ g', OutRel g' o e ∧ HRel ng g' hp'.heap w' ∧ Ext g hp.heap w g' hp'.heap w'
def wantedA (ng : Cx) (ops : List Oper) (t : Tm) (o : Oper) : Option Bool :=
  match o.guard with
  | none => some true
  | some (j, want) => match ops[j]? with
    | none => some false
    | some q => match q.dst with
      | none => some false
      | some d => match t.get d with
        | none => none
        | some v => match factV ng v with
          | .bool b => some (b == want)
          | .symb _ => none
          | .junk => none
          | _ => some false
def putA (t : Tm) (d : Option Tmp) (v : AVal) : Tm :=
  match d with
  | some d => match t with
    | ⟨n, tr, df⟩ => ⟨n, tr.put d v, df⟩
  | none => t
inductive PlaceA where
  | val (v : AVal)
  | var (b off : Nat)
def followA (P : Program) : List FieldStep → TypeId → PlaceA → Option (TypeId × PlaceA)
  | [], t, x => some (t, x)
  | s :: rest, _, x => match P.underlying s.struct with
    | some (.struct fields) => match fields[s.index]? with
      | some f => match P.underlying f.type, P.info? f.type with
        | some _, some i => match s.deref with
          | true => match x with
            | .val (.ptr b off) => if i.size = 0 then none else followA P rest f.type (.var b (off + f.offset))
            | _ => none
          | false => match x with
            | .var b off => if i.size = 0 then none else followA P rest f.type (.var b (off + f.offset))
            | .val (.agg cs) => match partA P f.type cs f.offset with
              | some v => followA P rest f.type (.val v)
              | none => none
            | _ => none
        | _, _ => none
      | none => none
    | _ => none
def receiverA (P : Program) (xt : TypeId) (x : PlaceA) (pr : Bool) : Option AVal :=
  match P.underlying xt with
  | some (.pointer _) => match pr, x with
    | true, .val v => some v
    | _, _ => none
  | some _ => match pr, x with
    | true, .var b off => some (.ptr b off)
    | false, .val v => some v
    | _, _ => none
  | none => none
def methodA (P : Program) : Nat → TypeId → AVal → String → Option (FuncId × AVal)
  | 0, _, _, _ => none
  | n + 1, t, v, name => match P.info? t with
    | some info => match info.methods.find? (·.name == name) with
      | some m => match followA P m.path.toList t (.val v) with
        | some (xt, x) => match m.func with
          | some (f, pr) => match receiverA P xt x pr with
            | some r => some (f, r)
            | none => none
          | none => match x with
            | .val (.iface t' v') => methodA P n t' v' name
            | _ => none
        | none => none
      | none => none
    | none => none
def enterA (P : Program) (k : FuncId) (args : List AVal) : Option (FuncId × List AVal) :=
  match P.funcs[k]? with
  | some fn => if fn.body.isSome = true ∧ ¬ (fn.name == "runtime.NumGoroutine") = true then some (k, args) else none
  | none => none
def resolveA (P : Program) (ng : Cx) (t : Tm) (c : Call) : Option (FuncId × List AVal) :=
  match c.callee with
  | .value f => match ev ng t f, evL ng t c.args.toList with
    | some (.func (.func k) first cap), some l => enterA P k (first ++ l ++ cap)
    | some (.func (.via ty path k pr) first _), some l => match first ++ l with
      | x :: rest => match followA P path.toList ty (.val x) with
        | some (xt, y) => match receiverA P xt y pr with
          | some r => enterA P k (r :: rest)
          | none => none
        | none => none
      | [] => none
    | some (.func (.method name) first _), some l => match first ++ l with
      | .iface ty v :: rest => match methodA P (P.types.size + Made.depth) ty v name with
        | some (k, r) => enterA P k (r :: rest)
        | none => none
      | _ => none
    | _, _ => none
  | .invoke x name => match ev ng t x, evL ng t c.args.toList with
    | some (.iface ty v), some l => match methodA P (P.types.size + Made.depth) ty v name with
      | some (k, r) => enterA P k (r :: l)
      | none => none
    | _, _ => none
  | _ => none
inductive Step (P : Program) (ng : Cx) (ops : List Oper) (o : Oper) (t : Tm) (hp : Hp) : AVal → Hp → Prop
  | skip : wantedA ng ops t o = some false → Step P ng ops o t hp undefA hp
  | pure (v : AVal) : wantedA ng ops t o = some true → pureA P ng t o.op = some v → Step P ng ops o t hp v hp
  | load (v : AVal) (b : Option Nat) : wantedA ng ops t o = some true → loadA P ng t o.op hp.heap = some (v, b) → Step P ng ops o t hp v hp
  | fresh (c : List AVal) (e : TypeId) (m : Mk) : wantedA ng ops t o = some true → freshA P ng t o.op = some (c, e, m) → Step P ng ops o t hp (m.val hp.heap.length) ⟨hp.heap ++ [.cells c e], hp.log⟩
  | eff (v : AVal) (hp' : Hp) : wantedA ng ops t o = some true → effA P ng t o.op hp = some (v, hp') → Step P ng ops o t hp v hp'
  | call (c : Call) (f : FuncId) (args : List AVal) (v : AVal) (hp' : Hp) : wantedA ng ops t o = some true → o.op = .call c → resolveA P ng t c = some (f, args) → CallP P ng f args hp (.val v) hp' → Step P ng ops o t hp v hp'
section
variable {P : Program} {g : Inj} {ng : Cx} {t : Tm} {ρ : Operand → Value} {H : List Blk} {w : World} {hp hp' : Hp}
theorem appendA_sound (hH : HRel ng g hp.heap w) {ts : Array TypeId} {ty : TypeId} {l : List AVal} {m : Array Value} {r : AVal} (h : appendA P ts.toList l hp = some (r, hp')) (hl : LRel g l m.toList) :
    ∃ v w' g', (Builtin.append_ ts ty m).run P w = .ok v w' ∧ VRel g' r v ∧ After P g ng hp hp' w w' g' := by
  unfold appendA at h
  split at h
  · rename_i tt xt s x e1
    obtain ⟨ts⟩ := ts
    obtain ⟨m⟩ := m
    simp at e1; subst e1
    cases hl with
    | cons _ su _ _ hs hl => cases hl with
      | cons _ xu _ _ hx hl =>
        cases hl
        split at h
        · rename_i e dx hu hxu
          split at h
          · rename_i ie z xl hie hz hxl
            split at h
            · rename_i hc
              split at h
              · rename_i cs hcs
                obtain ⟨vs, k1, k2, k3, k4, k5⟩ := run_cellsA (P := P) hH hcs hx (fun hh => lenV_nil hxl hh)
                exact appendTo_sound hH hu hxu hc.1 hie hz hc.2.1 hc.2.2.1 hc.2.2.2 (lenV_spec hxl hx) k1 k2 k3 k4 k5 h hs
              · cases h
            · cases h
          · cases h
        · cases h
  · cases h
theorem nodup_push {es : Array MapEntry} {cl : Nat} {k v : Value} (h : (es.toList.map (·.born)).Nodup) (h' : ∀ e ∈ es.toList, e.born < cl) : ((es.push { key := k, val := v, born := cl }).toList.map (·.born)).Nodup := by
  simp only [Array.toList_push, List.map_append, List.map_cons, List.map_nil]
  rw [List.nodup_append]
  refine ⟨h, by simp, ?_⟩
  intro a ha b hb
  simp only [List.mem_map, List.mem_singleton] at ha hb
  obtain ⟨e, he, rfl⟩ := ha
  have := h' e he
  omega
theorem lt_push {es : Array MapEntry} {cl : Nat} {k v : Value} (h' : ∀ e ∈ es.toList, e.born < cl) : ∀ e ∈ (es.push { key := k, val := v, born := cl }).toList, e.born < cl + 1 := by
  intro e he
  simp only [Array.toList_push, List.mem_append, List.mem_singleton] at he
  rcases he with he | rfl
  · have := h' e he; omega
  · simp
theorem insertV_sound (hH : HRel ng g hp.heap w) {ty : TypeId} {m k v : AVal} {um uk uv : Value} (h : insertV P ty m k v hp = some hp') (hm : VRel g m um) (hk : VRel g k uk) (hv : VRel g v uv) :
    ∃ w', (Instr.mapUpdate ty um uk uv).run P w = .ok () w' ∧ After P g ng hp hp' w w' g := by
  unfold insertV at h
  split at h
  · rename_i kt elem hty
    split at h
    · rename_i d hd
      split at h
      · rename_i kv b hkv
        obtain ⟨i1, i2⟩ := keyA_spec (g := g) hkv
        have hq := i2 _ hk
        subst hq
        cases hm with
        | map _ L hL =>
        split at h
        · rename_i l hb
          obtain ⟨M, hM, es, cl, es', h1, h2, h3, h4, h5⟩ := hH.blk b _ hb (by simp)
          rw [hL] at hM; cases hM
          split at h
          · rename_i hf
            cases h
            rcases findA_run hkv hf h3 h2 with ⟨_, hrun⟩ | ⟨v', j, y, hv', _⟩
            · have hlt : L.blk < w.heap.size := (Array.getElem?_eq_some_iff.1 h1).1
              obtain ⟨s1, s2⟩ := MapKept.heap_set (o' := .map (es.push { key := uk, val := uv, born := cl }) (cl + 1)) h1
              have hB : BRel g { w with heap := w.heap.setIfInBounds L.blk (.map (es.push { key := uk, val := uv, born := cl }) (cl + 1)) } (.map (l ++ [(k, v)])) L :=
                ⟨_, _, es' ++ [{ key := uk, val := uv, born := cl }], s1, by simpa using h2.append_right _, h3.snoc hk hv, nodup_push h4 h5, lt_push h5⟩
              have hW : Wr L.blk w { w with heap := w.heap.setIfInBounds L.blk (.map (es.push { key := uk, val := uv, born := cl }) (cl + 1)) } := ⟨by simp, fun k' hk' => s2 k' hk', rfl, rfl, rfl⟩
              obtain ⟨r1, r2⟩ := HRel.writeK hH ⟨_, hb, by simp⟩ hL hW hB
              refine ⟨_, ?_, ⟨r1, r2⟩⟩
              simp [Instr.mapUpdate, run_underlying hty, MapKept.run_getObj_map h1, MapKept.run_checkKey hd i1, MapKept.run_findKey hd hrun, MapKept.run_setObj_map _ h1, Result.andThen]
            · cases hv'
          · cases h
        · cases h
      · cases h
    · cases h
  · cases h
theorem makeMap_after (hH : HRel ng g hp.heap w) : ∃ g', VRel g' (.map hp.heap.length) (.map (some w.heap.size)) ∧ After P g ng hp ⟨hp.heap ++ [.map []], hp.log⟩ w (w.alloc (.map #[] 0)) g' := by
  have hid : g hp.heap.length = none := by
    cases hg : g hp.heap.length with
    | none => rfl
    | some M => have := (hH.dom _ M hg).1; omega
  have hng : ng.n ≤ hp.heap.length := by
    rcases Nat.lt_or_ge hp.heap.length ng.n with h9 | h9
    · obtain ⟨L, hL, _⟩ := hH.glob _ h9
      rw [hid] at hL; cases hL
    · exact h9
  have := HRel.allocK hH (w0 := w) (H' := hp.heap ++ [.map []]) (k := .map []) (O := .map #[] 0) (n := 0) hid hng rfl rfl rfl rfl (by simp) (by
    intro j hj
    rcases Nat.lt_or_ge j hp.heap.length with h9 | h9
    · rw [List.getElem?_append_left h9]
    · rw [List.getElem?_append_right h9, List.getElem?_eq_none h9]
      have : j - hp.heap.length ≠ 0 := by omega
      simp [this]) (by simp) (.inl (Nat.le_refl _)) (fun hnew => ⟨_, _, [], hnew, by simp, .nil, by simp, by simp⟩)
  exact ⟨_, .map _ _ (upd_same _ _ _), this.1, this.2 (Nat.le_refl _)⟩
theorem rangeV_sound (hH : HRel ng g hp.heap w) {ty : TypeId} {b : Nat} {r : AVal} {u : Value} (h : rangeV P ty b hp = some (r, hp')) (hm : VRel g (.map b) u) :
    ∃ v w' g', (Instr.range ty u).run P w = .ok v w' ∧ VRel g' r v ∧ After P g ng hp hp' w w' g' := by
  unfold rangeV at h
  split at h
  · rename_i kt vt hty
    split at h
    · rename_i l hb
      cases h
      cases hm with
      | map _ L hL =>
      obtain ⟨M, hM, es, cl, es', h1, h2, h3, h4, h5⟩ := hH.blk b _ hb (by simp)
      rw [hL] at hM; cases hM
      have hlb : Live hp.heap b := ⟨_, hb, by simp⟩
      have hbl : b < hp.heap.length := (List.getElem?_eq_some_iff.1 hb).1
      have hid : g hp.heap.length = none := by
        cases hg : g hp.heap.length with
        | none => rfl
        | some M => have := (hH.dom _ M hg).1; omega
      have hmn : g.mp hp.heap.length = none := by
        cases hg : g.mp hp.heap.length with
        | none => rfl
        | some M => have := (hH.frz.mp _ M hg).1; omega
      have hLw := (hH.dom b L hL).2
      let X : Fm := ⟨L.blk, es, cl⟩
      let O : Obj := .mapIter (some L.blk) cl #[] cl
      let g' : Inj := ⟨fun j => if j = hp.heap.length then some ⟨w.heap.size, 0, 0⟩ else g j, g.sig, fun j => if j = hp.heap.length then some X else g.mp j⟩
      have gn : g' hp.heap.length = some ⟨w.heap.size, 0, 0⟩ := by simp [g']
      have go : ∀ j, j ≠ hp.heap.length → g' j = g j := fun j hj => by simp [g', hj]
      have mn : g'.mp hp.heap.length = some X := by simp [g']
      have mo : ∀ j, j ≠ hp.heap.length → g'.mp j = g.mp j := fun j hj => by simp [g', hj]
      have hsub : Sub g g' := ⟨fun i M hi => by rw [go i (by have := (hH.dom i M hi).1; omega)]; exact hi, rfl, fun i M hi => by rw [mo i (by have := (hH.frz.mp i M hi).1; omega)]; exact hi⟩
      have hold : ∀ k, k < w.heap.size → (w.alloc O).heap[k]? = w.heap[k]? := fun k hk => heap_alloc_old w _ hk
      have hnew : (w.alloc O).heap[w.heap.size]? = some O := heap_alloc_new w O
      have hsz : (w.alloc O).heap.size = w.heap.size + 1 := Array.size_push ..
      have hlen : (hp.heap.set b .gone ++ [Blk.iter hp.heap.length l none]).length = hp.heap.length + 1 := by simp
      have hat : ∀ i, i ≠ hp.heap.length → i ≠ b → (hp.heap.set b .gone ++ [Blk.iter hp.heap.length l none])[i]? = hp.heap[i]? := by
        intro i hi hib
        rcases Nat.lt_or_ge i hp.heap.length with h9 | h9
        · rw [List.getElem?_append_left (by simpa using h9), List.getElem?_set_ne (Ne.symm hib)]
        · rw [List.getElem?_eq_none (by rw [hlen]; omega), List.getElem?_eq_none h9]
      have hatb : (hp.heap.set b .gone ++ [Blk.iter hp.heap.length l none])[b]? = some .gone := by
        rw [List.getElem?_append_left (by simpa using hbl)]; simp [hbl]
      have hatn : (hp.heap.set b .gone ++ [Blk.iter hp.heap.length l none])[hp.heap.length]? = some (Blk.iter hp.heap.length l none) := by
        rw [List.getElem?_append_right (by simp)]; simp
      have hlv : ∀ i, i ≠ hp.heap.length → Live (hp.heap.set b .gone ++ [Blk.iter hp.heap.length l none]) i → i ≠ b ∧ Live hp.heap i := by
        rintro i hi ⟨k, hk, hne⟩
        have hib : i ≠ b := by rintro rfl; rw [hatb] at hk; cases hk; exact hne rfl
        exact ⟨hib, k, by rw [← hat i hi hib]; exact hk, hne⟩
      refine ⟨.pointer (some ⟨w.heap.size, 0, none⟩), w.alloc O, g', ?_, ?_, ?_, ?_⟩
      · exact run_range_map w ty kt vt L.blk es cl hty h1
      · exact .ptr _ 0 _ gn
      · constructor
        · intro i M hi
          by_cases hii : i = hp.heap.length
          · subst hii; rw [gn] at hi; cases hi; exact ⟨by rw [hlen]; omega, by rw [hsz]; exact Nat.lt_succ_self _⟩
          · rw [go i hii] at hi
            have := hH.dom i M hi
            exact ⟨by rw [hlen]; omega, by rw [hsz]; omega⟩
        · intro i j M N hi hj he li lj
          by_cases hii : i = hp.heap.length
          · by_cases hjj : j = hp.heap.length
            · rw [hii, hjj]
            · subst hii
              rw [gn] at hi; cases hi
              rw [go j hjj] at hj
              have := (hH.dom j N hj).2
              simp at he; omega
          · by_cases hjj : j = hp.heap.length
            · subst hjj
              rw [gn] at hj; cases hj
              rw [go i hii] at hi
              have := (hH.dom i M hi).2
              simp at he; omega
            · rw [go i hii] at hi
              rw [go j hjj] at hj
              exact hH.inj i j M N hi hj he (hlv i hii li).2 (hlv j hjj lj).2
        · intro i k hi hne
          by_cases hii : i = hp.heap.length
          · subst hii
            rw [hatn] at hi; cases hi
            refine .inr ⟨_, gn, X, #[], es', rfl, mn, hnew, ?_, h3.mono hsub, fun k v e => by cases e⟩
            have e0 : leftOf X.es #[] = es := by unfold leftOf; exact Array.filter_eq_self.2 (by simp)
            rw [e0]; exact h2
          · obtain ⟨hib, _⟩ := hlv i hii ⟨k, hi, hne⟩
            rw [hat i hii hib] at hi
            rcases hH.blk0 i k hi hne with hz | ⟨M, hM, hB⟩
            · exact .inl (hz.mono rfl)
            exact .inr ⟨M, by rw [go i hii]; exact hM, (hB.of_same (hold _ (hH.dom i M hM).2)).mono hsub⟩
        · intro i hi
          obtain ⟨M, hM, q1, q2⟩ := hH.glob i hi
          exact ⟨M, hsub.loc _ _ hM, q1, q2⟩
        · exact hH.sig
        · constructor
          · intro i Y hi hY
            obtain ⟨q1, q2⟩ := hH.frz.row i Y hi hY
            refine ⟨q1.of_same (hold _ q1.lt), fun j M hj lj he => ?_⟩
            by_cases hjj : j = hp.heap.length
            · subst hjj
              rw [gn] at hj; cases hj
              have := q1.lt
              simp at he; omega
            · rw [go j hjj] at hj
              exact q2 j M hj (hlv j hjj lj).2 he
          · intro i Y hi
            by_cases hii : i = hp.heap.length
            · subst hii
              rw [mn] at hi; cases hi
              refine ⟨by rw [hlen]; omega, ⟨by rw [hold _ hLw]; exact h1, h4, h5⟩, fun j M hj lj he => ?_⟩
              by_cases hjj : j = hp.heap.length
              · subst hjj
                rw [gn] at hj; cases hj
                simp [X] at he; omega
              · rw [go j hjj] at hj
                obtain ⟨k1, k2⟩ := hlv j hjj lj
                exact k1 (hH.inj j b M L hj hL he k2 hlb)
            · rw [mo i hii] at hi
              obtain ⟨q0, q1, q2⟩ := hH.frz.mp i Y hi
              refine ⟨by rw [hlen]; omega, q1.of_same (hold _ q1.lt), fun j M hj lj he => ?_⟩
              by_cases hjj : j = hp.heap.length
              · subst hjj
                rw [gn] at hj; cases hj
                have := q1.lt
                simp at he; omega
              · rw [go j hjj] at hj
                exact q2 j M hj (hlv j hjj lj).2 he
      · constructor
        · exact hsub
        · intro i M hi hn
          by_cases hii : i = hp.heap.length
          · subst hii; rw [gn] at hi; cases hi; exact ⟨Nat.le_refl _, .inl (Nat.le_refl _)⟩
          · rw [go i hii, hn] at hi; cases hi
        · intro i M hi hn
          by_cases hii : i = hp.heap.length
          · subst hii; rw [mn] at hi; cases hi; exact ⟨Nat.le_refl _, .inr ⟨b, L, hL, rfl, hlb⟩⟩
          · rw [mo i hii, hn] at hi; cases hi
        · rw [hlen]; omega
        · intro i hi hl
          exact (hlv i (by omega) hl).2
        · rw [hsz]; omega
        · intro k hk _; exact hold k hk
        · rfl
        · rfl
        · rfl
    · cases h
  · cases h
theorem freeze_at {w w' : World} {b n : Nat} {C : Array Value} {e : TypeId} {fr : Nat × Nat} (h : w.heap[b]? = some (.cells C e fr)) (hw : w' = w.freeze { block := b, off := n } 1) :
    w'.heap[b]? = some (.cells C e (if fr.1 == fr.2 then (n, n + 1) else (min fr.1 n, max fr.2 (n + 1)))) ∧ Wr b w w' := by
  subst hw
  obtain ⟨lo, hi⟩ := fr
  unfold World.freeze
  rw [if_neg (by decide)]
  refine ⟨?_, by simp, fun k hk => ?_, rfl, rfl, rfl⟩
  · simp only [Array.getElem?_modify, if_true, h, Option.map_some]
  · simp only [Array.getElem?_modify, if_neg (Ne.symm hk)]
theorem effA_sound (hH : HRel ng g hp.heap w) (hρ : ERel g ng t ρ) {o : Oper} {r : AVal} (h : effA P ng t o.op hp = some (r, hp')) :
    ∃ v w' g', ((execOp ρ o).run P w = .ok (.value v) w' ∨ ((execOp ρ o).run P w = .ok .skip w' ∧ v = undef)) ∧ VRel g' r v ∧ After P g ng hp hp' w w' g' := by
  obtain ⟨dst, op, type, pos, after, guard⟩ := o
  simp only at h
  unfold effA at h
  split at h
  · rename_i ty a x
    split at h
    · rename_i av xv ha hx
      split at h
      · rename_i hp2 hs
        cases h
        obtain ⟨w', h1, h2, h3⟩ := storeV_sound (P := P) hH hs (hρ a _ ha) (hρ x _ hx)
        exact ⟨undef, w', g, .inr ⟨by simp [execOp, h1], rfl⟩, .tuple _ _ .nil, h2, h3⟩
      · cases h
    · cases h
  · cases h
    obtain ⟨g', h1, h2⟩ := makeMap_after (P := P) hH
    exact ⟨_, _, g', .inl rfl, h1, h2⟩
  · rename_i ty m k x
    split at h
    · rename_i mv kv xv hm hk hx
      split at h
      · rename_i hp2 hs
        cases h
        obtain ⟨w', h1, h2⟩ := insertV_sound (P := P) hH hs (hρ m _ hm) (hρ k _ hk) (hρ x _ hx)
        exact ⟨undef, w', g, .inr ⟨by simp [execOp, h1], rfl⟩, .tuple _ _ .nil, h2⟩
      · cases h
    · cases h
  · rename_i ty m k x
    split at h
    · rename_i mv kv xv hm hk hx
      split at h
      · rename_i hp2 hs
        cases h
        obtain ⟨w', h1, h2⟩ := insertV_sound (P := P) hH hs (hρ m _ hm) (hρ k _ hk) (hρ x _ hx)
        exact ⟨undef, w', g, .inr ⟨by simp [execOp, h1], rfl⟩, .tuple _ _ .nil, h2⟩
      · cases h
    · cases h
  · rename_i ty x
    split at h
    · rename_i b hb
      obtain ⟨v, w', g', h1, h2, h3⟩ := rangeV_sound (P := P) hH h (hρ x _ hb)
      exact ⟨v, w', g', .inl (by simp [execOp, h1]), h2, h3⟩
    · cases h
  · rename_i src dst x
    split at h
    · rename_i e hsd hs
      have hsd := Nat.eq_of_beq_eq_true hsd
      subst hsd
      split at h
      · rename_i b off len cap ex he hx
        split at h
        · rename_i c e' hb
          cases h
          have hv := hρ x _ hx
          cases hu : ρ x <;> rw [hu] at hv <;> cases hv
          rename_i o' L hL h0 h1 h2
          obtain ⟨M, hM, C, fr, k1, k2, k3, k4, k5⟩ := hH.blk b _ hb (by simp)
          rw [hL] at hM; cases hM
          have hsh : w.shape? L.blk = some (e', C.size) := by simp [World.shape?, k1]
          obtain ⟨w', hw'⟩ : ∃ w', w' = w.freeze { block := L.blk, off := C.size } 1 := ⟨_, rfl⟩
          have hfz := freeze_at k1 hw'
          have hrun : ∀ cap0, (convert src src (.slice (some ⟨L.blk, L.dl + o', none⟩) len cap0)).run P w = .ok (.slice (some ⟨L.blk, L.dl + o', none⟩) len cap0) w' := by
            intro cap0
            rw [hw']
            simp [convert, run_underlying hs, run_underlying he, markStringish, hsh]
          obtain ⟨q1, q2⟩ := HRel.writeK hH (k' := .cells c e') ⟨_, hb, by simp⟩ hL hfz.2 ⟨C, _, hfz.1, k2, k3.freeze, k4, k5⟩
          have hset : hp.heap.set b (.cells c e') = hp.heap := by
            apply List.ext_getElem?
            intro m
            by_cases hm : m = b
            · subst hm
              rw [List.getElem?_set_self (List.getElem?_eq_some_iff.1 hb).1, hb]
            · rw [List.getElem?_set_ne (Ne.symm hm)]
          rw [hset] at q1 q2
          exact ⟨_, w', g, .inl (by simp only [execOp, hu, hrun, Sem.run_bind, Result.andThen_ok, Sem.run_pure]), .slice b off len cap ex o' _ L hL h0 h1 h2, q1, q2⟩
        · cases h
      · cases h
    · cases h
  · rename_i c
    split at h
    · rename_i hc
      split at h
      · rename_i l hl
        split at h
        · rename_i q hq
          cases h
          obtain ⟨v, w', g', h1, h2, h3⟩ := appendL_sound (P := P) (ty := type) (m := c.args.map ρ) hH hq (by simpa using evL_rel hρ _ _ hl)
          exact ⟨v, w', g', .inl (by simp [execOp, resolve, hc, invoke, builtin, h1]), h2, h3⟩
        split at h
        · rename_i q hq
          cases h
          obtain ⟨v, w', g', h1, h2, h3⟩ := appendA_sound (P := P) (ty := type) (m := c.args.map ρ) hH hq (by simpa using evL_rel hρ _ _ hl)
          exact ⟨v, w', g', .inl (by simp [execOp, resolve, hc, invoke, builtin, h1]), h2, h3⟩
        · obtain ⟨v, w', g', h1, h2, h3⟩ := appendZ_sound (P := P) (ty := type) (m := c.args.map ρ) hH h (by simpa using evL_rel hρ _ _ hl)
          exact ⟨v, w', g', .inl (by simp [execOp, resolve, hc, invoke, builtin, h1]), h2, h3⟩
      · cases h
    · rename_i hc
      split at h
      · rename_i l hl
        obtain ⟨v, w', h1, h2, h3⟩ := copyA_sound (P := P) (ty := type) (m := c.args.map ρ) hH h (by simpa using evL_rel hρ _ _ hl)
        exact ⟨v, w', g, .inl (by simp [execOp, resolve, hc, invoke, builtin, h1]), h2, h3⟩
      · cases h
    · cases h
  · cases h
theorem set_touchK {hp : Hp} {b : Nat} {k : Blk} (hb : Live hp.heap b) (hl : ∀ la : LoopA, k = Blk.loop la → ∃ l0, hp.heap[b]? = some (Blk.loop l0) ∧ sameLoop l0 la) : Touch hp ⟨hp.heap.set b k, b :: hp.log⟩ :=
  ⟨by simp, ⟨[b], rfl, fun i _ hn => by simp at hn; exact List.getElem?_set_ne (fun e => hn e.symm)⟩, fun i _ ⟨k', hk, hne⟩ => by
    simp only [List.getElem?_set] at hk
    split at hk
    · rename_i hbi; subst hbi; exact hb
    · exact ⟨k', hk, hne⟩, fun i la hi hla => by
    simp only [List.getElem?_set] at hla
    split at hla
    · rename_i hbi
      subst hbi
      split at hla
      · exact hl la (Option.some.inj hla)
      · rename_i h9; exact absurd hi h9
    · exact ⟨la, hla, rfl, rfl, rfl, rfl, rfl⟩⟩
theorem set_touch {hp : Hp} {b : Nat} {k : Blk} {c : List AVal} {e : TypeId} (hb : hp.heap[b]? = some (.cells c e)) (hk : ∀ la : LoopA, k ≠ Blk.loop la := by intro la h; cases h) : Touch hp ⟨hp.heap.set b k, b :: hp.log⟩ := set_touchK ⟨_, hb, by simp⟩ (fun la h => absurd h (hk la))
theorem insertV_touch {ty : TypeId} {m k v : AVal} (h : insertV P ty m k v hp = some hp') : Touch hp hp' := by
  unfold insertV at h
  split at h
  · split at h
    · split at h
      · split at h
        · rename_i l hb
          split at h
          · cases h; exact set_touchK ⟨_, hb, by simp⟩ (fun la h => by cases h)
          · cases h
        · cases h
      · cases h
    · cases h
  · cases h
theorem app_touch {hp : Hp} {k : Blk} : Touch hp ⟨hp.heap ++ [k], hp.log⟩ :=
  ⟨by simp, ⟨[], rfl, fun i hi _ => List.getElem?_append_left hi⟩, fun i hi ⟨k', hk, hne⟩ => ⟨k', by simpa only [List.getElem?_append_left hi] using hk, hne⟩, fun i la hi hl => ⟨la, by simpa only [List.getElem?_append_left hi] using hl, rfl, rfl, rfl, rfl, rfl⟩⟩
theorem appendA_touch {P : Program} {ts : List TypeId} {l : List AVal} {hp hp' : Hp} {r : AVal} (h : appendA P ts l hp = some (r, hp')) : Touch hp hp' := by
  unfold appendA at h
  split at h
  · split at h
    · split at h
      · split at h
        · split at h
          · unfold appendTo at h
            split at h
            · split at h
              · cases h; exact Touch.refl _
              · split at h
                · cases h; exact app_touch
                · cases h
            · split at h
              · split at h
                · cases h; exact Touch.refl _
                · split at h
                  · split at h
                    · cases h; exact set_touch (by assumption)
                    · cases h
                  · cases h
              · split at h
                · split at h
                  · split at h
                    · cases h; exact app_touch
                    · split at h
                      · split at h
                        · cases h; exact Touch.trans (set_touch (by assumption)) app_touch
                        · cases h
                      · cases h
                  · cases h
                · cases h
            · cases h
          · cases h
        · cases h
      · cases h
    · cases h
  · cases h
theorem dstL_live {ng : Cx} {cl : List (Option IntKind)} {e : TypeId} {s dc dn : AVal} {H : List Blk} {b : Nat} (h : dstL ng cl e s H = some (dc, dn, some b)) : ∃ k, H[b]? = some k ∧ isLst k = true := by
  unfold dstL at h
  split at h
  · cases h
  · split at h
    · split at h <;> cases h
    · cases h
  · split at h
    · split at h <;> cases h
    · split at h
      · rename_i hb
        split at h
        · cases h; exact ⟨_, hb, rfl⟩
        · cases h
      · cases h
  · split at h
    · split at h <;> cases h
    · cases h
  · cases h
theorem appendL_touch {P : Program} {ng : Cx} {ts : List TypeId} {l : List AVal} {hp hp' : Hp} {r : AVal} (h : appendL P ng ts l hp = some (r, hp')) : Touch hp hp' := by
  unfold appendL at h
  split at h
  · split at h
    · split at h
      · split at h
        · split at h
          · rename_i dc dn old sc sn hd hs
            split at h
            · cases h
              cases old with
              | none => exact app_touch
              | some b =>
                obtain ⟨k, hk, hl⟩ := dstL_live hd
                exact Touch.trans (set_touchK (k := .gone) ⟨k, hk, by rintro rfl; cases hl⟩ (fun la h => by cases h)) app_touch
            · cases h
          · cases h
        · cases h
      · cases h
    · cases h
  · cases h
theorem appendZ_touch {P : Program} {ts : List TypeId} {l : List AVal} {hp hp' : Hp} {r : AVal} (h : appendZ P ts l hp = some (r, hp')) : Touch hp hp' := by
  unfold appendZ at h
  split at h
  · split at h
    · split at h
      · split at h
        · split at h
          · cases h; exact app_touch
          · cases h
        · cases h
      · cases h
    · cases h
  · cases h
theorem effA_touch {o : Op} {r : AVal} (h : effA P ng t o hp = some (r, hp')) : Touch hp hp' := by
  unfold effA at h
  split at h
  · split at h
    · split at h
      · rename_i hs
        cases h
        unfold storeV at hs
        split at hs
        · split at hs
          · split at hs
            · split at hs
              · split at hs
                · cases hs; exact set_touch (by assumption)
                · cases hs
              · cases hs
            · cases hs
          · cases hs
        · cases hs
      · cases h
    · cases h
  · cases h; exact app_touch
  · split at h
    · split at h
      · rename_i hs; cases h; exact insertV_touch hs
      · cases h
    · cases h
  · split at h
    · split at h
      · rename_i hs; cases h; exact insertV_touch hs
      · cases h
    · cases h
  · split at h
    · unfold rangeV at h
      split at h
      · split at h
        · rename_i hb
          cases h
          exact Touch.trans (set_touchK (k := .gone) ⟨_, hb, by simp⟩ (fun la h => by cases h)) app_touch
        · cases h
      · cases h
    · cases h
  · split at h
    · split at h
      · split at h
        · cases h
          exact ⟨Nat.le_refl _, ⟨[_], rfl, fun _ _ _ => rfl⟩, fun _ _ h => h, fun _ la _ h => ⟨la, h, rfl, rfl, rfl, rfl, rfl⟩⟩
        · cases h
      · cases h
    · cases h
  · split at h
    · split at h
      · split at h
        · rename_i hq
          cases h
          exact appendL_touch hq
        split at h
        · rename_i hq
          cases h
          exact appendA_touch hq
        · exact appendZ_touch h
      · cases h
    · split at h
      · unfold copyA at h
        split at h
        · split at h
          · split at h
            · split at h
              · split at h
                · cases h; exact Touch.refl _
                · split at h
                  · cases h; exact Touch.refl _
                  · split at h
                    · split at h
                      · cases h; exact set_touch (by assumption)
                      · cases h
                    · cases h
                · cases h
              · cases h
            · cases h
          · cases h
        · cases h
      · cases h
    · cases h
  · cases h
theorem Step.touch {ops : List Oper} {o : Oper} {v : AVal} (h : Step P ng ops o t hp v hp') : Touch hp hp' := by
  cases h with
  | skip => exact Touch.refl _
  | pure => exact Touch.refl _
  | load => exact Touch.refl _
  | fresh => exact app_touch
  | eff _ _ _ h => exact effA_touch h
  | call _ _ _ _ _ _ _ _ h => exact h.touch
theorem TRel.put {a : Act} (h : TRel g t a) (d : Option Tmp) {v : AVal} {u : Value} (hv : VRel g v u) : TRel g (putA t d v) (a.put d u) := by
  cases d with
  | none => exact h
  | some d =>
    refine ⟨by simpa [putA, Act.put] using h.1, ?_⟩
    intro i x hi
    simp only [putA] at hi
    have hlt := Tm.get_lt hi
    rcases TT.get_put _ _ _ _ _ (Tm.get_tr hi) with ⟨rfl, rfl⟩ | ⟨hdi, hi⟩
    · refine ⟨u, ?_, hv⟩
      have hlt' := Nat.lt_of_lt_of_le hlt h.1
      simp [Act.put, hlt']
    · obtain ⟨y, h1, h2⟩ := h.2 i x (Tm.get_of hi hlt)
      refine ⟨y, ?_, h2⟩
      simp only [Act.put]
      rw [Array.getElem?_setIfInBounds_ne (Ne.symm hdi)]
      exact h1
theorem wantedA_spec {ops : Array Oper} {o : Oper} {a : Act} {b : Bool} (hg0 : ng.Good g.sig) (h : wantedA ng ops.toList t o = some b) (ht : TRel g t a) : Region.wanted o (yielded ops a.tmps) = b := by
  unfold wantedA at h
  unfold Region.wanted
  split at h
  · rename_i hg; cases h; rw [hg]
  · rename_i j want hg
    rw [hg]
    simp only
    unfold yielded
    split at h
    · rename_i hj
      cases h
      have : ops[j]? = none := by simpa using hj
      simp [this]
    · rename_i q hq
      have hq' : ops[j]? = some q := by simpa using hq
      split at h
      · rename_i hd
        cases h
        simp [hq', hd]
      · rename_i d hd
        split at h
        · cases h
        · rename_i v hv
          obtain ⟨u, h1, h2⟩ := ht.2 d _ hv
          have h2 := factV_rel hg0 h2
          simp only [hq', hd, Option.bind_some, h1]
          split at h
          · rename_i bb hb
            cases h
            rw [hb] at h2
            cases h2
            cases bb <;> cases want <;> rfl
          · cases h
          · cases h
          · rename_i hne hns hnj
            cases h
            generalize factV ng v = x at h2 hne hns hnj
            cases h2 <;> first | rfl | (exact absurd rfl (hne _)) | (exact absurd rfl (hns _)) | (exact absurd rfl hnj)
theorem callFunc_run {f : FuncId} {fn : Func} (hf : P.funcs[f]? = some fn) (hb : fn.body.isSome = true) (hn : ¬ (fn.name == "runtime.NumGoroutine") = true) (args : Array Value) (w : World) :
    (callFunc f args).run P w = .ok (.enter f args) w := by
  have hb' : fn.body.isNone = false := by cases h : fn.body <;> simp [h] at hb ⊢
  simp only [callFunc, Sem.run_bind, run_program, Result.andThen_ok, hf]
  rw [if_neg hn, hb']
  simp
def PRel (g : Inj) (x : PlaceA) (y : Place) : Prop :=
  match x, y with
  | .val v, .val u => VRel g v u
  | .var b off, .var a => VRel g (.ptr b off) (.pointer (some a))
  | _, _ => False
theorem fieldPlace_run {f : Field} {i : TypeInfo} {b off : Nat} {a : Addr} (hi : P.info? f.type = some i) (h0 : ¬ i.size = 0) (ha : VRel g (.ptr b off) (.pointer (some a))) :
    ∃ a', (fieldPlace a f).run P w = .ok a' w ∧ VRel g (.ptr b (off + f.offset)) (.pointer (some a')) := by
  cases ha with
  | ptr _ _ L hL =>
    refine ⟨⟨L.blk, L.dl + (off + f.offset), none⟩, ?_, .ptr _ _ L hL⟩
    simp [fieldPlace, run_sizeOf' w hi, h0, addr_add, Nat.add_assoc]
theorem followA_run : ∀ {l : List FieldStep} {t : TypeId} {x : PlaceA} {y : Place} {t' : TypeId} {x' : PlaceA}, followA P l t x = some (t', x') → PRel g x y →
    ∃ y', (follow l t y).run P w = .ok (t', y') w ∧ PRel g x' y'
  | [], _, _, y, _, _, h, hy => by simp only [followA] at h; cases h; exact ⟨y, by simp [follow], hy⟩
  | s :: rest, t, x, y, t', x', h, hy => by
    simp only [followA] at h
    split at h
    · rename_i fields hu
      split at h
      · rename_i f hf
        split at h
        · rename_i d i hd hi
          split at h
          · rename_i hs
            split at h
            · rename_i b off
              split at h
              · cases h
              · rename_i h0
                cases y with
                | var a => exact hy.elim
                | val u =>
                  have hy' : VRel g (.ptr b off) u := hy
                  cases hy' with
                  | ptr _ _ L hL =>
                    obtain ⟨a', k1, k2⟩ := fieldPlace_run (P := P) (w := w) (f := f) hi h0 (.ptr b off L hL)
                    obtain ⟨y', k3, k4⟩ := followA_run (y := .var a') h k2
                    exact ⟨y', by simp [follow, run_underlying hu, hf, hs, Place.get, asAddr, k1, k3], k4⟩
            · cases h
          · rename_i hs
            split at h
            · rename_i b off
              split at h
              · cases h
              · rename_i h0
                cases y with
                | val a => exact hy.elim
                | var a =>
                  obtain ⟨a', k1, k2⟩ := fieldPlace_run (P := P) (w := w) (f := f) hi h0 hy
                  obtain ⟨y', k3, k4⟩ := followA_run (y := .var a') h k2
                  exact ⟨y', by simp [follow, run_underlying hu, hf, hs, k1, k3], k4⟩
            · rename_i cs
              split at h
              · rename_i v hv
                cases y with
                | var a => exact hy.elim
                | val u =>
                  have hy' : VRel g (.agg cs) u := hy
                  cases hy' with
                  | agg _ C hC =>
                    obtain ⟨u', k1, k2⟩ := run_partA (P := P) w ⟨d, hd⟩ hv hC
                    obtain ⟨y', k3, k4⟩ := followA_run (y := .val u') h k2
                    exact ⟨y', by simp [follow, run_underlying hu, hf, hs, k1, k3], k4⟩
              · cases h
            · cases h
        · cases h
      · cases h
    · cases h
theorem receiverA_run {xt : TypeId} {x : PlaceA} {y : Place} {pr : Bool} {r : AVal} (wr : Option String) (h : receiverA P xt x pr = some r) (hy : PRel g x y) :
    ∃ u, (receiverAt xt y pr wr).run P w = .ok u w ∧ VRel g r u := by
  unfold receiverA at h
  split at h
  · rename_i d hu
    split at h
    · cases h
      cases y with
      | var a => exact hy.elim
      | val u => exact ⟨u, by simp [receiverAt, run_underlying hu, Place.get], hy⟩
    · cases h
  · rename_i d hne hu
    split at h
    · cases h
      cases y with
      | val a => exact hy.elim
      | var a =>
        refine ⟨.pointer (some a), ?_, hy⟩
        cases d <;> first | exact absurd rfl (hne _) | simp [receiverAt, run_underlying hu]
    · cases h
      cases y with
      | var a => exact hy.elim
      | val u =>
        refine ⟨u, ?_, hy⟩
        cases d <;> first | exact absurd rfl (hne _) | simp [receiverAt, run_underlying hu, Place.get]
    · cases h
  · cases h
theorem methodA_run {name : String} : ∀ {n : Nat} {t : TypeId} {v r : AVal} {u : Value} {f : FuncId}, methodA P n t v name = some (f, r) → VRel g v u →
    ∃ q, (method n t u name).run P w = .ok (f, q) w ∧ VRel g r q
  | 0, _, _, _, _, _, h, _ => by simp [methodA] at h
  | n + 1, t, v, r, u, f, h, hv => by
    simp only [methodA] at h
    split at h
    · rename_i info hi
      split at h
      · rename_i m hm
        split at h
        · rename_i xt x hf
          obtain ⟨y, k1, k2⟩ := followA_run (w := w) (y := .val u) hf hv
          split at h
          · rename_i k pr hmf
            split at h
            · rename_i r' hr
              cases h
              obtain ⟨q, k3, k4⟩ := receiverA_run (w := w) (if m.path.isEmpty then some ((name.splitOn ".").getLastD name) else none) hr k2
              refine ⟨q, ?_, k4⟩
              simp only [method, Sem.run_bind, typeInfo, run_program, Result.andThen_ok, hi, hm, k1, hmf, Sem.run_pure]
              rw [k3]
              rfl
            · cases h
          · rename_i hmf
            split at h
            · rename_i t' v'
              cases y with
              | var a => exact k2.elim
              | val u' =>
                have k2' : VRel g (.iface t' v') u' := k2
                cases k2' with
                | iface _ _ q hq =>
                  obtain ⟨q', k3, k4⟩ := methodA_run h hq
                  refine ⟨q', ?_, k4⟩
                  simp only [method, Sem.run_bind, typeInfo, run_program, Result.andThen_ok, hi, hm, k1, hmf, Sem.run_pure, Place.get]
                  exact k3
            · cases h
        · cases h
      · cases h
    · cases h
theorem enterA_run {k f : FuncId} {args args' : List AVal} (h : enterA P k args = some (f, args')) (m : Array Value) : (callFunc k m).run P w = .ok (.enter f m) w ∧ args' = args := by
  unfold enterA at h
  split at h
  · rename_i fn hfn
    split at h
    · rename_i hc
      cases h
      exact ⟨callFunc_run hfn hc.1 hc.2 m w, rfl⟩
    · cases h
  · cases h
theorem callMethod_run {name : String} {ty : TypeId} {v r : AVal} {u : Value} {k f : FuncId} {rest args' : List AVal} {m : Array Value} (h : methodA P (P.types.size + Made.depth) ty v name = some (k, r)) (hv : VRel g v u)
    (he : enterA P k (r :: rest) = some (f, args')) (hm : LRel g rest m.toList) : ∃ q : Array Value, (callMethod (.iface ty u) name m).run P w = .ok (.enter f q) w ∧ LRel g args' q.toList := by
  obtain ⟨q, k1, k2⟩ := methodA_run (w := w) h hv
  obtain ⟨k3, rfl⟩ := enterA_run (w := w) he (#[q] ++ m)
  refine ⟨#[q] ++ m, ?_, by simpa using LRel.cons _ _ _ _ k2 hm⟩
  simp only [callMethod, Sem.run_bind, run_program, Result.andThen_ok, k1]
  exact k3
theorem resolveA_sound {c : Call} {type : TypeId} {f : FuncId} {args : List AVal} (hρ : ERel g ng t ρ) (h : resolveA P ng t c = some (f, args)) :
    ∃ args' : Array Value, (do let d ← resolve ρ c type; invoke d.target d.args : Sem Next).run P w = .ok (.enter f args') w ∧ LRel g args args'.toList := by
  unfold resolveA at h
  split at h
  · rename_i fo hc
    split at h
    · rename_i k first cap l hf hl
      have h1 := hρ fo _ hf
      cases hh : ρ fo <;> rw [hh] at h1 <;> cases h1
      rename_i first' cap' hfirst hcap
      obtain ⟨k1, rfl⟩ := enterA_run (w := w) h (first' ++ c.args.map ρ ++ cap')
      refine ⟨first' ++ c.args.map ρ ++ cap', ?_, ?_⟩
      · simp [resolve, hc, hh, Deferred.ofValue, invoke] at k1 ⊢
        exact k1
      · have := (hfirst.append (evL_rel hρ _ _ hl)).append hcap
        simpa using this
    · rename_i ty path k pr first cap l hf hl
      have h1 := hρ fo _ hf
      cases hh : ρ fo <;> rw [hh] at h1 <;> cases h1
      rename_i first' cap' hfirst hcap
      have hall := hfirst.append (evL_rel hρ _ _ hl)
      split at h
      · rename_i x rest hx
        rw [hx] at hall
        have e1 : first'.toList ++ c.args.toList.map ρ = (first' ++ c.args.map ρ).toList := by simp
        cases hall2 : (first'.toList ++ c.args.toList.map ρ) with
        | nil => rw [hall2] at hall; cases hall
        | cons u us =>
          rw [hall2] at hall
          cases hall with
          | cons _ _ _ _ hxu hrest =>
            split at h
            · rename_i xt y hfo
              split at h
              · rename_i r hr
                obtain ⟨y', k1, k2⟩ := followA_run (w := w) (y := .val u) hfo hxu
                obtain ⟨q, k3, k4⟩ := receiverA_run (w := w) none hr k2
                have e2 : first' ++ c.args.map ρ = (u :: us).toArray := by rw [← hall2]; simp
                obtain ⟨k5, rfl⟩ := enterA_run (w := w) h (#[q] ++ us.toArray)
                refine ⟨#[q] ++ us.toArray, ?_, by simpa using LRel.cons _ _ _ _ k4 hrest⟩
                have e3 : (u :: us).toArray.extract 1 (us.length + 1) = us.toArray := by simp
                simp only [resolve, hc, hh, Deferred.ofValue, Sem.run_bind, Sem.run_pure, Result.andThen_ok, invoke, e2]
                simp only [List.getElem?_toArray, List.getElem?_cons_zero, receiverVia, Sem.run_bind, k1, Result.andThen_ok, k3]
                simpa using k5
              · cases h
            · cases h
      · cases h
    · rename_i name first cap l hf hl
      have h1 := hρ fo _ hf
      cases hh : ρ fo <;> rw [hh] at h1 <;> cases h1
      rename_i first' cap' hfirst hcap
      have hall := hfirst.append (evL_rel hρ _ _ hl)
      split at h
      · rename_i ty v rest hx
        rw [hx] at hall
        cases hall2 : (first'.toList ++ c.args.toList.map ρ) with
        | nil => rw [hall2] at hall; cases hall
        | cons u us =>
          rw [hall2] at hall
          cases hall with
          | cons _ _ _ _ hxu hrest =>
            cases hxu with
            | iface _ _ v' hv' =>
            split at h
            · rename_i k r hm
              obtain ⟨q, k1, k2⟩ := callMethod_run (w := w) (m := us.toArray) hm hv' h (by simpa using hrest)
              have e2 : first' ++ c.args.map ρ = (Value.iface ty v' :: us).toArray := by rw [← hall2]; simp
              refine ⟨q, ?_, k2⟩
              simp only [resolve, hc, hh, Deferred.ofValue, Sem.run_bind, Sem.run_pure, Result.andThen_ok, invoke, e2]
              simpa using k1
            · cases h
      · cases h
    · cases h
  · rename_i x name hc
    split at h
    · rename_i ty v l hx hl
      split at h
      · rename_i k r hm
        have h1 := hρ x _ hx
        cases hh : ρ x <;> rw [hh] at h1 <;> cases h1
        rename_i v' hv'
        obtain ⟨q, k1, k2⟩ := callMethod_run (w := w) (m := c.args.map ρ) hm hv' h (by simpa using evL_rel hρ _ _ hl)
        refine ⟨q, ?_, k2⟩
        have e1 : (#[Value.iface ty v'] ++ c.args.map ρ)[0]? = some (.iface ty v') := by simp [Array.getElem?_append]
        have e2 : (#[Value.iface ty v'] ++ c.args.map ρ).extract 1 (#[Value.iface ty v'] ++ c.args.map ρ).size = c.args.map ρ := by
          apply Array.ext'
          simp
          exact List.take_of_length_le (by simp)
        simp only [resolve, hc, hh, Sem.run_bind, Sem.run_pure, Result.andThen_ok, invoke, e1, e2]
        exact k1
      · cases h
    · cases h
  · cases h
def FR (r : Option Nat) : Fence := { Fence.wide with round := r }
theorem callsIn_FR {r : Option Nat} {n : Nat} {P : Program} {f : FuncId} {args : Array Value} {w : World} {R : Ending → World → Prop} (h : Calls P f args w R) : CallsIn (FR r) n P f args w R :=
  (callsIn_wide.2 h : CallsIn Fence.wide n P f args w R)
theorem calls_FR {r : Option Nat} {n : Nat} {P : Program} {f : FuncId} {args : Array Value} {w : World} {R : Ending → World → Prop} (h : CallsIn (FR r) n P f args w R) : Calls P f args w R :=
  callsIn_wide.1 (show CallsIn Fence.wide n P f args w R from h)
theorem pure_nodefer {ops : Op} {v : AVal} (h : pureA P ng t ops = some v) (c : Call) : ops ≠ .defer c := by
  rintro rfl; simp [pureA] at h
theorem load_nodefer {ops : Op} {v : AVal × Option Nat} {H : List Blk} (h : loadA P ng t ops H = some v) (c : Call) : ops ≠ .defer c := by
  rintro rfl; simp [loadA] at h
theorem fresh_nodefer {ops : Op} {v : List AVal × TypeId × Mk} (h : freshA P ng t ops = some v) (c : Call) : ops ≠ .defer c := by
  rintro rfl; simp [freshA] at h
theorem eff_nodefer {ops : Op} {v : AVal × Hp} {hp : Hp} (h : effA P ng t ops hp = some v) (c : Call) : ops ≠ .defer c := by
  rintro rfl; simp [effA] at h
theorem Step.wp {r : Option Nat} {ops : Array Oper} {o : Oper} {v : AVal} {a : Act} {K : Act → World → Prop} {Q : Exit → Act → World → Prop} (h : Step P ng ops.toList o t hp v hp') (hH : HRel ng g hp.heap w) (ht : TRel g t a)
    (hK : ∀ g' u w', VRel g' v u → HRel ng g' hp'.heap w' → Ext g hp.heap w g' hp'.heap w' → K (a.put o.dst u) w') :
    if Region.wanted o (yielded ops a.tmps) then o.wpIn (FR r) 0 P a w K Q else (∀ f, o.about P w a.eval = some f → (FR r).fn f) ∧ K (a.put o.dst undef) w := by
  have hρ : ERel g ng t a.eval := ⟨fun x v hv => ht.eval hH.sig hH.glob hv, hH.sig⟩
  cases h with
  | skip hw => rw [wantedA_spec hH.sig hw ht]; exact ⟨fun _ _ => trivial, hK g undef w (.tuple _ _ .nil) hH (Ext.refl _ _ _)⟩
  | pure v hw h =>
    rw [wantedA_spec hH.sig hw ht, if_pos rfl]
    obtain ⟨u, h1, h2⟩ := pureA_sound (P := P) w hρ h
    refine ⟨fun _ _ => trivial, ?_⟩
    rw [Oper.semAt_eq _ _ _ (pure_nodefer h), h1]
    exact hK g u w h2 hH (Ext.refl _ _ _)
  | load v b hw h =>
    rw [wantedA_spec hH.sig hw ht, if_pos rfl]
    obtain ⟨u, h1, h2⟩ := loadA_sound (P := P) hH hρ h
    refine ⟨fun _ _ => trivial, ?_⟩
    rw [Oper.semAt_eq _ _ _ (load_nodefer h), h1]
    exact hK g u w h2 hH (Ext.refl _ _ _)
  | fresh c e m hw h =>
    rw [wantedA_spec hH.sig hw ht, if_pos rfl]
    obtain ⟨u, C, fr, w0, hF⟩ := freshA_sound (P := P) (g := g) (w := w) hρ h
    refine ⟨fun _ _ => trivial, ?_⟩
    rw [Oper.semAt_eq _ _ _ (fresh_nodefer h), hF.run]
    have hid : g hp.heap.length = none := by
      cases hg : g hp.heap.length with
      | none => rfl
      | some M => have := (hH.dom _ M hg).1; omega
    have hng : ng.n ≤ hp.heap.length := by
      rcases Nat.lt_or_ge hp.heap.length ng.n with h9 | h9
      · obtain ⟨L, hL, _⟩ := hH.glob _ h9
        rw [hid] at hL; cases hL
      · exact h9
    have := HRel.alloc hH (H' := hp.heap ++ [.cells c e]) hid hng (c := c) (e := e) (C := C) (fr := fr) hF.heap hF.os hF.tape hF.output (by simp) (by
      intro j hj
      rcases Nat.lt_or_ge j hp.heap.length with h9 | h9
      · rw [List.getElem?_append_left h9]
      · rw [List.getElem?_append_right h9, List.getElem?_eq_none h9]
        have : j - hp.heap.length ≠ 0 := by omega
        simp [this]) (by simp) (.inl (Nat.le_refl _)) hF.fr hF.len hF.rel
    exact hK _ u _ (hF.val _ _ (upd_same _ _ _)) this.1 (this.2 (Nat.le_refl _))
  | eff v _ hw h =>
    rw [wantedA_spec hH.sig hw ht, if_pos rfl]
    obtain ⟨u, w', g', h1, h2, h3⟩ := effA_sound (P := P) hH hρ h
    refine ⟨fun _ _ => trivial, ?_⟩
    rw [Oper.semAt_eq _ _ _ (eff_nodefer h)]
    rcases h1 with h1 | ⟨h1, rfl⟩
    · rw [h1]
      exact hK g' u w' h2 h3.rel h3.ext
    · rw [h1]
      exact hK g' _ w' h2 h3.rel h3.ext
  | call c f args v _ hw hop hres hcall =>
    rw [wantedA_spec hH.sig hw ht, if_pos rfl]
    obtain ⟨args', h1, h2⟩ := resolveA_sound (P := P) (w := w) (type := o.type) hρ hres
    have h1' : (execOp a.eval o).run P w = .ok (.enter f args') w := by
      obtain ⟨dst, op, type, pos, after, guard⟩ := o
      simp only at hop h1
      subst hop
      exact h1
    refine ⟨fun _ _ => trivial, ?_⟩
    rw [Oper.semAt_eq _ _ _ (by intro c'; rw [hop]; intro h; cases h), h1']
    refine ⟨fun h => (by cases h), callsIn_FR ((hcall.calls g w args' hH h2).mono ?_)⟩
    rintro e w' ⟨g', ⟨u, rfl, hu⟩, hH', hE⟩
    exact hK g' u w' hu hH' hE
end
end Go.Ev
namespace Go.Ev
inductive DK where
  | lite
  | load (b : Option Nat)
  | fresh (id : Nat) (c : List AVal) (e : TypeId)
  | eff (pre : List Nat)
  | mk (x : Nat)
  | ins (x : Nat) (d : TypeDesc) (k v : AVal)
def DK.isEff : DK → Prop
  | .eff _ => True
  | _ => False
def Lite (P : Program) (ng : Cx) (ops : List Oper) (o : Oper) (t : Tm) (v : AVal) : Prop :=
  (wantedA ng ops t o = some false ∧ v = undefA) ∨ (wantedA ng ops t o = some true ∧ pureA P ng t o.op = some v)
def Masked (kd : Nat → DK) (anc : Nat → Nat → Prop) (i x : Nat) : Prop := (∃ j c e, j < i ∧ kd j = .fresh x c e ∧ ¬ anc i j) ∨ ∃ j, j < i ∧ kd j = .mk x
def InsA (P : Program) (ng : Cx) (t : Tm) (op : Op) (x : Nat) (d : TypeDesc) (k v : AVal) : Prop :=
  ∃ ty m k' v' kt vt u, op = .insert ty m k' v' ∧ P.underlying ty = some (.map kt vt) ∧ P.underlying kt = some d ∧ ev ng t m = some (.map x) ∧ ev ng t k' = some k ∧ ev ng t v' = some v ∧ keyA d k = some u
structure DTr (P : Program) (ng : Cx) (ops : Array Oper) (r0 : Nat) (tm tr : Nat → Tm) (hp : Nat → Hp) (val : Nat → AVal) (kd : Nat → DK) (anc : Nat → Nat → Prop) : Prop where
  le0 : r0 ≤ (hp 0).heap.length
  kdn : ∀ j, ops.size ≤ j → kd j = .lite
  edge : ∀ (i : Nat) (o : Oper), ops[i]? = some o → ∀ e, e ∈ o.after → Region.binds .any e = true → e.on < i
  ancI : ∀ i j, anc i j → ∃ o : Oper, ops[i]? = some o ∧ ∃ e, e ∈ o.after ∧ Region.binds .any e = true ∧ (e.on = j ∨ anc e.on j)
  dst : ∀ (i j : Nat) (x y : Oper) (d : Nat), ops[i]? = some x → ops[j]? = some y → x.dst = some d → y.dst = some d → i = j
  reads : ∀ (i d : Nat) (v : AVal), i < ops.size → (tr i).get d = some v → (tm i).get d = some v ∧ ∀ (j : Nat) (y : Oper), ops[j]? = some y → y.dst = some d → j ≠ i → anc i j ∨ anc j i
  trl : ∀ i, (tr i).len = (tm i).len
  effs : ∀ i j, i < j → (kd i).isEff → (kd j).isEff → anc j i
  loads : ∀ i b j pre, kd i = .load (some b) → kd j = .eff pre → ¬ anc i j → ¬ anc j i → b ∉ pre
  tmS : ∀ (i : Nat) (o : Oper), ops[i]? = some o → tm (i + 1) = putA (tm i) o.dst (val i)
  uniq : ∀ i j x c e c' e', kd i = .fresh x c e → kd j = .fresh x c' e' → i = j
  uniqM : ∀ i j x, kd i = .mk x → kd j = .mk x → i = j
  apart : ∀ i j x c e, kd i = .mk x → kd j ≠ .fresh x c e
  loadsM : ∀ i j b, kd i = .load (some b) → kd j ≠ .mk b
  insM : ∀ i x d k v, kd i = .ins x d k v → ∃ j, kd j = .mk x ∧ anc i j
  keys : ∀ i j x d k v d' k' v', i ≠ j → kd i = .ins x d k v → kd j = .ins x d' k' v' → (∃ u, keyA d k' = some u) ∧ sameA k' k = false
  step : ∀ (i : Nat) (o : Oper), ops[i]? = some o → match kd i with
    | .mk x => wantedA ng ops.toList (tr i) o = some true ∧ (∃ ty, o.op = .makeMap ty none) ∧ val i = .map x ∧ r0 ≤ x ∧ (hp 0).heap[x]? = some .gone ∧ hp (i + 1) = ⟨(hp i).heap.set x (.map []), (hp i).log⟩
    | .ins x d k v => wantedA ng ops.toList (tr i) o = some true ∧ InsA P ng (tr i) o.op x d k v ∧ val i = undefA ∧ ∃ l, (hp i).heap[x]? = some (.map l) ∧ hp (i + 1) = ⟨(hp i).heap.set x (.map (l ++ [(k, v)])), (hp i).log⟩
    | .lite => hp (i + 1) = hp i ∧ Lite P ng ops.toList o (tr i) (val i)
    | .load b => hp (i + 1) = hp i ∧ wantedA ng ops.toList (tr i) o = some true ∧ loadA P ng (tr i) o.op (hp i).heap = some (val i, b)
    | .fresh x c e => wantedA ng ops.toList (tr i) o = some true ∧ (∃ m, freshA P ng (tr i) o.op = some (c, e, m) ∧ val i = m.val x) ∧ r0 ≤ x ∧ (hp 0).heap[x]? = some .gone ∧
        hp (i + 1) = ⟨(hp i).heap.set x (.cells c e), (hp i).log⟩
    | .eff pre => ∃ hm hm', Step P ng ops.toList o (tr i) hm (val i) hm' ∧ hm.heap.length = (hp i).heap.length ∧ (∀ x, Masked kd anc i x → hm.heap[x]? = some .gone) ∧
        (∀ x, ¬ Masked kd anc i x → hm.heap[x]? = (hp i).heap[x]?) ∧ (hp (i + 1)).heap.length = hm'.heap.length ∧ (∀ x, Masked kd anc i x → (hp (i + 1)).heap[x]? = (hp i).heap[x]?) ∧
        (∀ x, ¬ Masked kd anc i x → (hp (i + 1)).heap[x]? = hm'.heap[x]?) ∧ (∀ x, x < hm.heap.length → x ∉ pre → hm'.heap[x]? = hm.heap[x]?)
theorem le_ind {p : Nat} {C : Nat → Prop} (h0 : C p) (h1 : ∀ i, p ≤ i → C i → C (i + 1)) : ∀ i, p ≤ i → C i := by
  intro i hi
  obtain ⟨d, rfl⟩ := Nat.exists_eq_add_of_le hi
  clear hi
  induction d with
  | zero => exact h0
  | succ d ih => exact h1 _ (Nat.le_add_right _ _) ih
theorem not_live_gone {H : List Blk} {x : Nat} (hx : x < H.length) (h : ¬ Live H x) : H[x]? = some .gone := by
  rw [List.getElem?_eq_getElem hx]
  cases hk : H[x] with
  | gone => rfl
  | map l => exact absurd ⟨_, List.getElem?_eq_getElem hx, by rw [hk]; simp⟩ h
  | cells c e => exact absurd ⟨_, List.getElem?_eq_getElem hx, by rw [hk]; simp⟩ h
  | loop l => exact absurd ⟨_, List.getElem?_eq_getElem hx, by rw [hk]; simp⟩ h
  | iter x l cur => exact absurd ⟨_, List.getElem?_eq_getElem hx, by rw [hk]; simp⟩ h
  | dfr => exact absurd ⟨_, List.getElem?_eq_getElem hx, by rw [hk]; simp⟩ h
  | lst s n cl e => exact absurd ⟨_, List.getElem?_eq_getElem hx, by rw [hk]; simp⟩ h
theorem gone_not_live {H : List Blk} {x : Nat} (h : H[x]? = some .gone) : ¬ Live H x := by
  rintro ⟨k, hk, hne⟩
  rw [h] at hk; cases hk; exact hne rfl
theorem HRel.weaken {ng : Cx} {g : Inj} {H H' : List Blk} {w : World} (h : HRel ng g H w) (hl : H'.length = H.length) (hw : ∀ (x : Nat) (k : Blk), H'[x]? = some k → k ≠ .gone → H[x]? = some k) : HRel ng g H' w :=
  ⟨fun i L hi => by rw [hl]; exact h.dom i L hi, fun i j L M hi hj hb ⟨k, hk, hn⟩ ⟨k', hk', hn'⟩ => h.inj i j L M hi hj hb ⟨k, hw i k hk hn, hn⟩ ⟨k', hw j k' hk' hn', hn'⟩,
    fun i k hi hk => h.blk0 i k (hw i k hi hk) hk, h.glob, h.sig,
    h.frz.to rfl rfl (Nat.le_of_eq hl.symm) fun b hb q2 => ⟨rfl, fun j L hj ⟨k, hk, hn⟩ => q2 j L hj ⟨k, hw j k hk hn, hn⟩⟩⟩
theorem Ext.weaken {g0 g : Inj} {H0 H H' : List Blk} {w0 w : World} (h : Ext g0 H0 w0 g H w) (hl : H0.length ≤ H'.length) (hw : ∀ x, x < H0.length → Live H' x → Live H x) : Ext g0 H0 w0 g H' w where
  sub := h.sub
  new := h.new
  newm := h.newm
  len := hl
  live := fun i hi hl => h.live i hi (hw i hi hl)
  size := h.size
  frame := h.frame
  os := h.os
  tape := h.tape
  output := h.output
theorem HRel.relax {ng : Cx} {g : Inj} {H H' : List Blk} {w : World} (h : HRel ng g H w) (hl : H.length ≤ H'.length)
    (hb : ∀ (j : Nat) (k' : Blk), H'[j]? = some k' → k' ≠ .gone → ∃ k, H[j]? = some k ∧ k ≠ .gone ∧ (∀ L, BRel g w k L → BRel g w k' L) ∧ (NoneL g k → NoneL g k')) : HRel ng g H' w := by
  have hv : ∀ j, Live H' j → Live H j := fun j ⟨k, hk, hn⟩ => let ⟨k0, h1, h2, _⟩ := hb j k hk hn; ⟨k0, h1, h2⟩
  refine ⟨fun j L hj => ⟨Nat.lt_of_lt_of_le (h.dom j L hj).1 hl, (h.dom j L hj).2⟩, fun i j L M hi hj he li lj => h.inj i j L M hi hj he (hv i li) (hv j lj), ?_, h.glob, h.sig,
    h.frz.to rfl rfl hl fun b hb q2 => ⟨rfl, fun j L hj lj => q2 j L hj (hv j lj)⟩⟩
  intro j k' hk' hne
  obtain ⟨k, h1, h2, h3, h4⟩ := hb j k' hk' hne
  rcases h.blk0 j k h1 h2 with hz | ⟨L, hL, hB⟩
  · exact .inl (h4 hz)
  exact .inr ⟨L, hL, h3 L hB⟩
theorem Ext.relax {g0 g : Inj} {H0 H H' : List Blk} {w0 w : World} (h : Ext g0 H0 w0 g H w) (hl : H.length ≤ H'.length) (hv : ∀ j, Live H' j → Live H j) : Ext g0 H0 w0 g H' w :=
  ⟨h.sub, h.new, h.newm, Nat.le_trans h.len hl, fun j hj lj => h.live j hj (hv j lj), h.size, h.frame, h.os, h.tape, h.output⟩
theorem MRel.perm {g : Inj} {l l' : List (AVal × AVal)} (hp : l.Perm l') : ∀ {m : List MapEntry}, MRel g l m → ∃ m', m.Perm m' ∧ MRel g l' m' := by
  induction hp with
  | nil => intro m h; exact ⟨m, .refl _, h⟩
  | cons x _ ih =>
    intro m h
    cases h with
    | cons k v e _ m h1 h2 h3 =>
      obtain ⟨m', q1, q2⟩ := ih h3
      exact ⟨e :: m', q1.cons e, .cons k v e _ m' h1 h2 q2⟩
  | swap x y l =>
    intro m h
    cases h with
    | cons k v e _ m h1 h2 h3 => cases h3 with
      | cons k' v' e' _ m h1' h2' h3 => exact ⟨e' :: e :: m, List.Perm.swap _ _ _, .cons k' v' e' _ _ h1' h2' (.cons k v e _ _ h1 h2 h3)⟩
  | trans _ _ ih1 ih2 =>
    intro m h
    obtain ⟨m1, q1, q2⟩ := ih1 h
    obtain ⟨m2, q3, q4⟩ := ih2 q2
    exact ⟨m2, q1.trans q3, q4⟩
theorem BRel.perm {g : Inj} {w : World} {l l' : List (AVal × AVal)} {L : Loc} (hp : l.Perm l') (h : BRel g w (.map l) L) : BRel g w (.map l') L := by
  obtain ⟨es, cl, es', h1, h2, h3, h4⟩ := h
  obtain ⟨m', q1, q2⟩ := h3.perm hp
  exact ⟨es, cl, m', h1, h2.trans q1, q2, h4⟩
section
variable {P : Program} {ng : Cx} {ops : Array Oper} {r0 : Nat} {tm tr : Nat → Tm} {hp : Nat → Hp} {val : Nat → AVal} {kd : Nat → DK} {anc : Nat → Nat → Prop}
theorem DTr.lt (T : DTr P ng ops r0 tm tr hp val kd anc) {j : Nat} (h : kd j ≠ .lite) : j < ops.size := by
  rcases Nat.lt_or_ge j ops.size with h1 | h1
  · exact h1
  · exact absurd (T.kdn j h1) h
theorem DTr.anc_lt (T : DTr P ng ops r0 tm tr hp val kd anc) : ∀ (i j : Nat), anc i j → j < i := by
  intro i
  induction i using Nat.strongRecOn with
  | _ i ih =>
    intro j h
    obtain ⟨o, ho, e, he, hb, h'⟩ := T.ancI i j h
    have hlt := T.edge i o ho e he hb
    rcases h' with rfl | h'
    · exact hlt
    · exact Nat.lt_trans (ih e.on hlt j h') hlt
theorem DTr.len_succ (T : DTr P ng ops r0 tm tr hp val kd anc) {i : Nat} {o : Oper} (ho : ops[i]? = some o) : (hp i).heap.length ≤ (hp (i + 1)).heap.length ∧ (¬ (kd i).isEff → (hp (i + 1)).heap.length = (hp i).heap.length) := by
  have hs := T.step i o ho
  cases hk : kd i with
  | lite => rw [hk] at hs; rw [hs.1]; simp
  | load b => rw [hk] at hs; rw [hs.1]; simp
  | fresh x c e => rw [hk] at hs; rw [hs.2.2.2.2]; simp
  | mk x => rw [hk] at hs; rw [hs.2.2.2.2.2]; simp
  | ins x d k v => rw [hk] at hs; obtain ⟨_, _, _, l, _, h⟩ := hs; rw [h]; simp
  | eff pre =>
    rw [hk] at hs
    obtain ⟨hm, hm', h1, h2, _, _, h5, _⟩ := hs
    have := h1.touch.len
    exact ⟨by omega, fun h => absurd trivial h⟩
theorem DTr.other (T : DTr P ng ops r0 tm tr hp val kd anc) {i x : Nat} {o : Oper} (ho : ops[i]? = some o) (he : ¬ (kd i).isEff) (hf : ∀ c e, kd i ≠ .fresh x c e) (hm : ∀ j, kd j ≠ .mk x) : (hp (i + 1)).heap[x]? = (hp i).heap[x]? := by
  have hs := T.step i o ho
  cases hk : kd i with
  | lite => rw [hk] at hs; rw [hs.1]
  | load b => rw [hk] at hs; rw [hs.1]
  | fresh y c e =>
    rw [hk] at hs; rw [hs.2.2.2.2]
    exact List.getElem?_set_ne (fun h => hf c e (by rw [hk, h]))
  | mk y =>
    rw [hk] at hs; rw [hs.2.2.2.2.2]
    exact List.getElem?_set_ne (fun h => hm i (by rw [hk, h]))
  | ins y d k v =>
    obtain ⟨j, hj, _⟩ := T.insM i y d k v hk
    rw [hk] at hs; obtain ⟨_, _, _, l, _, h⟩ := hs; rw [h]
    exact List.getElem?_set_ne (fun h => hm j (by rw [hj, h]))
  | eff pre => rw [hk] at he; exact absurd trivial he
theorem DTr.len (T : DTr P ng ops r0 tm tr hp val kd anc) : ∀ i, i ≤ ops.size → (hp 0).heap.length ≤ (hp i).heap.length
  | 0, _ => Nat.le_refl _
  | i + 1, h => Nat.le_trans (T.len i (by omega)) (T.len_succ (o := ops[i]) (by simp [show i < ops.size by omega])).1
theorem DTr.stable (T : DTr P ng ops r0 tm tr hp val kd anc) {p : Nat} : ∀ (i : Nat), p ≤ i → i ≤ ops.size → (∀ j, p ≤ j → j < i → ¬ (kd j).isEff) → (hp i).heap.length = (hp p).heap.length ∧
    ∀ x, (∀ j c e, p ≤ j → j < i → kd j ≠ .fresh x c e) → (∀ j, kd j ≠ .mk x) → (hp i).heap[x]? = (hp p).heap[x]? := by
  refine le_ind ?_ ?_
  · intro _ _; exact ⟨rfl, fun _ _ _ => rfl⟩
  · intro i hpi ih hn hne
    obtain ⟨l1, l2⟩ := ih (by omega) (fun j h1 h2 => hne j h1 (by omega))
    have ho : ops[i]? = some ops[i] := by simp [show i < ops.size by omega]
    have hnei := hne i hpi (Nat.lt_succ_self i)
    refine ⟨((T.len_succ ho).2 hnei).trans l1, fun x hx hxm => ?_⟩
    rw [← l2 x (fun j c e h1 h2 => hx j c e h1 (by omega)) hxm]
    exact T.other ho hnei (fun c e => hx i c e hpi (Nat.lt_succ_self i)) hxm
theorem DTr.gone_until (T : DTr P ng ops r0 tm tr hp val kd anc) {j x : Nat} {c : List AVal} {e : TypeId} (hj : kd j = .fresh x c e) : ∀ i, i ≤ j → (hp i).heap[x]? = some .gone := by
  have hjn : j < ops.size := T.lt (by rw [hj]; simp)
  have hsj := T.step j _ (by simp [hjn] : ops[j]? = some ops[j])
  rw [hj] at hsj
  intro i
  induction i with
  | zero => intro _; exact hsj.2.2.2.1
  | succ i ih =>
    intro hi
    have ih := ih (by omega)
    have ho : ops[i]? = some ops[i] := by simp [show i < ops.size by omega]
    have hs := T.step i _ ho
    cases hk : kd i with
    | lite => rw [hk] at hs; rw [hs.1]; exact ih
    | load b => rw [hk] at hs; rw [hs.1]; exact ih
    | fresh y c' e' =>
      rw [hk] at hs; rw [hs.2.2.2.2]
      have hxy : y ≠ x := fun he => by subst he; have := T.uniq i j _ _ _ _ _ hk hj; omega
      simp only [List.getElem?_set_ne hxy]; exact ih
    | mk y => rw [T.other ho (by rw [hk]; exact id) (fun c e => by rw [hk]; intro h; cases h) (fun j' h => T.apart j' j x _ _ h hj)]; exact ih
    | ins y d k v => rw [T.other ho (by rw [hk]; exact id) (fun c e => by rw [hk]; intro h; cases h) (fun j' h => T.apart j' j x _ _ h hj)]; exact ih
    | eff pre =>
      rw [hk] at hs
      obtain ⟨hm, hm', h1, h2, h3, h4, h5, h6, h7, h8⟩ := hs
      by_cases hM : Masked kd anc i x
      · rw [h6 x hM]; exact ih
      · rw [h7 x hM]
        have hx : hm.heap[x]? = some .gone := by rw [h4 x hM]; exact ih
        have hxl : x < hm.heap.length := (List.getElem?_eq_some_iff.1 hx).1
        exact not_live_gone (Nat.lt_of_lt_of_le hxl h1.touch.len) fun hl => gone_not_live hx (h1.touch.live x hxl hl)
theorem DTr.gone_untilM (T : DTr P ng ops r0 tm tr hp val kd anc) {j x : Nat} (hj : kd j = .mk x) : ∀ i, i ≤ j → (hp i).heap[x]? = some .gone := by
  have hjn : j < ops.size := T.lt (by rw [hj]; simp)
  have hsj := T.step j _ (by simp [hjn] : ops[j]? = some ops[j])
  rw [hj] at hsj
  intro i
  induction i with
  | zero => intro _; exact hsj.2.2.2.2.1
  | succ i ih =>
    intro hi
    have ih := ih (by omega)
    have ho : ops[i]? = some ops[i] := by simp [show i < ops.size by omega]
    have hs := T.step i _ ho
    cases hk : kd i with
    | lite => rw [hk] at hs; rw [hs.1]; exact ih
    | load b => rw [hk] at hs; rw [hs.1]; exact ih
    | fresh y c' e' =>
      rw [hk] at hs; rw [hs.2.2.2.2]
      have hxy : y ≠ x := fun he => by subst he; exact T.apart j i y _ _ hj hk
      simp only [List.getElem?_set_ne hxy]; exact ih
    | mk y =>
      rw [hk] at hs; rw [hs.2.2.2.2.2]
      have hxy : y ≠ x := fun he => by subst he; have := T.uniqM i j y hk hj; omega
      simp only [List.getElem?_set_ne hxy]; exact ih
    | ins y d k v =>
      obtain ⟨j', hj', ha⟩ := T.insM i y d k v hk
      have hlt := T.anc_lt i j' ha
      rw [hk] at hs; obtain ⟨_, _, _, l, _, h⟩ := hs; rw [h]
      have hxy : y ≠ x := fun he => by subst he; have := T.uniqM j' j y hj' hj; omega
      simp only [List.getElem?_set_ne hxy]; exact ih
    | eff pre =>
      rw [hk] at hs
      obtain ⟨hm, hm', h1, h2, h3, h4, h5, h6, h7, h8⟩ := hs
      by_cases hM : Masked kd anc i x
      · rw [h6 x hM]; exact ih
      · rw [h7 x hM]
        have hx : hm.heap[x]? = some .gone := by rw [h4 x hM]; exact ih
        have hxl : x < hm.heap.length := (List.getElem?_eq_some_iff.1 hx).1
        exact not_live_gone (Nat.lt_of_lt_of_le hxl h1.touch.len) fun hl => gone_not_live hx (h1.touch.live x hxl hl)
theorem DTr.filled (T : DTr P ng ops r0 tm tr hp val kd anc) {j x : Nat} {c : List AVal} {e : TypeId} (hj : kd j = .fresh x c e) {i : Nat} (hji : j < i) (hi : i ≤ ops.size) (hne : ∀ k, j < k → k < i → ¬ (kd k).isEff) :
    (hp i).heap[x]? = some (.cells c e) := by
  have hjn : j < ops.size := T.lt (by rw [hj]; simp)
  have hg := T.gone_until hj j (Nat.le_refl _)
  have hsj := T.step j _ (by simp [hjn] : ops[j]? = some ops[j])
  rw [hj] at hsj
  have h1 : (hp (j + 1)).heap[x]? = some (.cells c e) := by
    rw [hsj.2.2.2.2]
    have := (List.getElem?_eq_some_iff.1 hg).1
    simp [this]
  rw [(T.stable i hji hi (fun k h1 h2 => hne k h1 h2)).2 x (fun k c' e' h1 h2 hk => by have := T.uniq k j _ _ _ _ _ hk hj; omega) (fun k hk => T.apart k j x _ _ hk hj)]
  exact h1
theorem DTr.chain (T : DTr P ng ops r0 tm tr hp val kd anc) {x p : Nat} (hx : x < (hp p).heap.length) (hxm : ∀ j, kd j ≠ .mk x) : ∀ (i : Nat), p ≤ i → i ≤ ops.size → (∀ j c e, p ≤ j → j < i → kd j ≠ .fresh x c e) →
    (∀ j pre, p ≤ j → j < i → kd j = .eff pre → x ∉ pre) → (hp i).heap[x]? = (hp p).heap[x]? := by
  refine le_ind ?_ ?_
  · intro _ _ _; rfl
  · intro i hpi ih hn hf he
    have ih := ih (by omega) (fun j c e h1 h2 => hf j c e h1 (by omega)) (fun j pre h1 h2 => he j pre h1 (by omega))
    rw [← ih]
    have ho : ops[i]? = some ops[i] := by simp [show i < ops.size by omega]
    have hs := T.step i _ ho
    cases hk : kd i with
    | lite => rw [hk] at hs; rw [hs.1]
    | load b => rw [hk] at hs; rw [hs.1]
    | fresh y c e =>
      rw [hk] at hs; rw [hs.2.2.2.2]
      exact List.getElem?_set_ne (fun he => hf i c e hpi (Nat.lt_succ_self i) (by rw [hk, he]))
    | mk y => exact T.other ho (by rw [hk]; exact id) (fun c e => by rw [hk]; intro h; cases h) hxm
    | ins y d k v => exact T.other ho (by rw [hk]; exact id) (fun c e => by rw [hk]; intro h; cases h) hxm
    | eff pre =>
      rw [hk] at hs
      obtain ⟨hm, hm', h1, h2, h3, h4, h5, h6, h7, h8⟩ := hs
      by_cases hM : Masked kd anc i x
      · exact h6 x hM
      · rw [h7 x hM, ← h4 x hM]
        refine h8 x ?_ (he i pre hpi (Nat.lt_succ_self i) hk)
        have : x < (hp i).heap.length := by
          have e1 : (hp i).heap[x]? = some (hp p).heap[x] := by rw [ih]; simp [hx]
          exact (List.getElem?_eq_some_iff.1 e1).1
        omega
theorem tm_keep (T : DTr P ng ops r0 tm tr hp val kd anc) : ∀ (m : Nat), m ≤ ops.size → (tm m).len = (tm 0).len ∧ (∀ (d : Nat) (v : AVal), (∀ (i : Nat) (o : Oper), i < m → ops[i]? = some o → o.dst ≠ some d) → (tm m).get d = some v → (tm 0).get d = some v) ∧
    ∀ (i : Nat) (o : Oper) (d : Nat) (v : AVal), i < m → ops[i]? = some o → o.dst = some d → (tm m).get d = some v → v = val i
  | 0, _ => ⟨rfl, fun _ _ _ h => h, fun _ _ _ _ h => by omega⟩
  | m + 1, hm => by
    obtain ⟨h1, h2, h3⟩ := tm_keep T m (by omega)
    have ho : ops[m]? = some ops[m] := by simp [show m < ops.size by omega]
    rw [T.tmS m _ ho]
    have hlen : (putA (tm m) ops[m].dst (val m)).len = (tm m).len := by cases hd : ops[m].dst <;> rfl
    have back : ∀ (d : Nat) (v : AVal), (putA (tm m) ops[m].dst (val m)).get d = some v → (ops[m].dst = some d ∧ v = val m) ∨ (ops[m].dst ≠ some d ∧ (tm m).get d = some v) := by
      intro d v hv
      cases hdd : ops[m].dst with
      | none => rw [hdd] at hv; exact .inr ⟨by simp, hv⟩
      | some d' =>
        rw [hdd] at hv
        simp only [putA] at hv
        have hlt := Tm.get_lt hv
        rcases TT.get_put _ _ _ _ _ (Tm.get_tr hv) with ⟨rfl, rfl⟩ | ⟨hne, hv⟩
        · exact .inl ⟨rfl, rfl⟩
        · exact .inr ⟨fun e => hne (Option.some.inj e).symm, Tm.get_of hv hlt⟩
    refine ⟨hlen.trans h1, ?_, ?_⟩
    · intro d v hd hv
      rcases back d v hv with ⟨h9, _⟩ | ⟨_, h9⟩
      · exact absurd h9 (hd m _ (Nat.lt_succ_self m) ho)
      · exact h2 d v (fun i o hi => hd i o (by omega)) h9
    · intro i o d v hi hoi hd hv
      rcases back d v hv with ⟨h8, h9⟩ | ⟨h8, h9⟩
      · have := T.dst i m _ _ _ hoi ho hd h8
        subst this; exact h9
      · rcases Nat.lt_or_ge i m with h7 | h7
        · exact h3 i o d v h7 hoi hd h9
        · have : i = m := by omega
          subst this
          rw [ho] at hoi; cases hoi
          exact absurd hd h8
def Ls (listed : Array Bool) (i : Nat) : Prop := listed.getD i false = true
theorem ls_set (listed : Array Bool) (i j : Nat) (hi : i < listed.size) : Ls (listed.setIfInBounds i true) j ↔ j = i ∨ Ls listed j := by
  unfold Ls
  by_cases h : j = i
  · subst h; simp [hi]
  · simp [h, Array.getElem?_setIfInBounds_ne (Ne.symm h)]
def ents (kd : Nat → DK) (listed : Array Bool) (x : Nat) : Nat → List (AVal × AVal)
  | 0 => []
  | n + 1 => match kd n with
    | .ins y _ k v => if y = x ∧ listed.getD n false = true then ents kd listed x n ++ [(k, v)] else ents kd listed x n
    | _ => ents kd listed x n
theorem ents_other {kd : Nat → DK} {listed : Array Bool} {x i : Nat} (hi : i < listed.size) (hk : ∀ d k v, kd i ≠ .ins x d k v) : ∀ n, ents kd (listed.setIfInBounds i true) x n = ents kd listed x n
  | 0 => rfl
  | n + 1 => by
    have ih := ents_other hi hk n
    simp only [ents]
    split
    · rename_i y d k v hn
      have hls := ls_set listed i n hi
      unfold Ls at hls
      by_cases hy : y = x
      · subst hy
        have hne : n ≠ i := fun e => hk d k v (by rw [← e]; exact hn)
        simp only [hls, hne, false_or, ih]
      · simp only [hy, false_and, if_false, ih]
    · exact ih
theorem ents_ins {kd : Nat → DK} {listed : Array Bool} {x i : Nat} {d : TypeDesc} {k v : AVal} (hi : i < listed.size) (hk : kd i = .ins x d k v) (hn : ¬ Ls listed i) : ∀ n, i < n → (ents kd listed x n ++ [(k, v)]).Perm (ents kd (listed.setIfInBounds i true) x n)
  | 0, h => by omega
  | n + 1, h => by
    have hls := ls_set listed i n hi
    unfold Ls at hls hn
    by_cases hni : n = i
    · subst hni
      have e : ∀ m, m ≤ n → ents kd (listed.setIfInBounds n true) x m = ents kd listed x m := by
        intro m
        induction m with
        | zero => intro _; rfl
        | succ m ih =>
          intro hm
          have ih := ih (by omega)
          have hls2 := ls_set listed n m hi
          unfold Ls at hls2
          simp only [ents]
          split
          · have hne : m ≠ n := by omega
            simp only [hls2, hne, false_or, ih]
          · exact ih
      simp only [ents, hk, e n (Nat.le_refl _), hls, true_or, and_self, if_true]
      rw [if_neg (by intro h; exact hn h.2)]
    · have ih := ents_ins hi hk hn n (by omega)
      simp only [ents]
      split
      · rename_i y d' k' v' hy
        simp only [hls, hni, false_or]
        split
        · refine List.Perm.trans ?_ (ih.append_right [(k', v')])
          simp only [List.append_assoc]
          exact List.Perm.append_left _ (List.Perm.swap _ _ _)
        · exact ih
      · exact ih
theorem ents_mem {kd : Nat → DK} {listed : Array Bool} {x : Nat} {q : AVal × AVal} : ∀ n, q ∈ ents kd listed x n → ∃ i d, i < n ∧ Ls listed i ∧ kd i = .ins x d q.1 q.2
  | 0, h => by simp [ents] at h
  | n + 1, h => by
    simp only [ents] at h
    split at h
    · rename_i y d k v hn
      split at h
      · rename_i hc
        rcases List.mem_append.1 h with h | h
        · obtain ⟨i, d', h1, h2, h3⟩ := ents_mem n h
          exact ⟨i, d', by omega, h2, h3⟩
        · simp at h; subst h
          exact ⟨n, d, by omega, hc.2, by rw [hn, hc.1]⟩
      · obtain ⟨i, d', h1, h2, h3⟩ := ents_mem n h
        exact ⟨i, d', by omega, h2, h3⟩
    · obtain ⟨i, d', h1, h2, h3⟩ := ents_mem n h
      exact ⟨i, d', by omega, h2, h3⟩
theorem findA_none {d : TypeDesc} {k : AVal} : ∀ {l : List (AVal × AVal)}, (∀ q ∈ l, (∃ u, keyA d q.1 = some u) ∧ sameA q.1 k = false) → findA d k l = some none
  | [], _ => rfl
  | (k', v) :: l, h => by
    obtain ⟨⟨u, h1⟩, h2⟩ := h (k', v) (by simp)
    simp only [findA]
    simp only [] at h1 h2
    rw [h1, h2]
    exact findA_none fun q hq => h q (List.mem_cons_of_mem _ hq)
structure Inv (P : Program) (ng : Cx) (ops : Array Oper) (r0 : Nat) (tm : Nat → Tm) (hp : Nat → Hp) (val : Nat → AVal) (kd : Nat → DK) (g0 : Inj) (H0 : List Blk) (w0 : World) (a0 : Act) (listed : Array Bool) (p : Nat) (g : Inj) (H : List Blk)
    (a : Act) (w : World) : Prop where
  lsz : listed.size = ops.size
  down : ∀ (i : Nat) (o : Oper), ops[i]? = some o → Ls listed i → ∀ e, e ∈ o.after → Region.binds .any e = true → Ls listed e.on
  pn : p ≤ ops.size
  pl : p = 0 ∨ (0 < p ∧ (kd (p - 1)).isEff ∧ Ls listed (p - 1))
  ph : ∀ j, p ≤ j → (kd j).isEff → ¬ Ls listed j
  hlen : H.length = (hp p).heap.length
  h1 : ∀ x, (∀ j c e, kd j ≠ .fresh x c e) → (∀ j, kd j ≠ .mk x) → H[x]? = (hp p).heap[x]?
  h4 : ∀ j x, kd j = .mk x → (Ls listed j → ∃ l, H[x]? = some (.map l) ∧ l.Perm (ents kd listed x ops.size)) ∧ (¬ Ls listed j → H[x]? = some .gone ∧ g x = none)
  h2 : ∀ j x c e, kd j = .fresh x c e → Ls listed j → H[x]? = if j < p then (hp p).heap[x]? else some (.cells c e)
  h3 : ∀ j x c e, kd j = .fresh x c e → ¬ Ls listed j → H[x]? = some .gone ∧ g x = none
  rel : HRel ng g H w
  ext : Ext g0 H0 w0 g H w
  asz : a.tmps.size = a0.tmps.size
  adf : a.defers = a0.defers
  t1 : ∀ (i : Nat) (o : Oper) (d : Nat), ops[i]? = some o → o.dst = some d → Ls listed i → d < (tm 0).len → ∃ u, a.tmps[d]? = some u ∧ VRel g (val i) u
  t2 : ∀ (d : Nat) (v : AVal), (∀ (i : Nat) (o : Oper), ops[i]? = some o → Ls listed i → o.dst ≠ some d) → (tm 0).get d = some v → ∃ u, a.tmps[d]? = some u ∧ VRel g v u
end
end Go.Ev
