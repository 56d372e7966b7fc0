/- Calls known ahead whose answers are made of the arguments' own cells (no opaque numbers). -/
import Derived.Test.YtgifnmiggloclabEwZo
namespace Go.Ev
open Go.RowKit
set_option linter.unusedVariables false
set_option linter.unusedSimpArgs false
set_option linter.unnecessarySimpa false

structure SymE where
  f : FuncId
  ins : List Sh
  outs : List Sh
  g : (SDef → Option AVal) → List AVal → Option (List AVal)      -- of the operations that are looked up, and the cells

def packG : List Sh → List AVal → List AVal
  | [], _ => []
  | .one _ :: r, as => as.headD .nilptr :: packG r as.tail
  | .agg cl :: r, as => .agg (as.take cl.length) :: packG r (as.drop cl.length)

def packV (outs : List Sh) (vs : List AVal) : Option AVal :=
  match outs with
  | [_] => vs.head?
  | _ => some (.tuple vs)

def findSym (f : FuncId) : List SymE → Option SymE
  | [] => none
  | e :: r => match Nat.beq e.f f with
    | true => some e
    | false => findSym f r

theorem findSym_mem {f : FuncId} : ∀ {tbl : List SymE} {e : SymE}, findSym f tbl = some e → e ∈ tbl ∧ e.f = f
  | [], _, h => by simp [findSym] at h
  | x :: r, e, h => by
    simp only [findSym] at h
    split at h
    · rename_i hb
      cases h
      exact ⟨List.mem_cons_self .., Nat.eq_of_beq_eq_true hb⟩
    · obtain ⟨h1, h2⟩ := findSym_mem h
      exact ⟨List.mem_cons_of_mem _ h1, h2⟩

def symHook (tbl : List SymE) : HookF := fun look kd f args =>
  match findSym f tbl with
  | some e => match flatS e.ins args with
    | some cs => match okCells kd (cellsOf e.ins) cs with
      | true => match e.g look cs with
        | some rs => match okCells kd (cellsOf e.outs) rs with
          | true => packV e.outs (packG e.outs rs)
          | false => none
        | none => none
      | false => none
    | none => none
  | none => none

/-- Such an answer is what the function gives. -/
def SymOk (P : Program) (e : SymE) : Prop :=
  ∃ F, FnOk P e.f e.ins e.outs F ∧ ∀ (σ : Sig) (look : SDef → Option AVal) (cs rs : List AVal), (∀ d r, look d = some r → evalS σ d = some (den σ r)) → InR (cellsOf e.ins) (numsOf σ cs) → e.g look cs = some rs → numsOf σ rs = F (numsOf σ cs)

theorem cell_rel {g : Inj} {kd : Nat → Option IntKind} (hk : ∀ i k, kd i = some k → k.wrap (g.sig.ival i) = g.sig.ival i) {c : Cl} {a : AVal} (h : okCell kd c a = true) (hu : ∃ u, VRel g a u) : VRel g a (encC c (numS (den g.sig a))) := by
  obtain ⟨u, hu⟩ := hu
  rw [← denC_rel (cell_den hk h) hu]; exact hu

theorem cells_relG {g : Inj} {kd : Nat → Option IntKind} (hk : ∀ i k, kd i = some k → k.wrap (g.sig.ival i) = g.sig.ival i) : ∀ (cl : List Cl) (r : List Cl) (as : List AVal), okCells kd (cl ++ r) as = true →
    LRel g (as.take cl.length) (encCs cl (numsOf g.sig as)) ∧ okCells kd r (as.drop cl.length) = true
  | [], r, as, h => ⟨by simpa [encCs] using LRel.nil, h⟩
  | c :: cl, r, [], h => by simp [okCells] at h
  | c :: cl, r, a :: as, h => by
    have hall := okCells_rel (g := g) (c :: cl ++ r) (a :: as) h
    simp only [List.cons_append, okCells, Bool.and_eq_true] at h
    obtain ⟨h1, h2⟩ := cells_relG hk cl r as h.2
    refine ⟨?_, by simpa using h2⟩
    simp only [List.length_cons, List.take_succ_cons, encCs, numsOf, List.map_cons, List.headD_cons, List.tail_cons]
    exact .cons _ _ _ _ (cell_rel hk h.1 (hall a (List.mem_cons_self ..))) h1

theorem pack_rel {g : Inj} {kd : Nat → Option IntKind} (hk : ∀ i k, kd i = some k → k.wrap (g.sig.ival i) = g.sig.ival i) : ∀ (outs : List Sh) (rs : List AVal), okCells kd (cellsOf outs) rs = true → LRel g (packG outs rs) (encS outs (numsOf g.sig rs))
  | [], rs, h => .nil
  | .one c :: r, [], h => by simp [cellsOf, okCells] at h
  | .one c :: r, a :: rs, h => by
    have hall := okCells_rel (g := g) (cellsOf (.one c :: r)) (a :: rs) h
    simp only [cellsOf, okCells, Bool.and_eq_true] at h
    simp only [packG, encS, numsOf, List.map_cons, List.headD_cons, List.tail_cons]
    exact .cons _ _ _ _ (cell_rel hk h.1 (hall a (List.mem_cons_self ..))) (pack_rel hk r rs h.2)
  | .agg cl :: r, rs, h => by
    simp only [cellsOf] at h
    obtain ⟨h1, h2⟩ := cells_relG hk cl (cellsOf r) rs h
    simp only [packG, encS]
    refine .cons _ _ _ _ (.agg _ _ (by simpa using h1)) ?_
    have : (numsOf g.sig rs).drop cl.length = numsOf g.sig (rs.drop cl.length) := by simp [numsOf, List.map_drop]
    rw [this]
    exact pack_rel hk r _ h2

theorem sym_at {P : Program} {X : Ing} {tbl : List SymE} (hT : okLT X.m X.G X.T = true) (h : ∀ e, e ∈ tbl → SymOk P e) (F : List Fact) (f : FuncId) (args : List AVal) (v : AVal) (hv : symHook tbl (symS (baseOf X F)) (kdX X) f args = some v) (hp : Hp) : CallP P (cxOf X F) f args hp (.val v) hp := by
  unfold symHook at hv
  split at hv
  · rename_i e he
    obtain ⟨hmem, hf⟩ := findSym_mem he
    subst hf
    obtain ⟨Fn, hok, hg⟩ := h e hmem
    split at hv
    · rename_i cs hcs
      split at hv
      · rename_i hcell
        split at hv
        · rename_i rs hrs
          split at hv
          · rename_i hout
            refine callP_below (fun g w args' hgood ha => ?_) hp
            have hk : ∀ i k, kdX X i = some k → k.wrap (g.sig.ival i) = g.sig.ival i := fun i k h => hgood.kd i k h
            have ea := flat_num hk e.ins args cs args'.toList hcs hcell ha
            have hin := okCells_inR hk (cellsOf e.ins) cs hcell (okCells_rel _ _ hcell)
            have hargs : args' = (encS e.ins (cs.map fun a => numS (den g.sig a))).toArray := by rw [← ea]
            rw [hargs]
            refine (hok _ hin w).mono ?_
            rintro en w' ⟨rfl, hB⟩
            have hn : Fn (cs.map fun a => numS (den g.sig a)) = numsOf g.sig rs := (hg g.sig _ cs rs (fun d r hd => symS_res (base_good hT hgood.ok.2 hgood.ok.1) hd) hin hrs).symm
            rw [hn]
            have hr := pack_rel hk e.outs rs hout
            refine ⟨_, rfl, ?_, hB⟩
            generalize numsOf g.sig rs = R at hr ⊢
            generalize e.outs = outs at hv hr ⊢
            unfold packV at hv
            unfold encR
            split at hv
            · rename_i s
              cases hE : encS [s] R with
              | nil => cases s <;> simp [encS] at hE
              | cons u us =>
                rw [hE] at hr
                generalize packG [s] rs = as at hv hr
                cases hr with
                | cons a _ _ _ h1 _ =>
                  simp at hv; subst hv
                  show VRel g a ((encS [s] R).headD (Value.tuple #[]))
                  rw [hE]; exact h1
            · rename_i hne
              cases hv
              split
              · exact absurd rfl (hne _)
              · exact .tuple _ _ (by simpa using hr)
          · cases hv
        · cases hv
      · cases hv
    · cases hv
  · cases hv

theorem sym_true_hooks {P : Program} {X : Ing} {st : List SymE} {tt : List Ent} (hT : okLT X.m X.G X.T = true) (hX : X.hook = orHook (symHook st) (trueHook tt)) (h0 : ∀ e, e ∈ st → SymOk P e) (h1 : ∀ e, e ∈ tt → FnOk P e.f e.ins [.one .b] (fun _ => [1])) (F : List Fact) (hmh : X.mh = noMh := by rfl) : Hooks P (cxOf X F) := by
  refine hooks_of hmh ?_
  intro f args v hv hp
  replace hv : X.hook (symS (baseOf X F)) (kdX X) f args = some v := hv
  rw [hX] at hv
  unfold orHook at hv
  split at hv
  · rename_i v' h; cases hv; exact sym_at hT h0 F f args _ h hp
  · exact true_at h1 F f args v hv hp
end Go.Ev
