/- Arguments that are unknown numbers. -/
import Derived.Test.YtgifnmiggloclaaEvQ
namespace Go.Ev

/-- The unknowns of a list of numbers, and of truths. -/
def sigL (l : List Int) (b : List Bool) : Sig := ⟨fun i => l.getD i 0, fun i => b.getD i false, fun _ => .empty⟩

theorem rel_symi {g : Inj} {k : IntKind} {i : Nat} {n : Int} (h : g.sig.ival i = n) : VRel g (.symi k i) (.int k n) := h ▸ .symi k i
theorem rel_symb {g : Inj} {i : Nat} {n : Bool} (h : g.sig.bval i = n) : VRel g (.symb i) (.bool n) := h ▸ .symb i

theorem solve_ival (G : List SDef) (m : Nat) (l : List Int) (b : List Bool) (i : Nat) (hi : i < m) : (solve G m (sigL l b)).ival i = l.getD i 0 :=
  ((agree_solve G m (sigL l b)) i hi).1.symm

theorem solve_bval (G : List SDef) (m : Nat) (l : List Int) (b : List Bool) (i : Nat) (hi : i < m) : (solve G m (sigL l b)).bval i = b.getD i false :=
  ((agree_solve G m (sigL l b)) i hi).2.1.symm

/-- A call whose arguments are numbers, reckoned true at each leaf of a tree of splits. -/
theorem nums_true {P : Program} {fuel d m : Nat} {f : FuncId} {args : List AVal} {G : List SDef} {T : Tr} {l : List Int} {b : List Bool} (hm : P.follows .mixedOrders = true) (hG : okG G m = true)
    (h : okTree (fun F => isTrue (callA P (cxOf 0 m noHook G F) fuel d f args ⟨⟨[], []⟩, [], []⟩)) T [] = true)
    (hd : ∀ σ : Sig, Eqs σ m G → (∀ i, i < m → σ.ival i = l.getD i 0) → (∀ i, i < m → σ.bval i = b.getD i false) → deads σ T []) {args' : Array Value}
    (ha : ∀ g : Inj, (∀ i, i < m → g.sig.ival i = l.getD i 0) → (∀ i, i < m → g.sig.bval i = b.getD i false) → LRel g args args'.toList) (w : World) :
    Calls P f args' w fun e w' => e = .returned (.bool true) ∧ RowKit.Below w.heap.size w w' :=
  split_true (σ := solve G m (sigL l b)) hm (fun F => no_hooks F) (eqs_solve hG) h
    (hd _ (eqs_solve hG) (fun i hi => solve_ival G m l b i hi) (fun i hi => solve_bval G m l b i hi)) (ha _ (fun i hi => solve_ival G m l b i hi) (fun i hi => solve_bval G m l b i hi)) w

end Go.Ev
