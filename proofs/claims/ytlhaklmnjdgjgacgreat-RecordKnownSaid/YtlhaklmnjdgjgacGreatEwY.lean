/- What operations say of numbers and truths, plainly. -/
import Derived.Test.YtlhaklmnjdgjgacGreatEwX
namespace Go.Ev

theorem eqB {σ : Sig} {d : SDef} {i : Nat} {x : Bool} (h : evalS σ d = some (.bool (σ.bval i))) (h' : evalS σ d = some (.bool x)) : σ.bval i = x := by
  rw [h] at h'; simpa using h'

theorem eqI {σ : Sig} {d : SDef} {k : IntKind} {i : Nat} {x : Int} (h : evalS σ d = some (.int k (σ.ival i))) (h' : evalS σ d = some (.int k x)) : σ.ival i = x := by
  rw [h] at h'; simpa using h'

theorem eqIteI {σ : Sig} {c a b : AVal} {k : IntKind} {i : Nat} {x : Bool} {p q : Int} (h : evalS σ (.ite c a b) = some (.int k (σ.ival i))) (hc : den σ c = .bool x) (ha : den σ a = .int k p) (hb : den σ b = .int k q) : σ.ival i = bif x then p else q := by
  simp only [evalS, hc, ha, hb] at h
  cases x <;> simpa using h.symm

theorem eqIteB {σ : Sig} {c a b : AVal} {i : Nat} {x p q : Bool} (h : evalS σ (.ite c a b) = some (.bool (σ.bval i))) (hc : den σ c = .bool x) (ha : den σ a = .bool p) (hb : den σ b = .bool q) : σ.bval i = bif x then p else q := by
  simp only [evalS, hc, ha, hb] at h
  cases x <;> simpa using h.symm

end Go.Ev
