/-
 Scripts of inputs, plainly: what is set.
 No conditions.
-/
import Derived.Test.YtapfkgenachpgaaWpl
namespace Go.Wpl
open Go.Ev (E3)
theorem tri {a b : In3} : ahead a b = false → ahead b a = false → a.t = b.t ∧ a.k = b.k := by
 intro h k
 rw [Bool.eq_false_iff] at h k
 rw [Ne, ahead_iff] at h k
 omega
theorem set_script {l : List In3} {x : In3} (h : Script l) (hx : okIn x) : Script (set l x) := by
 refine ⟨fun y hy => ?_, ?_⟩
 ·simp only [set, List.mem_append, List.mem_cons, List.mem_filter] at hy
  rcases hy with hy | rfl | hy
  ·exact h.1 y hy.1
  ·exact hx
  ·exact h.1 y hy.1
 ·rw [set, List.pairwise_append]
  refine ⟨h.2.filter _, ?_, ?_⟩
  ·rw [List.pairwise_cons]
   exact ⟨fun y hy => (List.mem_filter.1 hy).2, h.2.filter _⟩
  ·intro a ha b hb
   have h1 := (List.mem_filter.1 ha).2
   rcases List.mem_cons.1 hb with rfl | hb
   ·exact h1
   ·exact ahead_trans h1 (List.mem_filter.1 hb).2
theorem set_set (l : List In3) (x : In3) : set (set l x) x = set l x := by
 have h1 : (set l x).filter (fun a => ahead a x) = l.filter (fun a => ahead a x) := by
  simp only [set, List.filter_append, List.filter_cons, ahead_irrefl, List.filter_filter, Bool.and_self, Bool.false_eq_true, if_false]
  have : (l.filter fun a => ahead a x && ahead x a) = [] := by
   rw [List.filter_eq_nil_iff]
   intro a _
   cases h1 : ahead a x <;> cases h2 : ahead x a <;> simp
   have := ahead_trans h1 h2
   rw [ahead_irrefl] at this; cases this
  rw [this, List.append_nil]
 have h2 : (set l x).filter (fun a => ahead x a) = l.filter (fun a => ahead x a) := by
  simp only [set, List.filter_append, List.filter_cons, ahead_irrefl, List.filter_filter, Bool.and_self, Bool.false_eq_true, if_false]
  have : (l.filter fun a => ahead x a && ahead a x) = [] := by
   rw [List.filter_eq_nil_iff]
   intro a _
   cases h1 : ahead a x <;> cases h2 : ahead x a <;> simp
   have := ahead_trans h1 h2
   rw [ahead_irrefl] at this; cases this
  rw [this, List.nil_append]
 rw [set, h1, h2]; rfl
theorem set_around : ∀ {l : List In3} {x : In3}, l.Pairwise (fun a b => ahead a b = true) → l = l.filter (fun a => ahead a x) ++ l.filter (fun a => !ahead a x)
 | [], x, _ => rfl
 | y :: l, x, h => by
  simp only [List.pairwise_cons] at h
  by_cases hy : ahead y x = true
  ·have := set_around (x := x) h.2
   simp only [List.filter_cons, hy, if_true, Bool.not_true, Bool.false_eq_true, if_false, List.cons_append]
   rw [← this]
  ·have hy' : ahead y x = false := by simpa using hy
   have e : l.filter (fun a => ahead a x) = [] := by
    rw [List.filter_eq_nil_iff]
    intro a ha hax
    exact hy (ahead_trans (h.1 a ha) hax)
   have e2 : l.filter (fun a => !ahead a x) = l := by
    rw [List.filter_eq_self]
    intro a ha
    cases hax : ahead a x with
    | false => rfl
    | true => exact absurd (ahead_trans (h.1 a ha) hax) hy
   simp [hy', e, e2]
def lf (p : In3 → Bool) (f : In3 → Int) (z : Int) (l : List In3) : Int := l.foldl (fun a y => if p y then f y else a) z
theorem lf_append (p : In3 → Bool) (f : In3 → Int) (z : Int) (l m : List In3) : lf p f z (l ++ m) = lf p f (lf p f z l) m := by simp [lf]
theorem lf_none {p : In3 → Bool} {f : In3 → Int} : ∀ {l : List In3} {z : Int}, (∀ y, y ∈ l → p y = false) → lf p f z l = z
 | [], z, _ => rfl
 | y :: l, z, h => by
  have := h y (by simp)
  simp only [lf, List.foldl_cons, this, Bool.false_eq_true, if_false]
  exact lf_none fun u hu => h u (by simp [hu])
theorem lf_some {p : In3 → Bool} {f : In3 → Int} : ∀ {l : List In3} {z z' : Int}, (∃ y, y ∈ l ∧ p y = true) → lf p f z l = lf p f z' l
 | [], z, z', h => by obtain ⟨y, hy, _⟩ := h; cases hy
 | y :: l, z, z', h => by
  simp only [lf, List.foldl_cons]
  by_cases hy : p y = true
  ·simp [hy]
  ·simp only [hy, Bool.false_eq_true, if_false]
   refine lf_some ?_
   obtain ⟨u, hu, hp⟩ := h
   rcases List.mem_cons.1 hu with rfl | hu
   ·exact absurd hp hy
   ·exact ⟨u, hu, hp⟩
theorem lf_filter (p : In3 → Bool) (f : In3 → Int) : ∀ (z : Int) (l : List In3), lf p f z l = lf p f z (l.filter p)
 | z, [] => rfl
 | z, y :: l => by
  simp only [lf, List.foldl_cons, List.filter_cons]
  by_cases hy : p y = true
  ·simp only [hy, if_true, List.foldl_cons]; exact lf_filter p f _ l
  ·simp only [hy, Bool.false_eq_true, if_false]; exact lf_filter p f _ l
def is0 (y : In3) : Bool := decide (y.k = 0)
def is1 (y : In3) : Bool := decide (y.k = 1)
def is2 (y : In3) : Bool := !decide (y.k = 0) && !decide (y.k = 1)
theorem take_all : ∀ (l : List In3) (s : Lv), l.foldl Lv.take s = ⟨lf is0 E3.v s.v0 l, lf is1 E3.v s.v1 l, lf is2 E3.v s.v2 l, lf is1 E3.t s.came l⟩
 | [], s => rfl
 | x :: l, s => by
  simp only [List.foldl_cons, take_all l, lf]
  by_cases h0 : x.k = 0
  ·simp [Lv.take, is0, is1, is2, h0]
  ·by_cases h1 : x.k = 1
   ·simp [Lv.take, is0, is1, is2, h1]
   ·simp [Lv.take, is0, is1, is2, h0, h1]
def next (l : List In3) (x : In3) : Int := l.foldl (fun n a => if a.k = x.k ∧ x.t < a.t then min n a.t else n) 1048576
theorem next_fold : ∀ (l : List In3) (x : In3) (n c : Int), (c < l.foldl (fun n a => if a.k = x.k ∧ x.t < a.t then min n a.t else n) n) ↔ c < n ∧ ∀ a, a ∈ l → a.k = x.k → x.t < a.t → c < a.t
 | [], x, n, c => by simp
 | y :: l, x, n, c => by
  simp only [List.foldl_cons, next_fold l, List.mem_cons, forall_eq_or_imp]
  split
  ·rename_i h
   constructor
   ·rintro ⟨h1, h2⟩; exact ⟨by omega, fun _ _ => by omega, h2⟩
   ·rintro ⟨h1, h2, h3⟩; have := h2 h.1 h.2; exact ⟨by omega, h3⟩
  ·rename_i h
   constructor
   ·rintro ⟨h1, h2⟩; exact ⟨h1, fun a b => absurd ⟨a, b⟩ h, h2⟩
   ·rintro ⟨h1, h2, h3⟩; exact ⟨h1, h3⟩
theorem lf_set {l : List In3} {x : In3} (h : Script l) {c : Int} (hc : x.t ≤ c) (f : In3 → Int) (z : Int) (p : In3 → Bool) (hp : ∀ a b : In3, a.k = b.k → p a = p b) :
  lf p f z (upto (set l x) c) = if p x = true ∧ (∀ a, a ∈ l → p a = true → ahead x a = true → c < a.t) then f x else if p x = true ∧ ¬ (∀ a, a ∈ l → p a = true → ahead x a = true → c < a.t) then lf p f z (upto l c) else lf p f z (upto l c) := by
 have e1 : upto (set l x) c = (upto l c).filter (fun a => ahead a x) ++ x :: (upto l c).filter (fun a => ahead x a) := by
  simp only [upto, set, List.filter_append, List.filter_cons, hc, decide_true, if_true, List.filter_filter]
  congr 1
  ·congr 1; funext a; rw [Bool.and_comm]
  ·congr 1; congr 1; funext a; rw [Bool.and_comm]
 have hs : (upto l c).Pairwise (fun a b => ahead a b = true) := h.2.filter _
 have e2 := set_around (x := x) hs
 rw [e1]
 by_cases hx : p x = true
 ·by_cases hn : ∀ a, a ∈ l → p a = true → ahead x a = true → c < a.t
  ·rw [if_pos ⟨hx, hn⟩]
   rw [show (upto l c).filter (fun a => ahead a x) ++ x :: (upto l c).filter (fun a => ahead x a) = ((upto l c).filter (fun a => ahead a x) ++ [x]) ++ (upto l c).filter (fun a => ahead x a) by simp]
   rw [lf_append, lf_none, lf_append]
   ·simp [lf, hx]
   ·intro y hy
    simp only [upto, List.filter_filter, List.mem_filter, Bool.and_eq_true, decide_eq_true_eq] at hy
    rw [Bool.eq_false_iff]
    intro hpy
    have := hn y hy.1 hpy hy.2.1
    omega
  ·rw [if_neg (fun q => hn q.2), if_pos ⟨hx, hn⟩]
   have hex : ∃ y, y ∈ (upto l c).filter (fun a => ahead x a) ∧ p y = true := by
    simp only [Classical.not_forall] at hn
    obtain ⟨a, h1, h2, h3, h4⟩ := hn
    exact ⟨a, by simp only [upto, List.filter_filter, List.mem_filter, Bool.and_eq_true, decide_eq_true_eq]; exact ⟨h1, h3, by omega⟩, h2⟩
   rw [show (upto l c).filter (fun a => ahead a x) ++ x :: (upto l c).filter (fun a => ahead x a) = ((upto l c).filter (fun a => ahead a x) ++ [x]) ++ (upto l c).filter (fun a => ahead x a) by simp]
   rw [lf_append]
   conv => rhs; rw [e2, lf_append]
   rw [lf_filter p f _ ((upto l c).filter (fun a => !ahead a x))]
   have e3 : ((upto l c).filter (fun a => !ahead a x)).filter p = (((upto l c).filter (fun a => !ahead a x)).filter (fun a => !ahead x a)).filter p ++ (((upto l c).filter (fun a => ahead x a))).filter p := by
    have hs2 : ((upto l c).filter (fun a => !ahead a x)).Pairwise (fun a b => ahead a b = true) := hs.filter _
    have : ∀ (m : List In3), m.Pairwise (fun a b => ahead a b = true) → m = m.filter (fun a => !ahead x a) ++ m.filter (fun a => ahead x a) := by
     intro m
     induction m with
     | nil => intro _; rfl
     | cons y m ih =>
      intro hm
      simp only [List.pairwise_cons] at hm
      by_cases hy : ahead x y = true
      ·have e4 : m.filter (fun a => !ahead x a) = [] := by
        rw [List.filter_eq_nil_iff]
        intro a ha
        simp [ahead_trans hy (hm.1 a ha)]
       have e5 : m.filter (fun a => ahead x a) = m := by
        rw [List.filter_eq_self]
        intro a ha
        exact ahead_trans hy (hm.1 a ha)
       simp [hy, e4, e5]
      ·have := ih hm.2
       simp only [List.filter_cons, hy, Bool.not_false, if_true, Bool.false_eq_true, if_false, List.cons_append]
       rw [← this]
    conv => lhs; rw [this _ hs2]
    rw [List.filter_append, List.filter_filter (p := fun a => ahead x a)]
    congr 1
    congr 1
    refine List.filter_congr fun a _ => ?_
    cases h1 : ahead x a with
    | false => rfl
    | true =>
     cases h2 : ahead a x with
     | false => rfl
     | true => have := ahead_trans h1 h2; rw [ahead_irrefl] at this; cases this
   rw [e3, lf_append p f (lf p f z ((upto l c).filter (fun a => ahead a x))), lf_filter p f _ ((upto l c).filter (fun a => ahead x a))]
   obtain ⟨y, hy1, hy2⟩ := hex
   exact lf_some ⟨y, List.mem_filter.2 ⟨hy1, hy2⟩, hy2⟩
 ·rw [if_neg (fun q => hx q.1), if_neg (fun q => hx q.1)]
  have hx' : p x = false := by simpa using hx
  rw [lf_append]
  conv => rhs; rw [e2, lf_append]
  have e4 : lf p f (lf p f z ((upto l c).filter (fun a => ahead a x))) (x :: (upto l c).filter (fun a => ahead x a)) = lf p f (lf p f z ((upto l c).filter (fun a => ahead a x))) ((upto l c).filter (fun a => ahead x a)) := by
   simp [lf, hx']
  rw [e4, lf_filter, lf_filter p f _ ((upto l c).filter (fun a => !ahead a x)), List.filter_filter, List.filter_filter]
  congr 1
  refine List.filter_congr fun a _ => ?_
  cases hpa : p a with
  | false => rfl
  | true =>
   cases h1 : ahead x a with
   | true =>
    cases h2 : ahead a x with
    | false => rfl
    | true => have := ahead_trans h1 h2; rw [ahead_irrefl] at this; cases this
   | false =>
    cases h2 : ahead a x with
    | true => rfl
    | false =>
     have := tri h1 h2
     rw [hp a x (by omega), hx'] at hpa; cases hpa
theorem upto_set_before {l : List In3} {x : In3} (h : Script l) {c : Int} (hc : c < x.t) : upto (set l x) c = upto l c := by
 have e2 := set_around (x := x) (h.2.filter (fun a => decide (a.t ≤ c)))
 have e3 : (upto l c).filter (fun a => !ahead a x) = [] := by
  rw [List.filter_eq_nil_iff]
  intro a ha
  simp only [upto, List.mem_filter, decide_eq_true_eq] at ha
  have : ahead a x = true := by rw [ahead_iff]; omega
  simp [this]
 have e4 : (upto l c) = (upto l c).filter (fun a => ahead a x) := by
  have := e2
  simp only [upto] at e3
  rw [e3, List.append_nil] at this
  exact this
 simp only [upto, set, List.filter_append, List.filter_cons, show ¬ x.t ≤ c by omega, decide_false, Bool.false_eq_true, if_false, List.filter_filter]
 have e5 : (l.filter fun a => decide (a.t ≤ c) && ahead x a) = [] := by
  rw [List.filter_eq_nil_iff]
  intro a ha
  cases h1 : ahead x a with
  | false => simp
  | true => rw [ahead_iff] at h1; simp; omega
 rw [e5, List.append_nil]
 conv => rhs; rw [show l.filter (fun x => decide (x.t ≤ c)) = upto l c from rfl, e4]
 simp only [upto, List.filter_filter]
 congr 1; funext a; rw [Bool.and_comm]
theorem lf_all {q : Int → Prop} {p : In3 → Bool} {f : In3 → Int} : ∀ {l : List In3} {z : Int}, (∀ y, y ∈ l → p y = true → q (f y)) → q z → q (lf p f z l)
 | [], z, _, hz => hz
 | y :: l, z, h, hz => by
  simp only [lf, List.foldl_cons]
  refine lf_all (fun u hu hp => h u (by simp [hu]) hp) ?_
  split
  ·rename_i hy; exact h y (by simp) hy
  ·exact hz
def want (l : List In3) (x : In3) (c : Int) : Now :=
 if x.k = 1 ∧ c = x.t then { at_ l c with isb := true, byte := x.v }
 else if x.k = 0 ∧ x.t ≤ c ∧ c < next l x then { at_ l c with pins := x.v }
 else if x.k = 2 ∧ x.t ≤ c ∧ c < next l x then { at_ l c with mask := x.v }
 else at_ l c
theorem at_set {l : List In3} {x : In3} (h : Script l) (hx : okIn x) {c : Int} (h1 : 1 ≤ c) (h2 : c < 1048576) : at_ (set l x) c = want l x c := by
 have hs := set_script h hx
 have hnext : c < next l x ↔ ∀ a, a ∈ l → a.k = x.k → x.t < a.t → c < a.t := by
  rw [next, next_fold]; exact ⟨fun q => q.2, fun q => ⟨h2, q⟩⟩
 rw [want, at_script hs h1, at_script h h1]
 by_cases hc : x.t ≤ c
 ·have hah : ∀ a : In3, a.k = x.k → (ahead x a = true ↔ x.t < a.t) := by
   intro a ha; rw [ahead_iff]; omega
  have hk : x.k = 0 ∨ x.k = 1 ∨ x.k = 2 := by have := hx.2.2; omega
  have hq : ∀ a, a ∈ l → okIn a := h.1
  have cond : ∀ p : In3 → Bool, (∀ a : In3, a ∈ l → (p a = true ↔ a.k = x.k)) → ((∀ a, a ∈ l → p a = true → ahead x a = true → c < a.t) ↔ c < next l x) := by
   intro p hp
   rw [hnext]
   constructor
   ·intro q a ha hk hlt; exact q a ha ((hp a ha).2 hk) ((hah a hk).2 hlt)
   ·intro q a ha hpa hlt; have hk := (hp a ha).1 hpa; exact q a ha hk ((hah a hk).1 hlt)
  simp only [lv, take_all, Lv.now]
  rw [lf_set h hc E3.v _ is0 (fun a b e => by simp [is0, e]), lf_set h hc E3.v _ is1 (fun a b e => by simp [is1, e]), lf_set h hc E3.v _ is2 (fun a b e => by simp [is2, e]), lf_set h hc E3.t _ is1 (fun a b e => by simp [is1, e])]
  rcases hk with hk | hk | hk
  ·have p0 : is0 x = true := by simp [is0, hk]
   have p1 : is1 x = false := by simp [is1, hk]
   have p2 : is2 x = false := by simp [is2, hk]
   have c0 := cond is0 (fun a ha => by simp [is0, hk])
   simp only [p0, p1, p2, true_and, Bool.false_eq_true, false_and, if_false, c0, hk, show ¬ ((0 : Int) = 1) by omega, hc, show ¬ ((0 : Int) = 2) by omega]
   by_cases hn : c < next l x
   ·simp [hn]
   ·simp [hn]
  ·have p0 : is0 x = false := by simp [is0, hk]
   have p1 : is1 x = true := by simp [is1, hk]
   have p2 : is2 x = false := by simp [is2, hk]
   have c1 := cond is1 (fun a ha => by simp [is1, hk])
   simp only [p0, p1, p2, true_and, Bool.false_eq_true, false_and, if_false, c1, hk, show ¬ ((1 : Int) = 0) by omega, show ¬ ((1 : Int) = 2) by omega]
   by_cases he : c = x.t
   ·have hn : c < next l x := by
     rw [hnext]; intro a _ _ hlt; omega
    subst he
    simp [hn]
   ·by_cases hn : c < next l x
    ·have hle : lf is1 E3.t Lv.zero.came (upto l c) ≤ x.t := by
      refine lf_all (q := fun n => n ≤ x.t) (fun y hy hp => ?_) (by have := hx.1; simp only [Lv.zero]; omega)
      simp only [upto, List.mem_filter, decide_eq_true_eq] at hy
      rcases Int.lt_or_le x.t y.t with h9 | h9
      ·have := (hnext.1 hn) y hy.1 (by simp [is1] at hp; omega) h9
       omega
      ·exact h9
     have hne : ¬ (lf is1 E3.t Lv.zero.came (upto l c) = c) := by omega
     have hne2 : ¬ (x.t = c) := by omega
     simp [hn, he, hne, hne2]
    ·simp [hn, he]
  ·have p0 : is0 x = false := by simp [is0, hk]
   have p1 : is1 x = false := by simp [is1, hk]
   have p2 : is2 x = true := by simp [is2, hk]
   have c2 := cond is2 (fun a ha => by
    have := (hq a ha).2.2
    simp only [is2, Bool.and_eq_true, Bool.not_eq_true', decide_eq_false_iff_not]
    omega)
   simp only [p0, p1, p2, true_and, Bool.false_eq_true, false_and, if_false, c2, hk, show ¬ ((2 : Int) = 1) by omega, hc, show ¬ ((2 : Int) = 0) by omega]
   by_cases hn : c < next l x
   ·simp [hn]
   ·simp [hn]
 ·have e := upto_set_before (x := x) h (c := c) (by omega)
  simp only [lv, e]
  rw [if_neg (by omega), if_neg (by omega), if_neg (by omega)]
end Go.Wpl
