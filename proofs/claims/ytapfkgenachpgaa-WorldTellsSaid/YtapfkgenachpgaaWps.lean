/-
 Scripts of inputs, plainly: what is set.
 No conditions.
-/
import Derived.Test.YtapfkgenachpgaaWpl
namespace Go.Wpl
open Go.Ev (E3)
theorem set_around: ∀{l:List In3} {x:In3},l.Pairwise (fun a b=>ahead a b=true)→l=l.filter (fun a=>ahead a x)++l.filter (fun a=> !ahead a x)
 |[],x,_=>rfl
 |y::l,x,h=>by
  simp only [List.pairwise_cons] at h
  by_cases hy:ahead y x=true
  ·have:=set_around (x:=x) h.2
   simp only [List.filter_cons,hy,if_true,Bool.not_true,Bool.false_eq_true,if_false,List.cons_append]
   rw [←this]
  ·have hy':ahead y x=false:=by simpa using hy
   have e:l.filter (fun a=>ahead a x)=[]:=by
    rw [List.filter_eq_nil_iff]
    intro a ha hax
    exact hy (ahead_trans (h.1 a ha) hax)
   have e2:l.filter (fun a=> !ahead a x)=l:=by
    rw [List.filter_eq_self]
    intro a ha
    cases hax:ahead a x with
    |false=>rfl
    |true=>exact absurd (ahead_trans (h.1 a ha) hax) hy
   simp [hy',e,e2]
end Go.Wpl
