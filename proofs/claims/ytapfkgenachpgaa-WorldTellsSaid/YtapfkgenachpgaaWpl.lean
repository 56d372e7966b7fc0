/-
 Scripts of inputs, plainly: what is there at a cycle, what comes up to it, what is set; a player of one.
 No conditions.
-/
import Derived.Test.YtapfkgenachpgaaEv9
namespace Go.Wpl
open Go.Ev (E3)
abbrev In3:=Go.Ev.E3
def ahead (a b:In3):Bool:=decide (a.t<b.t)||(decide (a.t=b.t)&&decide (a.k<b.k))
theorem ahead_iff {a b:In3}:ahead a b=true↔a.t<b.t∨(a.t=b.t∧a.k<b.k):=by
 simp [ahead]
theorem ahead_trans {a b c:In3} (h:ahead a b=true) (k:ahead b c=true):ahead a c=true:=by
 rw [ahead_iff] at*;omega
def okIn (x:In3):Prop:=1≤x.t∧x.t≤1073741824∧0≤x.k∧x.k≤2
instance (x:In3):Decidable (okIn x):=by unfold okIn;infer_instance
def Script (l:List In3):Prop:=(∀x,x∈l→okIn x)∧l.Pairwise (fun a b=>ahead a b=true)
def codeOf (prev:Option In3) (x:In3):Int:=
 if x.t<1∨1073741824<x.t then 2 else if x.k<0∨2<x.k then 6 else match prev with
  |some p=>if ahead p x then 0 else 28
  |none=>0
def checkFrom:Option In3→List In3→Int→Int×Int
 |_,[],_=>(-1,0)
 |p,x::l,i=>if codeOf p x=0 then checkFrom (some x) l (i+1) else (i,codeOf p x)
def check (l:List In3):Int×Int:=checkFrom none l 0
theorem codeOf_zero {p:Option In3} {x:In3}:codeOf p x=0↔okIn x∧ ∀q,p=some q→ahead q x=true:=by
 unfold codeOf okIn
 cases p with
 |none=>simp only [];split<;>(try split)<;>simp<;>omega
 |some q=>simp only [];split<;>(try split)<;>(try split)<;>simp_all<;>omega
theorem check_from: ∀(l:List In3) (p:Option In3) (i:Int),(checkFrom p l i).2=0↔(∀x,x∈l→okIn x)∧l.Pairwise (fun a b=>ahead a b=true)∧ ∀q,p=some q→ ∀x,x∈l→ahead q x=true
 |[],p,i=>by simp [checkFrom]
 |x::l,p,i=>by
  simp only [checkFrom]
  split
  ·rename_i h
   rw [codeOf_zero] at h
   rw [check_from l (some x) (i+1)]
   simp only [List.mem_cons,forall_eq_or_imp,List.pairwise_cons,Option.some.injEq,forall_eq']
   constructor
   ·rintro ⟨h1,h2,h3⟩
    exact ⟨⟨h.1,h1⟩,⟨h3,h2⟩,fun q hq=>⟨h.2 q hq,fun y hy=>ahead_trans (h.2 q hq) (h3 y hy)⟩⟩
   ·rintro ⟨⟨h1,h2⟩,⟨h3,h4⟩,h5⟩
    exact ⟨h2,h4,h3⟩
  ·rename_i h
   constructor
   ·intro h2;exact absurd h2 h
   ·rintro ⟨h1,h2,h3⟩
    exact absurd (codeOf_zero.2 ⟨h1 x (by simp),fun q hq=>h3 q hq x (by simp)⟩) h
theorem check_zero {l:List In3}:(check l).2=0↔Script l:=by
 rw [check,check_from];simp [Script]
structure Lv where
 v0:Int
 v1:Int
 v2:Int
 came:Int
deriving DecidableEq
def Lv.zero:Lv:=⟨0,0,0,0⟩
def Lv.take (s:Lv) (x:In3):Lv:=
 if x.k=0 then {s with v0:=x.v} else if x.k=1 then {s with v1:=x.v,came:=x.t} else {s with v2:=x.v}
structure Now where
 pins:Int
 mask:Int
 isb:Bool
 byte:Int
deriving DecidableEq
def Now.zero:Now:=⟨0,0,false,0⟩
def Lv.now (s:Lv) (c:Int):Now:=⟨s.v0,s.v2,decide (s.came=c),if s.came=c then s.v1 else 0⟩
def upto (l:List In3) (c:Int):List In3:=l.filter fun x=>decide (x.t≤c)
def lv (l:List In3) (c:Int):Lv:=(upto l c).foldl Lv.take .zero
def at_ (l:List In3) (c:Int):Now:=if (check l).2=0∧1≤c then (lv l c).now c else .zero
theorem at_script {l:List In3} (h:Script l) {c:Int} (hc:1≤c):at_ l c=(lv l c).now c:=by
 rw [at_,if_pos ⟨check_zero.2 h,hc⟩]
structure Pl where
 s:Lv
 rest:List In3
 c:Int
def Pl.next (p:Pl):Pl:=⟨(upto p.rest (p.c+1)).foldl Lv.take p.s,p.rest.drop (upto p.rest (p.c+1)).length,p.c+1⟩
def Pl.out (p:Pl):Now:=p.s.now p.c
def Pl.new (l:List In3):Pl:=⟨.zero,l,0⟩
theorem upto_split: ∀{l:List In3},l.Pairwise (fun a b=>ahead a b=true)→ ∀c,upto l c++l.filter (fun x=>decide (c<x.t))=l
 |[],_,c=>rfl
 |x::l,h,c=>by
  simp only [List.pairwise_cons] at h
  simp only [upto,List.filter_cons]
  by_cases hx:x.t≤c
  ·have:=upto_split h.2 c
   simp only [upto] at this
   simp [hx,show¬c<x.t by omega,this]
  ·have h1:l.filter (fun y=>decide (y.t≤c))=[]:=by
    rw [List.filter_eq_nil_iff]
    intro y hy
    have:=h.1 y hy
    rw [ahead_iff] at this
    simp;omega
   have h2:l.filter (fun y=>decide (c<y.t))=l:=by
    rw [List.filter_eq_self]
    intro y hy
    have:=h.1 y hy
    rw [ahead_iff] at this
    simp;omega
   simp [hx,show c<x.t by omega,h1,h2]
theorem drop_upto {l:List In3} (h:l.Pairwise (fun a b=>ahead a b=true)) (c:Int):l.drop (upto l c).length=l.filter (fun x=>decide (c<x.t)):=by
 have:=upto_split h c
 have e:l.drop (upto l c).length=(upto l c++l.filter (fun x=>decide (c<x.t))).drop (upto l c).length:=by rw [this]
 rw [e,List.drop_left]
def Pl.on (l:List In3):Nat→Pl
 |0=> .new l
 |i+1=>(Pl.on l i).next
theorem Pl.on_eq {l:List In3} (h:Script l): ∀i:Nat,Pl.on l i=⟨lv l i,l.filter (fun x=>decide ((i:Int)<x.t)),i⟩
 |0=>by
  have h1:upto l 0=[]:=by
   simp only [upto,List.filter_eq_nil_iff]
   intro y hy
   have:=(h.1 y hy).1
   simp;omega
  have h2:l.filter (fun x=>decide ((0:Int)<x.t))=l:=by
   rw [List.filter_eq_self]
   intro y hy
   have:=(h.1 y hy).1
   simp;omega
  simp [Pl.on,Pl.new,lv,h1,h2]
 |i+1=>by
  have ih:=Pl.on_eq h i
  simp only [Pl.on,ih,Pl.next]
  have hp:(l.filter (fun x=>decide ((i:Int)<x.t))).Pairwise (fun a b=>ahead a b=true):=h.2.filter _
  rw [drop_upto hp,List.filter_filter]
  have e1:(l.filter fun a=>decide ((i:Int)+1<a.t)&&decide ((i:Int)<a.t))=l.filter (fun x=>decide (((i+1:Nat):Int)<x.t)):=by
   congr 1;funext a
   rw [←Bool.decide_and,decide_eq_decide];omega
  have e2:(upto (l.filter (fun x=>decide ((i:Int)<x.t))) (i+1)).foldl Lv.take (lv l i)=lv l ((i+1:Nat):Int):=by
   have:upto l ((i+1:Nat):Int)=upto l i++upto (l.filter (fun x=>decide ((i:Int)<x.t))) (i+1):=by
    have hs:=upto_split h.2 i
    have:upto l ((i+1:Nat):Int)=upto (upto l i++l.filter (fun x=>decide ((i:Int)<x.t))) (i+1):=by rw [hs];rfl
    rw [this]
    simp only [upto,List.filter_append,List.filter_filter]
    congr 1
    congr 1;funext a
    rw [←Bool.decide_and,decide_eq_decide];omega
   simp only [lv,this,List.foldl_append]
  rw [e1,e2]
  simp
theorem Pl.on_out {l:List In3} (h:Script l) {i:Nat} (hi:1≤i):(Pl.on l i).out=at_ l i:=by
 rw [Pl.on_eq h,at_script h (by omega)];rfl
theorem came_le: ∀(l:List In3) (s:Lv) (c:Int),(∀x,x∈l→x.t≤c)→s.came≤c→(l.foldl Lv.take s).came≤c
 |[],s,c,_,h=>h
 |x::l,s,c,hl,h=>by
  refine came_le l _ c (fun y hy=>hl y (by simp [hy])) ?_
  have:=hl x (by simp)
  simp only [Lv.take]
  split
  ·exact h
  ·split
   ·exact this
   ·exact h
def set (l:List In3) (x:In3):List In3:=l.filter (fun a=>ahead a x)++x::l.filter (fun a=>ahead x a)
end Go.Wpl
