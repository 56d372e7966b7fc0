/-
 What operations say, what a leaf keeps: lemmas for all texts of WireBack.
 No conditions.
-/
import Derived.Test.YtelimhjceiamcaaDoorBWbp
import Derived.Test.YtelimhjceiamcaaDoorBEv9
namespace Go.Wbp
open Go.Ev Go.RowKit
set_option linter.unusedVariables false
set_option linter.unusedSimpArgs false
def Qqw:Nat->Sw->Bool
 |0,_=>true
 |n+1,W=>pinW n W&&Qqw n W
theorem Q4x: ∀{n:Nat} {W:Sw},Qqw n W=true-> ∀i,i<n->pinW i W=true
 |0,_,_,i,hi=>absurd hi (Nat.not_lt_zero i)
 |n+1,W,h,i,hi=>by
  simp only [Qqw,Bool.and_eq_true] at h
  by_cases e:i=n
  ·subst e;exact h.1
  ·exact Q4x h.2 i (by omega)
theorem eqFn {σ:Sig} {i id:Nat} {k:IntKind} {l:List AVal} (h:Qb σ (.fn id k l)=some (den σ (.symi k i))):σ.ival i=k.wrap (σ.tab id (l.map fun a=>numS (den σ a))):=by
 simp only [Qb,den,Option.some.injEq,AVal.int.injEq,true_and] at h
 exact h.symm
theorem Qd0 {σ:Sig} {i id:Nat} {l:List AVal} (h:Qb σ (.fnb id l)=some (den σ (.symb i))):σ.bval i= !(σ.tab id (l.map fun a=>numS (den σ a))==0):=by
 simp only [Qb,den,Option.some.injEq,AVal.bool.injEq] at h
 exact h.symm
theorem eqFs {σ:Sig} {i id:Nat} {l:List AVal} (h:Qb σ (.sop (.fs id) l)=some (den σ (.syms i))):σ.sval i=decS (σ.tab id ((l.map (den σ)).map numS)):=by
 simp only [Qb,den,sopA,Option.some.injEq,AVal.str.injEq] at h
 exact h.symm
theorem Qbu {σ:Sig} {i:Nat} {l:List AVal} {cl:List (Option IntKind)} (h:Qb σ (.sop (.row cl) l)=some (den σ (.syms i))):σ.sval i=⟨(rowB cl (l.map (den σ))).toArray⟩:=by
 simp only [Qb,den,sopA,Option.some.injEq,AVal.str.injEq] at h
 exact h.symm
theorem Qu {σ:Sig} {i:Nat} {a b:AVal} {x y:ByteArray} (h:Qb σ (.sop .cat [a,b])=some (den σ (.syms i))) (ha:den σ a=.str x) (hb:den σ b=.str y):σ.sval i=x++y:=by
 simp only [Qb,List.map,ha,hb] at h
 simp only [den,sopA,Option.some.injEq,AVal.str.injEq] at h
 exact h.symm
theorem pin0 {g:Inj} {w:World} {n:Nat} {W:Sw} (h:Qqw n W=true): ∀i,(Qbh g w n).pin i≠none->pinW i W=true:=by
 intro i hi
 have hi:(if i<n then some (g.loc i) else none)≠none:=hi
 split at hi
 ·exact Q4x h i (by assumption)
 ·exact absurd rfl hi
theorem tabS {σ:Sig} {l:Asg} {t:TabF} (h:σ.tab=t):(asgS σ l).tab=t:=h
theorem extS {σ:Sig} {l:Asg} {t:Nat->Option Fz} (h:σ.ext=t):(asgS σ l).ext=t:=h
theorem Qev {σ:Sig} {i:Nat} {a:AVal} {n:Int} (h:Qb σ (.sop (.row [.some .u8]) [a])=some (den σ (.syms i))) (ha:den σ a=.int .u8 n):σ.sval i=bs [n%256]:=by
 simp only [Qb,List.map,ha] at h
 simp only [den,sopA,rowB,encK,csz,beB,List.nil_append,List.append_nil,Option.some.injEq,AVal.str.injEq] at h
 rw [<-h]
 simp only [bs,List.map_cons,List.map_nil]
 congr 3
 have:(n%((2^(8*1):Nat):Int)).toNat%256=(n%256).toNat:=by omega
 rw [this]
theorem Qro {a:Int} (b:Int) (h:0<=a):a.tmod b=a%b:=Int.tmod_eq_emod_of_nonneg h
end Go.Wbp
