/-
 What operations say, what a leaf keeps: lemmas for all texts of WireBack.
 No conditions.
-/
import Derived.Test.YtapfkgenachpgaaDoorWbp
import Derived.Test.YtapfkgenachpgaaDoorEv9
namespace Go.Wbp
open Go.Ev Go.RowKit
set_option linter.unusedVariables false
set_option linter.unusedSimpArgs false
def pinsB:Nat→Sw→Bool
 |0,_=>true
 |n+1,W=>pinW n W&&pinsB n W
theorem pins_of: ∀{n:Nat} {W:Sw},pinsB n W=true→ ∀i,i<n→pinW i W=true
 |0,_,_,i,hi=>absurd hi (Nat.not_lt_zero i)
 |n+1,W,h,i,hi=>by
  simp only [pinsB,Bool.and_eq_true] at h
  by_cases e:i=n
  ·subst e;exact h.1
  ·exact pins_of h.2 i (by omega)
theorem eqFn {σ:Sig} {i id:Nat} {k:IntKind} {l:List AVal} (h:evalS σ (.fn id k l)=some (den σ (.symi k i))):σ.ival i=k.wrap (σ.tab id (l.map fun a=>numS (den σ a))):=by
 simp only [evalS,den,Option.some.injEq,AVal.int.injEq,true_and] at h
 exact h.symm
theorem eqFnb {σ:Sig} {i id:Nat} {l:List AVal} (h:evalS σ (.fnb id l)=some (den σ (.symb i))):σ.bval i= !(σ.tab id (l.map fun a=>numS (den σ a))==0):=by
 simp only [evalS,den,Option.some.injEq,AVal.bool.injEq] at h
 exact h.symm
theorem eqFs {σ:Sig} {i id:Nat} {l:List AVal} (h:evalS σ (.sop (.fs id) l)=some (den σ (.syms i))):σ.sval i=decS (σ.tab id ((l.map (den σ)).map numS)):=by
 simp only [evalS,den,sopA,Option.some.injEq,AVal.str.injEq] at h
 exact h.symm
theorem eqRow {σ:Sig} {i:Nat} {l:List AVal} {cl:List (Option IntKind)} (h:evalS σ (.sop (.row cl) l)=some (den σ (.syms i))):σ.sval i=⟨(rowB cl (l.map (den σ))).toArray⟩:=by
 simp only [evalS,den,sopA,Option.some.injEq,AVal.str.injEq] at h
 exact h.symm
theorem eqCat {σ:Sig} {i:Nat} {a b:AVal} {x y:ByteArray} (h:evalS σ (.sop .cat [a,b])=some (den σ (.syms i))) (ha:den σ a=.str x) (hb:den σ b=.str y):σ.sval i=x++y:=by
 simp only [evalS,List.map,ha,hb] at h
 simp only [den,sopA,Option.some.injEq,AVal.str.injEq] at h
 exact h.symm
theorem pin0 {g:Inj} {w:World} {n:Nat} {W:Sw} (h:pinsB n W=true): ∀i,(fraOf g w n).pin i≠none→pinW i W=true:=by
 intro i hi
 have hi:(if i<n then some (g.loc i) else none)≠none:=hi
 split at hi
 ·exact pins_of h i (by assumption)
 ·exact absurd rfl hi
theorem tabS {σ:Sig} {l:Asg} {t:TabF} (h:σ.tab=t):(asgS σ l).tab=t:=h
theorem extS {σ:Sig} {l:Asg} {t:Nat→Option Fz} (h:σ.ext=t):(asgS σ l).ext=t:=h
theorem eqRow1 {σ:Sig} {i:Nat} {a:AVal} {n:Int} (h:evalS σ (.sop (.row [.some .u8]) [a])=some (den σ (.syms i))) (ha:den σ a=.int .u8 n):σ.sval i=bs [n%256]:=by
 simp only [evalS,List.map,ha] at h
 simp only [den,sopA,rowB,encK,csz,beB,List.nil_append,List.append_nil,Option.some.injEq,AVal.str.injEq] at h
 rw [←h]
 simp only [bs,List.map_cons,List.map_nil]
 congr 3
 have:(n%((2^(8*1):Nat):Int)).toNat%256=(n%256).toNat:=by omega
 rw [this]
theorem eqIteS {σ:Sig} {c a b:AVal} {i:Nat} {x:Bool} {p q:ByteArray} (h:evalS σ (.ite c a b)=some (.str (σ.sval i))) (hc:den σ c=.bool x) (ha:den σ a=.str p) (hb:den σ b=.str q):σ.sval i=bif x then p else q:=by
 simp only [evalS,hc,ha,hb] at h
 cases x<;>simpa using h.symm
theorem xor_zero (x:Int) (h0:0≤x) (h1:x<18446744073709551616):IntKind.u64.wrap ((BitVec.ofInt IntKind.u64.bits x^^^BitVec.ofInt IntKind.u64.bits 0).toNat:Int)=x:=by
 show IntKind.u64.wrap ((BitVec.ofInt 64 x^^^BitVec.ofInt 64 0:BitVec 64).toNat:Int)=_
 rw [wr_u64,show (BitVec.ofInt 64 0)=0#64 by decide,BitVec.xor_zero,BitVec.toNat_ofInt]
 omega
theorem xor_ones (x:Int) (h0:0≤x) (h1:x<18446744073709551616):IntKind.u64.wrap ((BitVec.ofInt IntKind.u64.bits x^^^BitVec.ofInt IntKind.u64.bits 18446744073709551615).toNat:Int)=18446744073709551615-x:=by
 show IntKind.u64.wrap ((BitVec.ofInt 64 x^^^BitVec.ofInt 64 18446744073709551615:BitVec 64).toNat:Int)=_
 rw [wr_u64,show (BitVec.ofInt 64 18446744073709551615)=BitVec.allOnes 64 by decide,BitVec.xor_allOnes,BitVec.toNat_not,BitVec.toNat_ofInt]
 omega
theorem zig_xor {c u s h q x:Int} (h0: -9223372036854775808≤c) (h1:c<9223372036854775808) (hu:u=c%18446744073709551616) (hs:s=u*2%18446744073709551616) (hh:h=c/9223372036854775808) (hq:q=h%18446744073709551616)
  (hx:x=IntKind.u64.wrap ((BitVec.ofInt IntKind.u64.bits s^^^BitVec.ofInt IntKind.u64.bits q).toNat:Int)):x=(if 0≤c then 2*c else-2*c-1):=by
 by_cases hc:0≤c
 ·rw [if_pos hc]
  have hq0:q=0:=by omega
  rw [hq0,xor_zero s (by omega) (by omega)] at hx
  omega
 ·rw [if_neg hc]
  have hq0:q=18446744073709551615:=by omega
  rw [hq0,xor_ones s (by omega) (by omega)] at hx
  omega
theorem tmod_pos {a:Int} (b:Int) (h:0≤a):a.tmod b=a%b:=Int.tmod_eq_emod_of_nonneg h
theorem thL0 {k n:Int} {s:ByteArray} (h:k%6=0):thL k n s=pbL n:=by unfold thL;rw [if_pos h]
theorem thL1 {k n:Int} {s:ByteArray} (h:k%6=1):thL k n s=pbL (zz n):=by unfold thL;rw [if_neg (by omega),if_pos h]
theorem thL2 {k n:Int} {s:ByteArray} (h:k%6=2):thL k n s=[n%256]:=by unfold thL;rw [if_neg (by omega),if_neg (by omega),if_pos h]
theorem thL3 {k n:Int} {s:ByteArray} (h:k%6=3):thL k n s=[n%2]:=by unfold thL;rw [if_neg (by omega),if_neg (by omega),if_neg (by omega),if_pos h]
theorem thL4 {k n:Int} {s:ByteArray} (h:k%6=4):thL k n s=pbL (txt s).size++ints (txt s):=by unfold thL;rw [if_neg (by omega),if_neg (by omega),if_neg (by omega),if_neg (by omega),if_pos h]
theorem thL5 {k n:Int} {s:ByteArray} (h:k%6=5):thL k n s=pbL (n%1000):=by unfold thL;rw [if_neg (by omega),if_neg (by omega),if_neg (by omega),if_neg (by omega),if_neg (by omega)]
theorem thZ0 {k n:Int} {s:ByteArray} (h:k%6=0):thZ k n s=decide (n%4611686018427387904=0):=by unfold thZ;rw [if_pos h]
theorem thZ1 {k n:Int} {s:ByteArray} (h:k%6=1):thZ k n s=decide (whole n=0):=by unfold thZ;rw [if_neg (by omega),if_pos h]
theorem thZ2 {k n:Int} {s:ByteArray} (h:k%6=2):thZ k n s=decide (n%256=0):=by unfold thZ;rw [if_neg (by omega),if_neg (by omega),if_pos h]
theorem thZ3 {k n:Int} {s:ByteArray} (h:k%6=3):thZ k n s=decide (n%2=0):=by unfold thZ;rw [if_neg (by omega),if_neg (by omega),if_neg (by omega),if_pos h]
theorem thZ4 {k n:Int} {s:ByteArray} (h:k%6=4):thZ k n s=decide ((txt s).size=0):=by unfold thZ;rw [if_neg (by omega),if_neg (by omega),if_neg (by omega),if_neg (by omega),if_pos h]
theorem thZ5 {k n:Int} {s:ByteArray} (h:k%6=5):thZ k n s=decide (n%1000=0):=by unfold thZ;rw [if_neg (by omega),if_neg (by omega),if_neg (by omega),if_neg (by omega),if_neg (by omega)]
theorem pbL_mod (n:Int):pbL (n%4611686018427387904)=pbL n:=by unfold pbL;rw [Int.emod_emod_of_dvd n (by decide)]
theorem and_one {x:Int} (h0:0≤x) (h1:x<18446744073709551616):IntKind.u64.wrap ((BitVec.ofInt IntKind.u64.bits x&&&BitVec.ofInt IntKind.u64.bits 1).toNat:Int)=x%2:=by
 show IntKind.u64.wrap ((BitVec.ofInt 64 x&&&BitVec.ofInt 64 1:BitVec 64).toNat:Int)=_
 rw [wr_u64,BitVec.toNat_and,BitVec.toNat_ofInt,BitVec.toNat_ofInt]
 have e1:((1:Int)%(2^64:Nat)).toNat=2^1-1:=by decide
 rw [e1,Nat.and_two_pow_sub_one_eq_mod]
 omega
theorem xor_zero_i {x:Int} (h0:0≤x) (h1:x<9223372036854775808):IntKind.i64.wrap ((BitVec.ofInt IntKind.i64.bits x^^^BitVec.ofInt IntKind.i64.bits 0).toNat:Int)=x:=by
 show IntKind.i64.wrap ((BitVec.ofInt 64 x^^^BitVec.ofInt 64 0:BitVec 64).toNat:Int)=_
 rw [wr_i64,show (BitVec.ofInt 64 0)=0#64 by decide,BitVec.xor_zero,BitVec.toNat_ofInt]
 omega
theorem xor_neg_i {x:Int} (h0:0≤x) (h1:x<9223372036854775808):IntKind.i64.wrap ((BitVec.ofInt IntKind.i64.bits x^^^BitVec.ofInt IntKind.i64.bits (-1)).toNat:Int)= -x-1:=by
 show IntKind.i64.wrap ((BitVec.ofInt 64 x^^^BitVec.ofInt 64 (-1):BitVec 64).toNat:Int)=_
 rw [wr_i64,show (BitVec.ofInt 64 (-1))=BitVec.allOnes 64 by decide,BitVec.xor_allOnes,BitVec.toNat_not,BitVec.toNat_ofInt]
 omega
end Go.Wbp
