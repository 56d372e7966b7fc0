/-
 Contracts of the world's functions: over lists of inputs.
 No conditions.
-/
import Derived.Test.YtapfkgenachpgaaWt
import Derived.Test.YtapfkgenachpgaaUp
import Derived.Test.YtapfkgenachpgaaWcl
import Derived.Test.YtapfkgenachpgaaChecked
import Derived.WalkKit
set_option maxRecDepth 100000
namespace Go.Proofs.Ytapfkgenachpgaa.wc
open Go.Ev Go.RowKit Go.Wpl Go.Wt
set_option linter.unusedVariables false
set_option linter.unusedSimpArgs false
theorem mixed:Try.prog.follows .mixedOrders=true:=Checked.mixed Try.checked
def wL:List (Nat×List (Option IntKind)):=[(64,cl3)]
def lst0 (i n:Nat):Blk:=.lst (.syms i) (.symi .i64 n) cl3 0
def lstW (i n:Nat):Blk:=.lst (.syms i) (.symi .i64 n) cl3 64
def w28K:List (Option IntKind):=[none,some .i64,some .i64]
def w28S0:Shape:=⟨argT 0 [.lsl 0 3 false (.int .i64 0) (.symi .i64 1),.symi .i64 2],[lst0 0 1]⟩
def sf26:SymF:={f:=26,m:=2,ins:=[none,some .i64],args:=[.lsl 0 3 false (.int .i64 0) (.symi .i64 1)],pre:=[lst0 0 1],pcs:=[],G:=[.fn 200 .i64 [.syms 0],.fn 201 .i64 [.syms 0]],v:=.tuple [.symi .i64 2,.symi .i64 3],post:=[lst0 0 1]}
def w28K1:List (Option IntKind):=[none,some .i64,some .i64,some .u8,some .u8,some .u8,some .i64]
def w28T:List (Nat×AVal):=[(0,.lsl 0 3 false (.int .i64 0) (.symi .i64 1)),(1,.symi .i64 2),(4,.ptr 1 0),(7,.ptr 2 0),(23,.func (.func 94) [] [.ptr 3 0,.ptr 4 0])]
def w28H:List Blk:=[lst0 0 1,.cells [.int .u8 0,.int .u8 0,.bool false,.int .u8 0] 72,.cells [.symi .u8 3,.symi .u8 4,.symi .u8 5,.symi .i64 6] 119,.cells [.lsl 0 3 false (.int .i64 0) (.symi .i64 1)] 61,.cells [.symi .i64 2] 3]
def w28S1:Shape:=⟨w28T,w28H⟩
def w28Se:Shape:=⟨[(0,.lsl 0 3 false (.int .i64 0) (.symi .i64 1)),(4,.ptr 1 0)],[lst0 0 1,.cells [.symi .u8 3,.symi .u8 4,.symb 5,.symi .u8 6] 72]⟩
def w32K:List (Option IntKind):=[none,some .i64,some .u8,some .u8,some .u8,some .i64,some .i64,some .i64,some .i64]
def plB (b:Nat) (v0 v1 v2 came off n c:Nat):Blk:=.cells [.symi .u8 v0,.symi .u8 v1,.symi .u8 v2,.symi .i64 came,.lsl b 3 false (.symi .i64 off) (.symi .i64 n),.symi .i64 c] 126
def w32S0:Shape:=⟨argT 0 [.ptr 0 0],[plB 1 2 3 4 5 6 7 8,lst0 0 1]⟩
def w32K1:List (Option IntKind):=[none,some .i64,some .u8,some .u8,some .u8,some .i64,some .i64,some .i64,some .i64,some .i64,some .i64]
def w32H (l:Blk):List Blk:=[l,lst0 0 1,.cells [.ptr 0 0] 76,.cells [.int .u8 0,.int .u8 0,.bool false,.int .u8 0] 72,.cells [.lsl 1 3 false (.symi .i64 6) (.symi .i64 7)] 61,.cells [.symi .i64 8] 3]
def w32S1:Shape:=⟨[(0,.ptr 0 0),(1,.ptr 2 0),(2,.ptr 3 0),(22,.func (.func 94) [] [.ptr 4 0,.ptr 5 0])],w32H (plB 1 2 3 4 5 9 10 8)⟩
def w32Se:Shape:=⟨[(0,.ptr 0 0),(2,.ptr 2 0)],[plB 1 10 11 12 13 15 16 9,lst0 0 1,.cells [.symi .u8 10,.symi .u8 12,.symb 17,.symi .u8 18] 72]⟩
def w95K:List (Option IntKind):=[none,some .i64,some .i64]
def w95P:List Blk:=[.cells [.lsl 2 3 false (.int .i64 0) (.symi .i64 1)] 61,.cells [.symi .i64 2] 3,lst0 0 1]
def w95S0:Shape:=⟨argT 0 [.nilslice,.func (.func 94) [] [.ptr 0 0,.ptr 1 0]],w95P⟩
def w95K1:List (Option IntKind):=[none,some .i64,some .i64,none,some .i64]
def w95T:List (Nat×AVal):=[(1,.func (.func 94) [] [.ptr 0 0,.ptr 1 0]),(2,.ptr 3 0),(6,.func (.func 94) [] [.ptr 0 0,.ptr 1 0])]
def w95S1:Shape:=⟨w95T,w95P++[.cells [.nilslice] 61]⟩
def w95S2:Shape:=⟨w95T,w95P++[.cells [.lsl 4 3 true (.int .i64 0) (.symi .i64 4)] 61,lstW 3 4]⟩
def w95Se:Shape:=⟨[(1,.func (.func 94) [] [.ptr 0 0,.ptr 1 0]),(4,.lsl 3 3 true (.int .i64 0) (.symi .i64 4))],w95P++[lstW 3 4]⟩
def sf95:SymF:={f:=95,m:=3,ins:=w95K,args:=[.nilslice,.func (.func 94) [] [.ptr 0 0,.ptr 1 0]],pre:=w95P,pcs:=[.fnb 207 [.syms 0]],G:=[.sop (.fs 220) [.syms 0,.int .i64 0,.symi .i64 1,.symi .i64 2],.fn 221 .i64 [.syms 0,.int .i64 0,.symi .i64 1,.symi .i64 2]],v:=.lsl 3 3 true (.int .i64 0) (.symi .i64 4),post:=w95Se.heap}
def w35K:List (Option IntKind):=[none,some .i64,some .i64]
def w35S0:Shape:=⟨argT 0 [.lsl 0 3 false (.int .i64 0) (.symi .i64 1),.symi .i64 2],[lst0 0 1]⟩
def w35Se:Shape:=⟨[(0,.lsl 0 3 false (.int .i64 0) (.symi .i64 1)),(4,.lsl 1 3 true (.int .i64 0) (.symi .i64 4))],[lst0 0 1,lstW 3 4]⟩
def w30K:List (Option IntKind):=[none,some .i64]
def w30S0:Shape:=⟨argT 0 [.lsl 0 3 false (.int .i64 0) (.symi .i64 1)],[lst0 0 1]⟩
def w30Se:Shape:=⟨[(0,.lsl 0 3 false (.int .i64 0) (.symi .i64 1)),(2,.ptr 1 0)],[lst0 0 1,.cells [.int .u8 0,.int .u8 0,.int .u8 0,.int .i64 0,.lsl 2 3 true (.int .i64 0) (.symi .i64 1),.int .i64 0] 126,lst0 0 1]⟩
def w51Se:Shape:=⟨[(0,.lsl 0 3 false (.int .i64 0) (.symi .i64 1)),(2,.lsl 1 3 true (.int .i64 0) (.symi .i64 1))],[lst0 0 1,lstW 0 1]⟩
def sf51:SymF:={f:=51,m:=2,ins:=w30K,args:=[.lsl 0 3 false (.int .i64 0) (.symi .i64 1)],pre:=[lst0 0 1],pcs:=[.fnb 207 [.syms 0]],G:=[],v:=.lsl 1 3 true (.int .i64 0) (.symi .i64 1),post:=[lst0 0 1,lstW 0 1]}
def c3:List (Option IntKind):=[some .u8,some .u8,some .u8]
def w24S0:Shape:=⟨argT 0 [.row 0],[]⟩
def w24K1:List (Option IntKind):=[some .i64,some .i64,some .i64,some .i64,none]
def w24S1:Shape:=⟨[(0,.row 0),(3,.lsl 0 3 true (.int .i64 0) (.symi .i64 2)),(4,.symi .i64 3),(5,.symi .i64 0)],[lstW 4 2]⟩
def w24Se:Shape:=⟨[(3,.lsl 0 3 true (.int .i64 0) (.symi .i64 3))],[lstW 2 3]⟩
def w24Sr:Shape:=⟨[(2,.lsl 0 3 true (.int .i64 0) (.symi .i64 3))],[lstW 2 3]⟩
def sf24:SymF:={f:=24,m:=2,ins:=[some .i64,none],args:=[.row 0],pre:=[],pcs:=[],G:=[.sop (.fs 230) [.symi .i64 0,.syms 1],.fn 231 .i64 [.symi .i64 0,.syms 1]],v:=.lsl 0 3 true (.int .i64 0) (.symi .i64 3),post:=[lstW 2 3],xs:=[.symi .i64 0,.syms 1]}
def sf35:SymF:={f:=35,m:=3,ins:=w35K,args:=[.lsl 0 3 false (.int .i64 0) (.symi .i64 1),.symi .i64 2],pre:=[lst0 0 1],pcs:=[.fnb 207 [.syms 0]],G:=[.sop (.fs 220) [.syms 0,.int .i64 0,.symi .i64 1,.symi .i64 2],.fn 221 .i64 [.syms 0,.int .i64 0,.symi .i64 1,.symi .i64 2]],v:=.lsl 1 3 true (.int .i64 0) (.symi .i64 4),post:=[lst0 0 1,lstW 3 4]}
def sf30:SymF:={f:=30,m:=2,ins:=w30K,args:=[.lsl 0 3 false (.int .i64 0) (.symi .i64 1)],pre:=[lst0 0 1],pcs:=[.fnb 202 [.syms 0]],G:=[],v:=.ptr 1 0,post:=w30Se.heap}
def sf28:SymF:={f:=28,m:=3,ins:=w28K,args:=[.lsl 0 3 false (.int .i64 0) (.symi .i64 1),.symi .i64 2],pre:=[lst0 0 1],pcs:=[],G:=[.fn 210 .u8 [.syms 0,.symi .i64 2],.fn 211 .u8 [.syms 0,.symi .i64 2],.fnb 212 [.syms 0,.symi .i64 2],.fn 213 .u8 [.syms 0,.symi .i64 2]],v:=.agg [.symi .u8 3,.symi .u8 4,.symb 5,.symi .u8 6],post:=w28Se.heap}
def nxA (n:Nat):List AVal:=[.syms 0,.symi .i64 6,.symi .i64 7,.symi .i64 n]
def nxV:List AVal:=[.symi .u8 2,.symi .u8 3,.symi .u8 4,.symi .i64 5]
def sf32:SymF:={f:=32,m:=9,ins:=w32K,args:=[.ptr 0 0],pre:=[plB 1 2 3 4 5 6 7 8,lst0 0 1],pcs:=[.fnb 203 [.syms 0,.symi .i64 6,.symi .i64 7]],G:=[.bin .add (.symi .i64 8) (.int .i64 1),.fn 240 .u8 (nxA 9++nxV),.fn 241 .u8 (nxA 9++nxV),.fn 242 .u8 (nxA 9++nxV),.fn 243 .i64 (nxA 9++nxV),.fn 244 .i64 (nxA 9),.bin .add (.symi .i64 6) (.symi .i64 14),.bin .sub (.symi .i64 7) (.symi .i64 14),.bin .eql (.symi .i64 13) (.symi .i64 9),.ite (.symb 17) (.symi .u8 11) (.int .u8 0)],v:=.agg [.symi .u8 10,.symi .u8 12,.symb 17,.symi .u8 18],post:=[plB 1 10 11 12 13 15 16 9,lst0 0 1,.cells [.symi .u8 10,.symi .u8 12,.symb 17,.symi .u8 18] 72]}
def w26S0:Shape:=⟨argT 0 [.lsl 0 3 false (.int .i64 0) (.symi .i64 1)],[lst0 0 1]⟩
def w26S1:Shape:=⟨[(0,.lsl 0 3 false (.int .i64 0) (.symi .i64 1)),(6,.lsl 0 3 false (.int .i64 0) (.symi .i64 1)),(7,.symi .i64 1),(8,.symi .i64 2)],[lst0 0 1]⟩
def w26Se:Shape:=⟨[(0,.lsl 0 3 false (.int .i64 0) (.symi .i64 1)),(2,.symi .i64 2),(3,.symi .i64 3)],[lst0 0 1]⟩
def pinsB:Nat→Sw→Bool
 |0,_=>true
 |n+1,W=>pinW n W&&pinsB n W
theorem pins_of: ∀{n:Nat} {W:Sw},pinsB n W=true→ ∀i,i<n→pinW i W=true
 |0,_,_,i,hi=>absurd hi (Nat.not_lt_zero i)
 |n+1,W,h,i,hi=>by
  simp only [pinsB,Bool.and_eq_true] at h
  by_cases e:i=n
  ·subst e;exact h.1
  ·exact pins_of h.2 i (by omega)
theorem lst_ok {g:Inj} {H:List Blk} {w:World} {i a b:Nat} {e:TypeId} (hH:HRel (cx0 wTab) g H w) (hb:H[i]? =some (.lst (.syms a) (.symi .i64 b) cl3 e)): ∃N:Nat,g.sig.ival b=N∧(g.sig.sval a).data.toList.length=N*17:=by
 rcases hH.blk0 i _ hb (by simp) with ⟨s,n,cl,e',hh,d1,d2⟩|⟨L,hL,S,N,C,fr,_,h1,h2,h3,_⟩
 ·cases hh
  simp only [den,AVal.str.injEq,AVal.int.injEq,true_and] at d1 d2
  exact ⟨0,by rw [d2];rfl,by rw [d1];rfl⟩
 ·simp only [den,AVal.str.injEq,AVal.int.injEq,true_and] at h1 h2
  exact ⟨N,h2,by rw [h1];exact h3⟩
theorem eqCell {σ:Sig} {i a j m:Nat} {b:AVal} {k:IntKind} (h:evalS σ (.sop (.cell cl3 j) [.syms a,b])=some (den σ (.symi k i))) (hb:den σ b=.int .i64 (m:Int)):rowAtD cl3 (σ.sval a) m j=.int k (σ.ival i):=by
 simp only [evalS,List.map,hb] at h
 simp only [den,sopA,Int.toNat_natCast,Option.some.injEq] at h
 exact h
theorem eqFn {σ:Sig} {i id:Nat} {k:IntKind} {l:List AVal} (h:evalS σ (.fn id k l)=some (den σ (.symi k i))):σ.ival i=k.wrap (σ.tab id (l.map fun a=>numS (den σ a))):=by
 simp only [evalS,den,Option.some.injEq,AVal.int.injEq,true_and] at h
 exact h.symm
theorem eqFnb {σ:Sig} {i id:Nat} {l:List AVal} (h:evalS σ (.fnb id l)=some (den σ (.symb i))):σ.bval i= !(σ.tab id (l.map fun a=>numS (den σ a))==0):=by
 simp only [evalS,den,Option.some.injEq,AVal.bool.injEq] at h
 exact h.symm
theorem eqFs {σ:Sig} {i id:Nat} {l:List AVal} (h:evalS σ (.sop (.fs id) l)=some (den σ (.syms i))):σ.sval i=decS (σ.tab id ((l.map (den σ)).map numS)):=by
 simp only [evalS,den,sopA,Option.some.injEq,AVal.str.injEq] at h
 exact h.symm
theorem eqRow {σ:Sig} {i:Nat} {l:List AVal} {cl:List (Option IntKind)} (h:evalS σ (.sop (.row cl) l)=some (den σ (.syms i))):σ.sval i=⟨(rowB cl (l.map (den σ))).toArray⟩:=by
 simp only [evalS,den,sopA,Option.some.injEq,AVal.str.injEq] at h
 exact h.symm
theorem eqCat {σ:Sig} {i:Nat} {a b:AVal} {x y:ByteArray} (h:evalS σ (.sop .cat [a,b])=some (den σ (.syms i))) (ha:den σ a=.str x) (hb:den σ b=.str y):σ.sval i=x++y:=by
 simp only [evalS,List.map,ha,hb] at h
 simp only [den,sopA,Option.some.injEq,AVal.str.injEq] at h
 exact h.symm
def pv (C:ByteArray) (j:Nat):Option E3:=if j=0 then none else some (rowE C (j-1))
def ck (C:ByteArray) (N j:Nat):Int×Int:=checkFrom (pv C j) ((lstE C N).drop j) j
theorem drop_lst (C:ByteArray) {N j:Nat} (h:j<N):(lstE C N).drop j=rowE C j::(lstE C N).drop (j+1):=by
 have hl:j<(lstE C N).length:=by rw [lstE_len];exact h
 rw [List.drop_eq_getElem_cons hl]
 congr 1
 have:=lstE_get (C:=C) h
 rw [List.getElem?_eq_getElem hl] at this
 exact Option.some.inj this
theorem ck_end (C:ByteArray) (N:Nat):ck C N N=(-1,0):=by
 unfold ck
 rw [List.drop_eq_nil_of_le (by rw [lstE_len];exact Nat.le_refl _)]
 rfl
theorem ck_go {C:ByteArray} {N j:Nat} (h:j<N) (h0:codeOf (pv C j) (rowE C j)=0):ck C N j=ck C N (j+1):=by
 unfold ck
 rw [drop_lst C h,checkFrom,if_pos h0]
 simp [pv]
theorem ck_no {C:ByteArray} {N j:Nat} (h:j<N) (h0:codeOf (pv C j) (rowE C j)≠0):ck C N j=((j:Int),codeOf (pv C j) (rowE C j)):=by
 unfold ck
 rw [drop_lst C h,checkFrom,if_neg h0]
theorem ck_check (C:ByteArray) (N:Nat):ck C N 0=check (lstE C N):=rfl
theorem ck_fst {l:List E3}: ∀{p:Option E3} {i:Int},0≤i→ -1≤(checkFrom p l i).1∧(checkFrom p l i).1≤i+l.length:=by
 induction l with
 |nil=>intro p i h;simp [checkFrom];omega
 |cons x l ih=>
  intro p i h
  simp only [checkFrom]
  split
  ·have:=ih (p:=some x) (i:=i+1) (by omega)
   simp only [List.length_cons];omega
  ·simp only [List.length_cons];omega
theorem code_b (p:Option E3) (x:E3):0≤codeOf p x∧codeOf p x≤28:=by
 unfold codeOf
 split
 ·omega
 ·split
  ·omega
  ·split
   ·split<;>omega
   ·omega
theorem ck_snd {l:List E3}: ∀{p:Option E3} {i:Int},0≤(checkFrom p l i).2∧(checkFrom p l i).2≤28:=by
 induction l with
 |nil=>intro p i;simp [checkFrom]
 |cons x l ih=>
  intro p i
  simp only [checkFrom]
  split
  ·exact ih
  ·exact code_b p x
theorem bif_eq {α:Type} {a b:Int} {x y:α}:(bif a==b then x else y)=if a=b then x else y:=by
 by_cases h:a=b
 ·rw [if_pos h,beq_iff_eq.2 h];rfl
 ·rw [if_neg h,beq_eq_false_iff_ne.2 h];rfl
theorem tk0 (s:Lv) (x:E3):(s.take x).v0=bif x.k==0 then x.v else s.v0:=by
 rw [bif_eq];unfold Lv.take
 by_cases h:x.k=0
 ·simp only [if_pos h]
 ·by_cases h1:x.k=1
  ·simp only [if_neg h,if_pos h1]
  ·simp only [if_neg h,if_neg h1]
theorem tk1 (s:Lv) (x:E3):(s.take x).v1=bif x.k==0 then s.v1 else bif x.k==1 then x.v else s.v1:=by
 rw [bif_eq,bif_eq];unfold Lv.take
 by_cases h:x.k=0
 ·simp only [if_pos h]
 ·by_cases h1:x.k=1
  ·simp only [if_neg h,if_pos h1]
  ·simp only [if_neg h,if_neg h1]
theorem tk2 (s:Lv) (x:E3):(s.take x).v2=bif x.k==0 then s.v2 else bif x.k==1 then s.v2 else x.v:=by
 rw [bif_eq,bif_eq];unfold Lv.take
 by_cases h:x.k=0
 ·simp only [if_pos h]
 ·by_cases h1:x.k=1
  ·simp only [if_neg h,if_pos h1]
  ·simp only [if_neg h,if_neg h1]
theorem tkc (s:Lv) (x:E3):(s.take x).came=bif x.k==0 then s.came else bif x.k==1 then x.t else s.came:=by
 rw [bif_eq,bif_eq];unfold Lv.take
 by_cases h:x.k=0
 ·simp only [if_pos h]
 ·by_cases h1:x.k=1
  ·simp only [if_neg h,if_pos h1]
  ·simp only [if_neg h,if_neg h1]
def wq26AG:List SDef:=[]
def wq26AT:LT:=.e
def wq26AW:Sw:=.run (.leaf .normal w26S1 [(0,0)] [(1,.symi .i64 1),(1,.symi .i64 1),(1,.symi .i64 1),(2,.int .i64 0),(0,.syms 0),(1,.symi .i64 1)] [])
def wq26AKd:KdT:=.n (.n .e (some .i64) .e) none .e
def wq26AX:Ing:={m:=2,ins:=w30K,G:=wq26AG,T:=wq26AT,tab:=wTab,lsts:=wL,kb:=2,kt:=wq26AKd}
theorem wq26A_lt:okLT 2 wq26AG wq26AT=true:=by kernel_rfl
theorem wq26A_ok:okG wq26AG 2=true:=by kernel_rfl
theorem wq26A_seg:SegOk Try.prog wTab 48 ((flatC (bodyOf Try.f26)).take 2) w26S0 wq26AX wq26AW where
 lt:=wq26A_lt
 ok:=wq26A_ok
 hook:=fun F=>no_hooks rfl F
 n0:=rfl
 id:=by kernel_rfl
 reck:=by kernel_rfl
 tab:=rfl
 cuts:=rfl
 kt:=by kernel_rfl
def wq26BG:List SDef:=[.bin .lss (.symi .i64 2) (.symi .i64 1),
 .bin .leq (.int .i64 0) (.symi .i64 2),
 .sop (.cell [.some .i64,.some .i64,.some .u8] 0) [.syms 0,.symi .i64 2],
 .sop (.cell [.some .i64,.some .i64,.some .u8] 1) [.syms 0,.symi .i64 2],
 .sop (.cell [.some .i64,.some .i64,.some .u8] 2) [.syms 0,.symi .i64 2],
 .bin .lss (.symi .i64 5) (.int .i64 1),
 .bin .gtr (.symi .i64 5) (.int .i64 1073741824),
 .bin .lss (.symi .i64 6) (.int .i64 0),
 .bin .gtr (.symi .i64 6) (.int .i64 2),
 .bin .gtr (.symi .i64 2) (.int .i64 0),
 .bin .sub (.symi .i64 2) (.int .i64 1),
 .bin .leq (.int .i64 0) (.symi .i64 13),
 .bin .lss (.symi .i64 13) (.symi .i64 1),
 .sop (.cell [.some .i64,.some .i64,.some .u8] 0) [.syms 0,.symi .i64 13],
 .sop (.cell [.some .i64,.some .i64,.some .u8] 1) [.syms 0,.symi .i64 13],
 .sop (.cell [.some .i64,.some .i64,.some .u8] 2) [.syms 0,.symi .i64 13],
 .bin .lss (.symi .i64 16) (.symi .i64 5),
 .bin .gtr (.symi .i64 16) (.symi .i64 5),
 .ite (.symb 20) (.int .i64 1) (.int .i64 0),
 .ite (.symb 19) (.int .i64 (-1)) (.symi .i64 21),
 .bin .lss (.symi .i64 17) (.symi .i64 6),
 .bin .gtr (.symi .i64 17) (.symi .i64 6),
 .ite (.symb 24) (.int .i64 1) (.int .i64 0),
 .ite (.symb 23) (.int .i64 (-1)) (.symi .i64 25),
 .bin .neq (.symi .i64 22) (.int .i64 0),
 .bin .neq (.symi .i64 26) (.int .i64 0),
 .ite (.symb 28) (.symi .i64 26) (.int .i64 0),
 .ite (.symb 27) (.symi .i64 22) (.symi .i64 29),
 .bin .geq (.symi .i64 30) (.int .i64 0),
 .bin .add (.symi .i64 2) (.int .i64 1)]
def wq26BT:LT:=.n (.n (.n (.n (.n (.e) 74533413 27 (.bin .neq (.symi .i64 22) (.int .i64 0)) (.e)) 111577679 19 (.bin .lss (.symi .i64 16) (.symi .i64 5)) (.n (.e) 111577693 20 (.bin .gtr (.symi .i64 16) (.symi .i64 5)) (.e))) 114886686 25 (.ite (.symb 24) (.int .i64 1) (.int .i64 0)) (.n (.n (.e) 168659433 14 (.bin .leq (.int .i64 0) (.symi .i64 13)) (.e)) 202011028 12 (.bin .gtr (.symi .i64 2) (.int .i64 0)) (.n (.e) 202060958 32 (.bin .add (.symi .i64 2) (.int .i64 1)) (.e)))) 202060965 13 (.bin .sub (.symi .i64 2) (.int .i64 1)) (.n (.n (.n (.e) 249948901 29 (.ite (.symb 28) (.symi .i64 26) (.int .i64 0)) (.e)) 443389316 22 (.ite (.symb 19) (.int .i64 (-1)) (.symi .i64 21)) (.n (.e) 478534625 28 (.bin .neq (.symi .i64 26) (.int .i64 0)) (.e))) 504861832 9 (.bin .gtr (.symi .i64 5) (.int .i64 1073741824)) (.n (.n (.e) 505061958 8 (.bin .lss (.symi .i64 5) (.int .i64 1)) (.e)) 529667649 26 (.ite (.symb 23) (.int .i64 (-1)) (.symi .i64 25)) (.n (.e) 545384606 3 (.bin .lss (.symi .i64 2) (.symi .i64 1)) (.e))))) 555931560 23 (.bin .lss (.symi .i64 17) (.symi .i64 6)) (.n (.n (.n (.n (.e) 555931574 24 (.bin .gtr (.symi .i64 17) (.symi .i64 6)) (.e)) 582646112 15 (.bin .lss (.symi .i64 13) (.symi .i64 1)) (.n (.e) 606012226 10 (.bin .lss (.symi .i64 6) (.int .i64 0)) (.e))) 606112310 11 (.bin .gtr (.symi .i64 6) (.int .i64 2)) (.n (.n (.e) 632610165 21 (.ite (.symb 20) (.int .i64 1) (.int .i64 0)) (.e)) 672730484 30 (.ite (.symb 27) (.symi .i64 22) (.symi .i64 29)) (.n (.e) 686737383 4 (.bin .leq (.int .i64 0) (.symi .i64 2)) (.e)))) 690532554 5 (.sop (.cell [.some .i64,.some .i64,.some .u8] 0) [.syms 0,.symi .i64 2]) (.n (.n (.n (.e) 690532556 6 (.sop (.cell [.some .i64,.some .i64,.some .u8] 1) [.syms 0,.symi .i64 2]) (.e)) 690532558 7 (.sop (.cell [.some .i64,.some .i64,.some .u8] 2) [.syms 0,.symi .i64 2]) (.n (.e) 729386564 16 (.sop (.cell [.some .i64,.some .i64,.some .u8] 0) [.syms 0,.symi .i64 13]) (.e))) 729386566 17 (.sop (.cell [.some .i64,.some .i64,.some .u8] 1) [.syms 0,.symi .i64 13]) (.n (.n (.e) 729386568 18 (.sop (.cell [.some .i64,.some .i64,.some .u8] 2) [.syms 0,.symi .i64 13]) (.e)) 882535865 31 (.bin .geq (.symi .i64 30) (.int .i64 0)) (.e))))
def wq26BW:Sw:=.node 4 (.node 15 (.run (.node 3 (.node 8 (.leaf .ret w26Se [(0,0)] [(1,.symi .i64 1),(2,.symi .i64 2),(3,.int .i64 2),(0,.syms 0),(1,.symi .i64 1)] []) (.node 9 (.leaf .ret w26Se [(0,0)] [(1,.symi .i64 1),(2,.symi .i64 2),(3,.int .i64 2),(0,.syms 0),(1,.symi .i64 1)] []) (.node 10 (.leaf .ret w26Se [(0,0)] [(1,.symi .i64 1),(2,.symi .i64 2),(3,.int .i64 6),(0,.syms 0),(1,.symi .i64 1)] []) (.node 11 (.leaf .ret w26Se [(0,0)] [(1,.symi .i64 1),(2,.symi .i64 2),(3,.int .i64 6),(0,.syms 0),(1,.symi .i64 1)] []) (.node 12 (.node 14 (.node 31 (.leaf .ret w26Se [(0,0)] [(1,.symi .i64 1),(2,.symi .i64 2),(3,.int .i64 28),(0,.syms 0),(1,.symi .i64 1)] []) (.leaf .normal w26S1 [(0,0)] [(1,.symi .i64 1),(1,.symi .i64 1),(1,.symi .i64 1),(2,.symi .i64 32),(0,.syms 0),(1,.symi .i64 1)] [])) (.dead)) (.leaf .normal w26S1 [(0,0)] [(1,.symi .i64 1),(1,.symi .i64 1),(1,.symi .i64 1),(2,.symi .i64 32),(0,.syms 0),(1,.symi .i64 1)] [])))))) (.leaf (.exit 0) w26S1 [(0,0)] [(1,.symi .i64 1),(1,.symi .i64 1),(1,.symi .i64 1),(2,.symi .i64 2),(0,.syms 0),(1,.symi .i64 1)] []))) (.dead)) (.dead)
def wq26BKd:KdT:=.n (.n (.n (.n (.n (.n .e none .e) none .e) (some .u8) (.n .e none .e)) none (.n (.n .e none .e) none (.n .e none .e))) (some .i64) (.n (.n (.n .e (some .i64) .e) none (.n .e (some .i64) .e)) (some .i64) (.n (.n .e (some .i64) .e) (some .i64) (.n .e (some .i64) .e)))) none (.n (.n (.n (.n (.n .e (some .i64) .e) (some .i64) .e) none (.n .e none .e)) none (.n (.n .e none .e) none (.n .e none .e))) (some .i64) (.n (.n (.n .e (some .u8) .e) none (.n .e (some .i64) .e)) (some .i64) (.n (.n .e (some .i64) .e) none (.n .e (some .i64) .e))))
def wq26BX:Ing:={m:=3,ins:=(w30K++[some .i64]),G:=wq26BG,T:=wq26BT,tab:=wTab,lsts:=wL,kb:=33,kt:=wq26BKd}
theorem wq26B_lt:okLT 3 wq26BG wq26BT=true:=by kernel_rfl
theorem wq26B_ok:okG wq26BG 3=true:=by kernel_rfl
theorem wq26B_seg:SegOk Try.prog wTab 48 ([loopOf (bodyOf Try.f26)]) w26S1 wq26BX wq26BW where
 lt:=wq26B_lt
 ok:=wq26B_ok
 hook:=fun F=>no_hooks rfl F
 n0:=rfl
 id:=by kernel_rfl
 reck:=by kernel_rfl
 tab:=rfl
 cuts:=rfl
 kt:=by kernel_rfl
def wq26CG:List SDef:=[]
def wq26CT:LT:=.e
def wq26CW:Sw:=.run (.leaf .ret w26Se [(0,0)] [(1,.symi .i64 1),(2,.int .i64 (-1)),(3,.int .i64 0),(0,.syms 0),(1,.symi .i64 1)] [])
def wq26CKd:KdT:=.n (.n .e (some .i64) .e) none (.n .e (some .i64) .e)
def wq26CX:Ing:={m:=3,ins:=(w30K++[some .i64]),G:=wq26CG,T:=wq26CT,tab:=wTab,lsts:=wL,kb:=3,kt:=wq26CKd}
theorem wq26C_lt:okLT 3 wq26CG wq26CT=true:=by kernel_rfl
theorem wq26C_ok:okG wq26CG 3=true:=by kernel_rfl
theorem wq26C_seg:SegOk Try.prog wTab 48 ((flatC (bodyOf Try.f26)).drop 3) w26S1 wq26CX wq26CW where
 lt:=wq26C_lt
 ok:=wq26C_ok
 hook:=fun F=>no_hooks rfl F
 n0:=rfl
 id:=by kernel_rfl
 reck:=by kernel_rfl
 tab:=rfl
 cuts:=rfl
 kt:=by kernel_rfl
structure J26 (C:ByteArray) (N:Nat) (E:Nat→Option Fz) (σ:Sig):Prop where
 s:σ.sval 0=C
 n:σ.ival 1=N
 x:σ.ext=E
 j: ∃j:Nat,σ.ival 2=j∧j≤N∧ck C N 0=ck C N j
theorem J26.agree {C:ByteArray} {N:Nat} {E:Nat→Option Fz} {σ τ:Sig} (ag:Agree 3 σ τ) (h:J26 C N E σ):J26 C N E τ:=
 ⟨by rw [←(ag.val 0 (by decide)).2.2];exact h.s,by rw [←(ag.val 1 (by decide)).1];exact h.n,by rw [←ag.ext];exact h.x,by rw [←(ag.val 2 (by decide)).1];exact h.j⟩
theorem E26 {g:Inj} {w:World} {σ:Sig} (hH:HRel (cx0 wTab) g sf26.pre w) (hg:g.sig.tab=wTab) (h2:σ.ival 2=g.sig.ival 2) (h3:σ.ival 3=g.sig.ival 3) (h0:σ.sval 0=g.sig.sval 0) (h1:σ.ival 1=g.sig.ival 1) (hx:σ.ext=g.sig.ext):
  EndZ wTab 48 (fraOf g w sf26.pre.length) (bodyPost Try.prog Try.f26 (MemR wTab sf26 g w)) .ret w26Se σ:=
 endZ_mem (M:=4) (l:=[(2,.symi .i64 2),(3,.symi .i64 3),(0,.syms 0),(1,.symi .i64 1)]) (vs:=[.symi .i64 2,.symi .i64 3]) (by kernel_rfl) rfl rfl hH hg rfl rfl rfl (by kernel_rfl) (by kernel_rfl)
  ⟨congrArg (AVal.int .i64) h2,congrArg (AVal.int .i64) h3,congrArg AVal.str h0,congrArg (AVal.int .i64) h1,trivial⟩ (Nat.le_refl _) hx (.inl rfl)
theorem pin1 {g:Inj} {w:World} {W:Sw} (h:pinW 0 W=true): ∀i,(fraOf g w 1).pin i≠none→pinW i W=true:=by
 intro i hi
 have hi:(if i<1 then some (g.loc i) else none)≠none:=hi
 split at hi
 ·have:i=0:=by omega
  subst this;exact h
 ·exact absurd rfl hi
theorem code2 {p:Option E3} {x:E3} (h:x.t<1∨1073741824<x.t):codeOf p x=2:=by unfold codeOf;rw [if_pos h]
theorem code6 {p:Option E3} {x:E3} (h: ¬(x.t<1∨1073741824<x.t)) (h2:x.k<0∨2<x.k):codeOf p x=6:=by unfold codeOf;rw [if_neg h,if_pos h2]
theorem code0 {x:E3} (h: ¬(x.t<1∨1073741824<x.t)) (h2: ¬(x.k<0∨2<x.k)):codeOf none x=0:=by unfold codeOf;rw [if_neg h,if_neg h2]
theorem codeP {y x:E3} (h: ¬(x.t<1∨1073741824<x.t)) (h2: ¬(x.k<0∨2<x.k)):codeOf (some y) x=if Wpl.ahead y x then 0 else 28:=by unfold codeOf;rw [if_neg h,if_neg h2]
set_option maxHeartbeats 1000000 in
theorem c26:SymFOk Try.prog wTab (fun _=>True) sf26:=
 symF_of_stage Try.func26 rfl (n:=48) rfl (by decide) (by decide) rfl rfl (by kernel_rfl) (fun g w hg _ hE hI hpc hH=>by
  obtain ⟨N,hN,hC⟩:=lst_ok (i:=0) hH rfl
  generalize hCC:g.sig.sval 0=C at hC
  have hN1:(N:Int)<9223372036854775808:=by
   have:=hI 1 .i64 (by decide) rfl
   rw [wr_i64,hN] at this;omega
  have hdec:decL (encB C)=lstE C N:=decL_of hC
  have r2:g.sig.ival 2=(ck C N 0).1:=by
   have h:=eqFn (hE.at 0 _ rfl rfl)
   have h:g.sig.ival 2=IntKind.i64.wrap (g.sig.tab 200 [encB (g.sig.sval 0)]):=h
   rw [hg,hCC] at h
   have e:wTab 200 [encB C]=(check (decL (encB C))).1:=rfl
   rw [e,hdec,wr_i64] at h
   have:=ck_fst (l:=lstE C N) (p:=none) (i:=0) (Int.le_refl _)
   rw [lstE_len] at this
   rw [h,ck_check]
   unfold check
   omega
  have r3:g.sig.ival 3=(ck C N 0).2:=by
   have h:=eqFn (hE.at 1 _ rfl rfl)
   have h:g.sig.ival 3=IntKind.i64.wrap (g.sig.tab 201 [encB (g.sig.sval 0)]):=h
   rw [hg,hCC] at h
   have e:wTab 201 [encB C]=(check (decL (encB C))).2:=rfl
   rw [e,hdec,wr_i64] at h
   have:=ck_snd (l:=lstE C N) (p:=none) (i:=0)
   rw [h,ck_check]
   unfold check
   omega
  rw [show flatC (bodyOf Try.f26)=(flatC (bodyOf Try.f26)).take 2++(.block (idOf (bodyOf Try.f26)) (.loop (loopOf (bodyOf Try.f26)))::(flatC (bodyOf Try.f26)).drop 3) from rfl]
  have hlast:Stage Try.prog wTab 48 (fraOf g w 1) (bodyPost Try.prog Try.f26 (MemR wTab sf26 g w)) ((flatC (bodyOf Try.f26)).drop 3) w26S1 3 (w30K++[some .i64]) (fun σ=>J26 C N g.sig.ext σ∧σ.ival 2=N):=by
   refine Stage.last mixed wq26C_seg ⟨rfl,rfl⟩ (fun σ τ ag h=>⟨h.1.agree ag,by rw [←(ag.val 2 (by decide)).1];exact h.2⟩) (fun τ h=>rows_nil) (fun τ e ht hi hj=> ?_) (pin1 (by kernel_rfl))
   refine segsPw_segs ?_
   obtain ⟨hj,hjN⟩:=hj
   obtain ⟨j,k1,k2,k3⟩:=hj.j
   have:j=N:=by omega
   subst this
   rw [ck_end] at k3
   refine E26 hH hg ?_ ?_ (hj.s.trans hCC.symm) (hj.n.trans hN.symm) hj.x
   ·show (-1:Int)=_;rw [r2,k3]
   ·show (0:Int)=_;rw [r3,k3]
  have hloop:Stage Try.prog wTab 48 (fraOf g w 1) (bodyPost Try.prog Try.f26 (MemR wTab sf26 g w)) (.block (idOf (bodyOf Try.f26)) (.loop (loopOf (bodyOf Try.f26)))::(flatC (bodyOf Try.f26)).drop 3) w26S1 3 (w30K++[some .i64]) (J26 C N g.sig.ext):=by
   refine Stage.loop (μ:=fun σ=>(N-σ.ival 2).toNat) mixed wq26B_seg ⟨rfl,rfl⟩ (fun σ τ ag h=>h.agree ag) (fun σ τ ag=>by rw [(ag.val 2 (by decide)).1]) (fun τ h=>rows_nil) hlast (fun τ e ht hi hj=> ?_) (pin1 (by kernel_rfl))
   refine segsPw_segs ?_
   obtain ⟨j,k1,k2,k3⟩:=hj.j
   have a0:τ.sval 0=C:=hj.s
   have a1:τ.ival 1=N:=hj.n
   have b3:τ.bval 3=decide (τ.ival 2<τ.ival 1):=eqB (e.at 0 _ rfl rfl) rfl
   have b4:τ.bval 4=decide ((0:Int)≤τ.ival 2):=eqB (e.at 1 _ rfl rfl) rfl
   have c5:=eqCell (m:=j) (e.at 2 _ rfl rfl) (show den τ (.symi .i64 2)=_ by rw [←k1];rfl)
   have c6:=eqCell (m:=j) (e.at 3 _ rfl rfl) (show den τ (.symi .i64 2)=_ by rw [←k1];rfl)
   rw [a0] at c5 c6
   have v5:τ.ival 5=(rowE C j).t:=by simp only [rowE,c5,iOf]
   have v6:τ.ival 6=(rowE C j).k:=by simp only [rowE,c6,iOf]
   have b8:τ.bval 8=decide (τ.ival 5<1):=eqB (e.at 5 _ rfl rfl) rfl
   have b9:τ.bval 9=decide (τ.ival 5>1073741824):=eqB (e.at 6 _ rfl rfl) rfl
   have b10:τ.bval 10=decide (τ.ival 6<0):=eqB (e.at 7 _ rfl rfl) rfl
   have b11:τ.bval 11=decide (τ.ival 6>2):=eqB (e.at 8 _ rfl rfl) rfl
   have b12:τ.bval 12=decide (τ.ival 2>0):=eqB (e.at 9 _ rfl rfl) rfl
   have i13:τ.ival 13=IntKind.i64.wrap (τ.ival 2-1):=eqI (e.at 10 _ rfl rfl) rfl
   have b14:τ.bval 14=decide ((0:Int)≤τ.ival 13):=eqB (e.at 11 _ rfl rfl) rfl
   have b15:τ.bval 15=decide (τ.ival 13<τ.ival 1):=eqB (e.at 12 _ rfl rfl) rfl
   have b19:τ.bval 19=decide (τ.ival 16<τ.ival 5):=eqB (e.at 16 _ rfl rfl) rfl
   have b20:τ.bval 20=decide (τ.ival 16>τ.ival 5):=eqB (e.at 17 _ rfl rfl) rfl
   have i21:τ.ival 21=(bif τ.bval 20 then 1 else 0):=eqIteI (e.at 18 _ rfl rfl) rfl rfl rfl
   have i22:τ.ival 22=(bif τ.bval 19 then-1 else τ.ival 21):=eqIteI (e.at 19 _ rfl rfl) rfl rfl rfl
   have b23:τ.bval 23=decide (τ.ival 17<τ.ival 6):=eqB (e.at 20 _ rfl rfl) rfl
   have b24:τ.bval 24=decide (τ.ival 17>τ.ival 6):=eqB (e.at 21 _ rfl rfl) rfl
   have i25:τ.ival 25=(bif τ.bval 24 then 1 else 0):=eqIteI (e.at 22 _ rfl rfl) rfl rfl rfl
   have i26:τ.ival 26=(bif τ.bval 23 then-1 else τ.ival 25):=eqIteI (e.at 23 _ rfl rfl) rfl rfl rfl
   have b27:τ.bval 27= !(τ.ival 22==0):=eqB (e.at 24 _ rfl rfl) rfl
   have b28:τ.bval 28= !(τ.ival 26==0):=eqB (e.at 25 _ rfl rfl) rfl
   have i29:τ.ival 29=(bif τ.bval 28 then τ.ival 26 else 0):=eqIteI (e.at 26 _ rfl rfl) rfl rfl rfl
   have i30:τ.ival 30=(bif τ.bval 27 then τ.ival 22 else τ.ival 29):=eqIteI (e.at 27 _ rfl rfl) rfl rfl rfl
   have b31:τ.bval 31=decide (τ.ival 30≥0):=eqB (e.at 28 _ rfl rfl) rfl
   have i32:τ.ival 32=IntKind.i64.wrap (τ.ival 2+1):=eqI (e.at 29 _ rfl rfl) rfl
   rw [wr_i64] at i13 i32
   have out: ∀(n:Int),j<N→codeOf (pv C j) (rowE C j)=n→n≠0→EndZ wTab 48 (fraOf g w 1) (bodyPost Try.prog Try.f26 (MemR wTab sf26 g w)) .ret w26Se (asgS τ ([(1,.symi .i64 1),(2,.symi .i64 2),(3,.int .i64 n),(0,.syms 0),(1,.symi .i64 1)]++[])):=by
    intro n hlt h1 h2
    have hk:=ck_no hlt (by rw [h1];exact h2)
    rw [←k3,h1] at hk
    refine E26 hH hg ?_ ?_ (hj.s.trans hCC.symm) (hj.n.trans hN.symm) hj.x
    ·show τ.ival 2=_;rw [r2,hk];exact k1
    ·show n=_;rw [r3,hk]
   have go:j<N→codeOf (pv C j) (rowE C j)=0→InsOk (asgS τ ([(1,.symi .i64 1),(1,.symi .i64 1),(1,.symi .i64 1),(2,.symi .i64 32),(0,.syms 0),(1,.symi .i64 1)]++[])) 3 (w30K++[some .i64])∧J26 C N g.sig.ext (asgS τ ([(1,.symi .i64 1),(1,.symi .i64 1),(1,.symi .i64 1),(2,.symi .i64 32),(0,.syms 0),(1,.symi .i64 1)]++[]))∧τ.tab=wTab∧(N-τ.ival 32).toNat<(N-τ.ival 2).toNat:=by
    intro hlt h1
    refine ⟨insOk_kt (X:=wq26BX) e hi (by kernel_rfl) (by kernel_rfl),⟨hj.s,hj.n,hj.x,j+1,?_,by omega,k3.trans (ck_go hlt h1)⟩,ht,by omega⟩
    show τ.ival 32=_;omega
   refine ⟨fun f4=>⟨fun f15=>⟨fun f3=> ?_,fun f3=> ?_⟩,fun f15=> ?_⟩,fun f4=> ?_⟩
   ·rw [b3,decide_eq_true_eq] at f3
    have hlt:j<N:=by omega
    refine ⟨fun f8=> .inr (.inr ⟨rfl,out 2 hlt (code2 ?_) (by decide)⟩),fun f8=>⟨fun f9=> .inr (.inr ⟨rfl,out 2 hlt (code2 ?_) (by decide)⟩),fun f9=> ?_⟩⟩
    ·rw [b8,decide_eq_true_eq] at f8;omega
    ·rw [b9,decide_eq_true_eq] at f9;omega
    ·rw [b8,decide_eq_false_iff_not] at f8
     rw [b9,decide_eq_false_iff_not] at f9
     have n1: ¬((rowE C j).t<1∨1073741824<(rowE C j).t):=by omega
     refine ⟨fun f10=> .inr (.inr ⟨rfl,out 6 hlt (code6 n1 ?_) (by decide)⟩),fun f10=>⟨fun f11=> .inr (.inr ⟨rfl,out 6 hlt (code6 n1 ?_) (by decide)⟩),fun f11=> ?_⟩⟩
     ·rw [b10,decide_eq_true_eq] at f10;omega
     ·rw [b11,decide_eq_true_eq] at f11;omega
     ·rw [b10,decide_eq_false_iff_not] at f10
      rw [b11,decide_eq_false_iff_not] at f11
      have n2: ¬((rowE C j).k<0∨2<(rowE C j).k):=by omega
      refine ⟨fun f12=>⟨fun f14=> ?_,fun f14=> ?_⟩,fun f12=> ?_⟩
      ·rw [b12,decide_eq_true_eq] at f12
       have hj0:0<j:=by omega
       have k13:τ.ival 13=((j-1:Nat):Int):=by omega
       have c16:=eqCell (m:=j-1) (e.at 13 _ rfl rfl) (show den τ (.symi .i64 13)=_ by rw [←k13];rfl)
       have c17:=eqCell (m:=j-1) (e.at 14 _ rfl rfl) (show den τ (.symi .i64 13)=_ by rw [←k13];rfl)
       rw [a0] at c16 c17
       have v16:τ.ival 16=(rowE C (j-1)).t:=by simp only [rowE,c16,iOf]
       have v17:τ.ival 17=(rowE C (j-1)).k:=by simp only [rowE,c17,iOf]
       have hp:pv C j=some (rowE C (j-1)):=by rw [pv,if_neg (by omega)]
       have ha:τ.bval 31= !(Wpl.ahead (rowE C (j-1)) (rowE C j)):=by
        have hh:τ.bval 31=true↔ ¬(Wpl.ahead (rowE C (j-1)) (rowE C j)=true):=by
         rw [b31,decide_eq_true_eq,ahead_iff,i30,b27,i29,b28,i26,b23,i25,b24,i22,b19,i21,b20,v16,v17,v5,v6]
         by_cases g1:(rowE C (j-1)).t<(rowE C j).t
         ·simp [g1]
         ·by_cases g2:(rowE C (j-1)).t>(rowE C j).t
          ·simp [g1,g2];omega
          ·by_cases g3:(rowE C (j-1)).k<(rowE C j).k
           ·simp [g1,g2,g3];omega
           ·by_cases g4:(rowE C (j-1)).k>(rowE C j).k
            ·simp [g1,g2,g3,g4]
            ·simp [g1,g2,g3,g4]
        cases h1:τ.bval 31<;>cases h2:Wpl.ahead (rowE C (j-1)) (rowE C j)<;>simp_all
       refine ⟨fun f31=> .inr (.inr ⟨rfl,out 28 hlt ?_ (by decide)⟩),fun f31=> ?_⟩
       ·rw [hp,codeP n1 n2]
        rw [ha] at f31
        have:Wpl.ahead (rowE C (j-1)) (rowE C j)=false:=by simpa using f31
        rw [this];rfl
       ·obtain ⟨q1,q2,q3,q4⟩:=go hlt (by
         rw [hp,codeP n1 n2]
         rw [ha] at f31
         have:Wpl.ahead (rowE C (j-1)) (rowE C j)=true:=by simpa using f31
         rw [this];rfl)
        exact .inl ⟨rfl,rfl,q1,q2,q3,q4⟩
      ·rw [b12,decide_eq_true_eq] at f12
       rw [b14,decide_eq_false_iff_not] at f14
       exfalso;omega
      ·rw [b12,decide_eq_false_iff_not] at f12
       have hj0:j=0:=by omega
       obtain ⟨q1,q2,q3,q4⟩:=go hlt (by
        have hp:pv C j=none:=by rw [pv,if_pos hj0]
        rw [hp];exact code0 n1 n2)
       exact .inl ⟨rfl,rfl,q1,q2,q3,q4⟩
   ·rw [b3,decide_eq_false_iff_not] at f3
    refine .inr (.inl ⟨rfl,rfl,insOk_kt (X:=wq26BX) e hi (by kernel_rfl) (by kernel_rfl),⟨⟨hj.s,hj.n,hj.x,j,k1,k2,k3⟩,?_⟩,ht⟩)
    show τ.ival 2=_
    omega
   ·rw [b15,decide_eq_false_iff_not] at f15
    exfalso;omega
   ·rw [b4,decide_eq_false_iff_not] at f4
    exfalso;omega
  have:=Stage.seg mixed wq26A_seg ⟨rfl,rfl⟩ (fun σ τ (ag:Agree 2 σ τ) (h:Agree 2 g.sig σ)=>h.trans' ag) (fun τ h=>rows_nil) hloop (fun τ e ht hi ag=>by
   refine segsPw_segs (.inl ⟨rfl,rfl,insOk_kt (X:=wq26AX) e hi (by kernel_rfl) (by kernel_rfl),⟨?_,?_,ag.ext.symm,0,rfl,Nat.zero_le _,rfl⟩,ht⟩)
   ·show τ.sval 0=C;rw [←(ag.val 0 (by decide)).2.2];exact hCC
   ·show τ.ival 1=_;rw [←(ag.val 1 (by decide)).1];exact hN) (pin1 (by kernel_rfl))
  exact this)
end Go.Proofs.Ytapfkgenachpgaa.wc
