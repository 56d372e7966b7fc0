/-
 Contracts of the world's functions: over lists of inputs.
 No conditions.
-/
import Derived.Test.YtapfkgenachpgaaWf
import Derived.WalkKit
set_option maxRecDepth 100000
namespace Go.Proofs.Ytapfkgenachpgaa.wc
open Go.Ev Go.RowKit Go.Wpl Go.Wt
set_option linter.unusedVariables false
set_option linter.unusedSimpArgs false
def wq32AG:List SDef:=[.bin .add (.symi .i64 8) (.int .i64 1)]
def wq32AT:LT:=.n (.e) 808062776 9 (.bin .add (.symi .i64 8) (.int .i64 1)) (.e)
def wq32AW:Sw:=.run (.leaf .normal w32S1 [(0,0),(1,0),(2,0),(3,0),(4,0),(5,0)] [(2,.symi .u8 2),(3,.symi .u8 3),(4,.symi .u8 4),(5,.symi .i64 5),(9,.symi .i64 6),(10,.symi .i64 7),(8,.symi .i64 9),(0,.syms 0),(1,.symi .i64 1),(6,.symi .i64 6),(7,.symi .i64 7),(8,.symi .i64 9)] [])
def wq32AKd:KdT:=.n (.n (.n (.n .e (some .i64) .e) (some .u8) .e) (some .i64) (.n (.n .e (some .i64) .e) (some .i64) .e)) none (.n (.n (.n .e (some .i64) .e) (some .u8) .e) (some .u8) (.n .e (some .i64) .e))
def wq32AX:Ing:={m:=9,ins:=w32K,G:=wq32AG,T:=wq32AT,tab:=wTab,lsts:=wL,kb:=10,kt:=wq32AKd}
theorem wq32A_lt:okLT 9 wq32AG wq32AT=true:=by kernel_rfl
theorem wq32A_ok:okG wq32AG 9=true:=by kernel_rfl
theorem wq32A_seg:SegOk Try.prog wTab 45 ((flatC (bodyOf Try.f32)).take 5) w32S0 wq32AX wq32AW where
 lt:=wq32A_lt
 ok:=wq32A_ok
 hook:=fun F=>no_hooks rfl F
 n0:=rfl
 id:=by kernel_rfl
 reck:=by kernel_rfl
 tab:=rfl
 cuts:=rfl
 kt:=by kernel_rfl
def wq32RG:List SDef:=[.bin .leq (.int .i64 1) (.symi .i64 10),
 .bin .add (.symi .i64 9) (.int .i64 1),
 .bin .leq (.int .i64 0) (.symi .i64 15),
 .bin .sub (.symi .i64 10) (.int .i64 1),
 .bin .leq (.symi .i64 10) (.symi .i64 10)]
def wq32RT:LT:=.n (.n (.n (.e) 148601931 18 (.bin .leq (.symi .i64 10) (.symi .i64 10)) (.e)) 212341031 14 (.bin .leq (.int .i64 1) (.symi .i64 10)) (.e)) 855366589 16 (.bin .leq (.int .i64 0) (.symi .i64 15)) (.n (.n (.e) 909063079 15 (.bin .add (.symi .i64 9) (.int .i64 1)) (.e)) 1010063389 17 (.bin .sub (.symi .i64 10) (.int .i64 1)) (.e))
def wq32RW:Sw:=.pick 12 0 (.node 14 (.node 16 (.node 18 (.run (.leaf .normal w32S1 [(0,0),(1,0),(2,0),(3,0),(4,0),(5,0)] [(2,.symi .u8 13),(3,.symi .u8 3),(4,.symi .u8 4),(5,.symi .i64 5),(9,.symi .i64 15),(10,.symi .i64 17),(8,.symi .i64 8),(0,.syms 0),(1,.symi .i64 1),(6,.symi .i64 6),(7,.symi .i64 7),(8,.symi .i64 8)] [])) (.dead)) (.dead)) (.dead)) (.pick 12 1 (.node 14 (.node 16 (.node 18 (.run (.leaf .normal w32S1 [(0,0),(1,0),(2,0),(3,0),(4,0),(5,0)] [(2,.symi .u8 2),(3,.symi .u8 13),(4,.symi .u8 4),(5,.symi .i64 11),(9,.symi .i64 15),(10,.symi .i64 17),(8,.symi .i64 8),(0,.syms 0),(1,.symi .i64 1),(6,.symi .i64 6),(7,.symi .i64 7),(8,.symi .i64 8)] [])) (.dead)) (.dead)) (.dead)) (.pick 12 2 (.node 14 (.node 16 (.node 18 (.run (.leaf .normal w32S1 [(0,0),(1,0),(2,0),(3,0),(4,0),(5,0)] [(2,.symi .u8 2),(3,.symi .u8 3),(4,.symi .u8 13),(5,.symi .i64 5),(9,.symi .i64 15),(10,.symi .i64 17),(8,.symi .i64 8),(0,.syms 0),(1,.symi .i64 1),(6,.symi .i64 6),(7,.symi .i64 7),(8,.symi .i64 8)] [])) (.dead)) (.dead)) (.dead)) (.dead)))
def wq32RKd:KdT:=.n (.n (.n (.n (.n .e (some .i64) .e) (some .i64) .e) (some .u8) (.n .e (some .i64) .e)) (some .i64) (.n (.n (.n .e (some .i64) .e) (some .i64) .e) (some .i64) (.n .e (some .u8) .e))) none (.n (.n (.n (.n .e none .e) (some .i64) .e) (some .u8) (.n .e (some .i64) .e)) (some .u8) (.n (.n (.n .e none .e) (some .i64) .e) (some .i64) (.n .e none .e)))
def wq32RX:Ing:={m:=14,ins:=(w32K1++[some .i64,some .i64,some .u8]),G:=wq32RG,T:=wq32RT,tab:=wTab,lsts:=wL,kb:=19,kt:=wq32RKd}
theorem wq32R_lt:okLT 14 wq32RG wq32RT=true:=by kernel_rfl
theorem wq32R_ok:okG wq32RG 14=true:=by kernel_rfl
theorem wq32R_rd:RdOk Try.prog wTab wq32RX 11 w32K1 true 1000 40 6 (tmOf w32S1 45) (rngPs (flatC (bodyOf Try.f32))) (rngAsg (flatC (bodyOf Try.f32))) (rngBody (flatC (bodyOf Try.f32))) w32S1.t w32S1 wq32RW where
 mixed:=mixed
 lt:=wq32R_lt
 ok:=wq32R_ok
 hook:=fun F=>no_hooks rfl F
 n0:=rfl
 tab:=rfl
 m:=rfl
 ins:=rfl
 inl:=rfl
 rows:=rfl
 cuts:=rfl
 inv:=fun _=>trivial
 kt:=by kernel_rfl
 t:=rfl
 cells:=by kernel_rfl
 id:=by kernel_rfl
 tf:=fun i v h=>tmOf_get h
 df:=rfl
 uniq:=fun i u v h1 h2=>by
  simp only [w32S1,w28T,w95T,w32S1,List.mem_cons,List.not_mem_nil,or_false,Prod.mk.injEq] at h1 h2
  rcases h1 with h1|h1|h1|h1<;>rcases h2 with h2|h2|h2|h2<;>first|(exfalso;omega)|(rw [h1.2,h2.2])
 reck:=by kernel_rfl
 pins:=pins_of (by kernel_rfl)
def wq32CG:List SDef:=[.bin .eql (.symi .i64 5) (.symi .i64 8),
 .ite (.symb 11) (.symi .u8 3) (.int .u8 0)]
def wq32CT:LT:=.n (.n (.e) 30635066 11 (.bin .eql (.symi .i64 5) (.symi .i64 8)) (.e)) 902311603 12 (.ite (.symb 11) (.symi .u8 3) (.int .u8 0)) (.e)
def wq32CW:Sw:=.run (.leaf .ret w32Se [(0,0),(1,0),(3,0)] [(10,.symi .u8 2),(11,.symi .u8 3),(12,.symi .u8 4),(13,.symi .i64 5),(15,.symi .i64 9),(16,.symi .i64 10),(9,.symi .i64 8),(0,.syms 0),(1,.symi .i64 1),(10,.symi .u8 2),(12,.symi .u8 4),(17,.symb 11),(18,.symi .u8 12)] [])
def wq32CKd:KdT:=.n (.n (.n (.n .e (some .i64) .e) (some .u8) (.n .e none .e)) (some .i64) (.n (.n .e (some .i64) .e) (some .i64) .e)) none (.n (.n (.n .e (some .i64) .e) (some .u8) (.n .e (some .u8) .e)) (some .u8) (.n (.n .e (some .i64) .e) (some .i64) .e))
def wq32CX:Ing:={m:=11,ins:=w32K1,G:=wq32CG,T:=wq32CT,tab:=wTab,lsts:=wL,kb:=13,kt:=wq32CKd}
theorem wq32C_lt:okLT 11 wq32CG wq32CT=true:=by kernel_rfl
theorem wq32C_ok:okG wq32CG 11=true:=by kernel_rfl
theorem wq32C_reck:okSw (fun F=>unmarkT w32S1.heap.length (runL Try.prog (cxOf wq32CX) true 1000 (evD Try.prog (cxOf wq32CX) true 1000 40).1 (evD Try.prog (cxOf wq32CX) true 1000 40).2 ((flatC (bodyOf Try.f32)).drop 6) F ⟨45,(tmOf w32S1 45).tr,[.mark w32S1.heap.length]⟩ ⟨w32S1.heap++[.dfr],[]⟩)) wq32CW []=true:=by kernel_rfl
theorem tab203 (C:ByteArray) (a b:Int):wTab 203 [encB C,a,b]=b01 (decide ((check (decL (encB C))).2=0∧0≤a∧0≤b∧a+b=(decL (encB C)).length)):=rfl
theorem pc203 {σ:Sig} {i a b N:Nat} {C:ByteArray} (ht:σ.tab=wTab) (hs:σ.sval i=C) (hC:C.data.toList.length=N*17) (h:evalS σ (.fnb 203 [.syms i,.symi .i64 a,.symi .i64 b])=some (.bool true)):Script (lstE C N)∧ ∃o n:Nat,σ.ival a=o∧σ.ival b=n∧o+n=N:=by
 have h:(AVal.bool (!(σ.tab 203 [encB (σ.sval i),σ.ival a,σ.ival b]==0)))=.bool true:=Option.some.inj h
 rw [ht,hs,tab203,b01_ne,decL_of hC] at h
 simp only [AVal.bool.injEq,decide_eq_true_eq,lstE_len] at h
 obtain ⟨h1,h2,h3,h4⟩:=h
 exact ⟨check_zero.1 h1,(σ.ival a).toNat,(σ.ival b).toNat,by omega,by omega,by omega⟩
structure K32 (C:ByteArray) (N o n:Nat) (c:Int) (L0:Lv) (E:Nat→Option Fz) (pre:List E3) (σ:Sig):Prop where
 s:σ.sval 0=C
 nn:σ.ival 1=N
 i6:σ.ival 6=o
 i7:σ.ival 7=n
 cy:σ.ival 8=c
 x:σ.ext=E
 v0:σ.ival 2=(pre.foldl Lv.take L0).v0
 v1:σ.ival 3=(pre.foldl Lv.take L0).v1
 v2:σ.ival 4=(pre.foldl Lv.take L0).v2
 vc:σ.ival 5=(pre.foldl Lv.take L0).came
 off:σ.ival 9=(o:Int)+pre.length
 len:σ.ival 10=(n:Int)-pre.length
theorem K32.agree {C:ByteArray} {N o n:Nat} {c:Int} {L0:Lv} {E:Nat→Option Fz} {pre:List E3} {σ τ:Sig} (ag:Agree 11 σ τ) (h:K32 C N o n c L0 E pre σ):K32 C N o n c L0 E pre τ:=
  ⟨by rw [←(ag.val 0 (by decide)).2.2];exact h.s,by rw [←(ag.val 1 (by decide)).1];exact h.nn,by rw [←(ag.val 6 (by decide)).1];exact h.i6,by rw [←(ag.val 7 (by decide)).1];exact h.i7,by rw [←(ag.val 8 (by decide)).1];exact h.cy,by rw [←ag.ext];exact h.x,
   by rw [←(ag.val 2 (by decide)).1];exact h.v0,by rw [←(ag.val 3 (by decide)).1];exact h.v1,by rw [←(ag.val 4 (by decide)).1];exact h.v2,by rw [←(ag.val 5 (by decide)).1];exact h.vc,
   by rw [←(ag.val 9 (by decide)).1];exact h.off,by rw [←(ag.val 10 (by decide)).1];exact h.len⟩
theorem K32.step {C:ByteArray} {N o n:Nat} {c:Int} {L0:Lv} {E:Nat→Option Fz} {pre:List E3} {x:E3} {τ:Sig} {a0 a1 a2 a5:Nat} (hk:K32 C N o n c L0 E pre τ)
  (h0:τ.ival a0=((pre.foldl Lv.take L0).take x).v0) (h1:τ.ival a1=((pre.foldl Lv.take L0).take x).v1) (h2:τ.ival a2=((pre.foldl Lv.take L0).take x).v2) (h5:τ.ival a5=((pre.foldl Lv.take L0).take x).came)
  (h15:τ.ival 15=(o:Int)+((pre++[x]).length:Nat)) (h17:τ.ival 17=(n:Int)-((pre++[x]).length:Nat)):
  K32 C N o n c L0 E (pre++[x]) (asgS τ ([(2,.symi .u8 a0),(3,.symi .u8 a1),(4,.symi .u8 a2),(5,.symi .i64 a5),(9,.symi .i64 15),(10,.symi .i64 17),(8,.symi .i64 8),(0,.syms 0),(1,.symi .i64 1),(6,.symi .i64 6),(7,.symi .i64 7),(8,.symi .i64 8)]++[])):=by
 have e:(pre++[x]).foldl Lv.take L0=(pre.foldl Lv.take L0).take x:=by rw [List.foldl_append,List.foldl_cons,List.foldl_nil]
 exact ⟨hk.s,hk.nn,hk.i6,hk.i7,hk.cy,extS hk.x,by rw [e];exact h0,by rw [e];exact h1,by rw [e];exact h2,by rw [e];exact h5,h15,h17⟩
theorem K32.zero {C:ByteArray} {N o n:Nat} {c:Int} {L0:Lv} {E:Nat→Option Fz} {τ:Sig} (hs:τ.sval 0=C) (hn:τ.ival 1=N) (h6:τ.ival 6=o) (h7:τ.ival 7=n) (h9:τ.ival 9=c) (hx:τ.ext=E)
  (h2:τ.ival 2=L0.v0) (h3:τ.ival 3=L0.v1) (h4:τ.ival 4=L0.v2) (h5:τ.ival 5=L0.came):
  K32 C N o n c L0 E [] (asgS τ ([(2,.symi .u8 2),(3,.symi .u8 3),(4,.symi .u8 4),(5,.symi .i64 5),(9,.symi .i64 6),(10,.symi .i64 7),(8,.symi .i64 9),(0,.syms 0),(1,.symi .i64 1),(6,.symi .i64 6),(7,.symi .i64 7),(8,.symi .i64 9)]++[])):=
 ⟨hs,hn,h6,h7,h9,extS hx,h2,h3,h4,h5,by rw [show (o:Int)+(([]:List E3).length:Nat)=o by simp];exact h6,by rw [show (n:Int)-(([]:List E3).length:Nat)=n by simp];exact h7⟩
def L32:Asg:=[(10,.symi .u8 10),(12,.symi .u8 12),(17,.symb 17),(18,.symi .u8 18),(10,.symi .u8 10),(11,.symi .u8 11),(12,.symi .u8 12),(13,.symi .i64 13),(15,.symi .i64 15),(16,.symi .i64 16),(9,.symi .i64 9),(0,.syms 0),(1,.symi .i64 1),(10,.symi .u8 10),(12,.symi .u8 12),(17,.symb 17),(18,.symi .u8 18)]
theorem den32 {σ τ:Sig} (h10:σ.ival 10=τ.ival 10) (h11:σ.ival 11=τ.ival 11) (h12:σ.ival 12=τ.ival 12) (h13:σ.ival 13=τ.ival 13) (h15:σ.ival 15=τ.ival 15) (h16:σ.ival 16=τ.ival 16) (h9:σ.ival 9=τ.ival 9) (h17:σ.bval 17=τ.bval 17) (h18:σ.ival 18=τ.ival 18) (h0:σ.sval 0=τ.sval 0) (h1:σ.ival 1=τ.ival 1):DenEq σ τ L32:=
 ⟨congrArg (AVal.int .u8) h10,congrArg (AVal.int .u8) h12,congrArg AVal.bool h17,congrArg (AVal.int .u8) h18,congrArg (AVal.int .u8) h10,congrArg (AVal.int .u8) h11,congrArg (AVal.int .u8) h12,congrArg (AVal.int .i64) h13,congrArg (AVal.int .i64) h15,congrArg (AVal.int .i64) h16,congrArg (AVal.int .i64) h9,congrArg AVal.str h0,congrArg (AVal.int .i64) h1,
  congrArg (AVal.int .u8) h10,congrArg (AVal.int .u8) h12,congrArg AVal.bool h17,congrArg (AVal.int .u8) h18,trivial⟩
theorem lst32 {i:Nat} {s n:AVal} {cl:List (Option IntKind)} {e:TypeId} (h:w32S1.heap[i]? =some (.lst s n cl e)):i=1∧n=.symi .i64 1:=by
 match i,h with
 |0,h=>cases h
 |1,h=>cases h;exact ⟨rfl,rfl⟩
 |2,h=>cases h
 |3,h=>cases h
 |4,h=>cases h
 |5,h=>cases h
 |i+6,h=>cases h
theorem gone32 {i:Nat} (h:w32S1.heap[i]? =some .gone):False:=by
 match i,h with
 |0,h=>cases h
 |1,h=>cases h
 |2,h=>cases h
 |3,h=>cases h
 |4,h=>cases h
 |5,h=>cases h
 |i+6,h=>cases h
theorem piece_at {C:ByteArray} {N o n:Nat} {c:Int} {l:List Int} (hC:C.data.toList.length=N*17):piece (encB C::(o:Int)::(n:Int)::l)=((lstE C N).drop o).take n:=by
 have:piece (encB C::(o:Int)::(n:Int)::l)=((decL (encB C)).drop (o:Int).toNat).take (n:Int).toNat:=rfl
 rw [this,decL_of hC]
 simp only [Int.toNat_natCast]
theorem upto_le (l:List E3) (c:Int):(upto l c).length≤l.length:=List.length_filter_le _ _
set_option maxHeartbeats 1000000 in
theorem c32:SymFOk Try.prog wTab (fun _=>True) sf32:=
 symF_of_stageM Try.func32 rfl (n:=45) rfl (by decide) (by decide) rfl rfl (by kernel_rfl) (fun g w hg _ hE hI hpc hH=>by
  obtain ⟨N,hN,hC⟩:=lst_ok (i:=1) hH rfl
  have hp:=pc203 (a:=6) (b:=7) hg rfl hC (hpc _ (by simp [sf32]))
  generalize hCC:g.sig.sval 0=C at hC hp
  obtain ⟨hScr,o,n,ho,hn,hon⟩:=hp
  have hN1:(N:Int)<9223372036854775808:=by
   have:=hI 1 .i64 (by decide) rfl
   rw [wr_i64,hN] at this;omega
  generalize hcc:g.sig.ival 9=c
  generalize hL0:Lv.mk (g.sig.ival 2) (g.sig.ival 3) (g.sig.ival 4) (g.sig.ival 5)=L0
  have z0:g.sig.ival 2=L0.v0:=by rw [←hL0]
  have z1:g.sig.ival 3=L0.v1:=by rw [←hL0]
  have z2:g.sig.ival 4=L0.v2:=by rw [←hL0]
  have z3:g.sig.ival 5=L0.came:=by rw [←hL0]
  have hpc:=piece_at (c:=c) (o:=o) (n:=n) (l:=[c,g.sig.ival 2,g.sig.ival 3,g.sig.ival 4,g.sig.ival 5]) hC
  have hpd:=piece_at (c:=c) (o:=o) (n:=n) (l:=[c]) hC
  generalize hU:upto (((lstE C N).drop o).take n) c=U
  have hUl:U.length≤n:=by
   rw [←hU]
   exact Nat.le_trans (upto_le _ c) (List.length_take_le n _)
  have hnx:nxL [encB C,o,n,c,g.sig.ival 2,g.sig.ival 3,g.sig.ival 4,g.sig.ival 5]=U.foldl Lv.take L0:=by
   have:nxL [encB C,o,n,c,g.sig.ival 2,g.sig.ival 3,g.sig.ival 4,g.sig.ival 5]=(upto (piece [encB C,o,n,c,g.sig.ival 2,g.sig.ival 3,g.sig.ival 4,g.sig.ival 5]) c).foldl Lv.take ⟨g.sig.ival 2,g.sig.ival 3,g.sig.ival 4,g.sig.ival 5⟩:=rfl
   rw [this,hpc,hU,hL0]
  have r10:g.sig.ival 10=IntKind.u8.wrap (U.foldl Lv.take L0).v0:=by
   have h:g.sig.ival 10=IntKind.u8.wrap (g.sig.tab 240 [encB (g.sig.sval 0),g.sig.ival 6,g.sig.ival 7,g.sig.ival 9,g.sig.ival 2,g.sig.ival 3,g.sig.ival 4,g.sig.ival 5]):=eqFn (hE.at 1 _ rfl rfl)
   rw [hg,hCC,ho,hn,hcc] at h
   rw [h,←hnx];rfl
  have r11:g.sig.ival 11=IntKind.u8.wrap (U.foldl Lv.take L0).v1:=by
   have h:g.sig.ival 11=IntKind.u8.wrap (g.sig.tab 241 [encB (g.sig.sval 0),g.sig.ival 6,g.sig.ival 7,g.sig.ival 9,g.sig.ival 2,g.sig.ival 3,g.sig.ival 4,g.sig.ival 5]):=eqFn (hE.at 2 _ rfl rfl)
   rw [hg,hCC,ho,hn,hcc] at h
   rw [h,←hnx];rfl
  have r12:g.sig.ival 12=IntKind.u8.wrap (U.foldl Lv.take L0).v2:=by
   have h:g.sig.ival 12=IntKind.u8.wrap (g.sig.tab 242 [encB (g.sig.sval 0),g.sig.ival 6,g.sig.ival 7,g.sig.ival 9,g.sig.ival 2,g.sig.ival 3,g.sig.ival 4,g.sig.ival 5]):=eqFn (hE.at 3 _ rfl rfl)
   rw [hg,hCC,ho,hn,hcc] at h
   rw [h,←hnx];rfl
  have r13:g.sig.ival 13=IntKind.i64.wrap (U.foldl Lv.take L0).came:=by
   have h:g.sig.ival 13=IntKind.i64.wrap (g.sig.tab 243 [encB (g.sig.sval 0),g.sig.ival 6,g.sig.ival 7,g.sig.ival 9,g.sig.ival 2,g.sig.ival 3,g.sig.ival 4,g.sig.ival 5]):=eqFn (hE.at 4 _ rfl rfl)
   rw [hg,hCC,ho,hn,hcc] at h
   rw [h,←hnx];rfl
  have r14:g.sig.ival 14=U.length:=by
   have h:g.sig.ival 14=IntKind.i64.wrap (g.sig.tab 244 [encB (g.sig.sval 0),g.sig.ival 6,g.sig.ival 7,g.sig.ival 9]):=eqFn (hE.at 5 _ rfl rfl)
   rw [hg,hCC,ho,hn,hcc] at h
   have e:wTab 244 [encB C,(o:Int),(n:Int),c]=((upto (piece [encB C,(o:Int),(n:Int),c]) c).length:Int):=rfl
   rw [h,e,hpd,hU,wr_i64]
   omega
  have r15:g.sig.ival 15=(o:Int)+U.length:=by
   have h:g.sig.ival 15=IntKind.i64.wrap (g.sig.ival 6+g.sig.ival 14):=eqI (hE.at 6 _ rfl rfl) rfl
   rw [h,wr_i64];omega
  have r16:g.sig.ival 16=(n:Int)-U.length:=by
   have h:g.sig.ival 16=IntKind.i64.wrap (g.sig.ival 7-g.sig.ival 14):=eqI (hE.at 7 _ rfl rfl) rfl
   rw [h,wr_i64];omega
  have r17:g.sig.bval 17=(g.sig.ival 13==g.sig.ival 9):=eqB (hE.at 8 _ rfl rfl) rfl
  have r18:g.sig.ival 18=(bif g.sig.bval 17 then g.sig.ival 11 else 0):=eqIteI (hE.at 9 _ rfl rfl) rfl rfl rfl
  rw [show flatC (bodyOf Try.f32)=(flatC (bodyOf Try.f32)).take 5++(.block 0 (.rangeFunc (.tmp 22) (rngPs (flatC (bodyOf Try.f32))) (rngAsg (flatC (bodyOf Try.f32))) (rngBody (flatC (bodyOf Try.f32))))::(flatC (bodyOf Try.f32)).drop 6) from rfl]
  have hlast:StageM Try.prog wTab 45 (fraOf g w 2) (bodyPostM (FR none) 0 Try.prog Try.f32 (MemR wTab sf32 g w)) ((flatC (bodyOf Try.f32)).drop 6) w32S1 11 w32K1 (K32 C N o n c L0 g.sig.ext U):=by
   refine StageM.last (X:=wq32CX) (Wt:=wq32CW) mixed wq32C_lt wq32C_ok (fun F=>no_hooks rfl F) rfl (by kernel_rfl) rfl rfl rfl (fun _=>trivial) (by kernel_rfl) wq32C_reck ⟨rfl,rfl⟩ (fun σ τ ag h=>h.agree ag) (fun τ e ht hi hj=> ?_) (pin0 (by kernel_rfl))
   refine segsPw_segs ?_
   have b11:τ.bval 11=(τ.ival 5==τ.ival 8):=eqB (e.at 0 _ rfl rfl) rfl
   have i12:τ.ival 12=(bif τ.bval 11 then τ.ival 3 else 0):=eqIteI (e.at 1 _ rfl rfl) rfl rfl rfl
   have w0:=hi 2 .u8 (by decide) rfl
   have w1:=hi 3 .u8 (by decide) rfl
   have w2:=hi 4 .u8 (by decide) rfl
   have w3:=hi 5 .i64 (by decide) rfl
   rw [hj.v0] at w0
   rw [hj.v1] at w1
   rw [hj.v2] at w2
   rw [hj.vc] at w3
   rw [w0] at r10
   rw [w1] at r11
   rw [w2] at r12
   rw [w3] at r13
   have q17:τ.bval 11=g.sig.bval 17:=by rw [r17,b11,hj.vc,hj.cy,r13,hcc]
   refine endZ_memM (M:=19) (l:=L32) (vs:=[.agg [.symi .u8 10,.symi .u8 12,.symb 17,.symi .u8 18]]) (by kernel_rfl) rfl rfl hH hg rfl rfl rfl (by kernel_rfl) (by kernel_rfl) (den32 ?_ ?_ ?_ ?_ ?_ ?_ ?_ ?_ ?_ (hj.s.trans hCC.symm) (hj.nn.trans hN.symm)) (by decide) (extS hj.x) (.inl rfl)
   ·show τ.ival 2=_;rw [r10,hj.v0]
   ·show τ.ival 3=_;rw [r11,hj.v1]
   ·show τ.ival 4=_;rw [r12,hj.v2]
   ·show τ.ival 5=_;rw [r13,hj.vc]
   ·show τ.ival 9=_;rw [r15,hj.off]
   ·show τ.ival 10=_;rw [r16,hj.len]
   ·show τ.ival 8=_;rw [hcc,hj.cy]
   ·show τ.bval 11=_;exact q17
   ·show τ.ival 12=_;rw [i12,r18,q17,hj.v1,r11]
  have hmid:Stage Try.prog wTab 45 (fraOf g w 2) (bodyPostM (FR none) 0 Try.prog Try.f32 (MemR wTab sf32 g w)) (.block 0 (.rangeFunc (.tmp 22) (rngPs (flatC (bodyOf Try.f32))) (rngAsg (flatC (bodyOf Try.f32))) (rngBody (flatC (bodyOf Try.f32))))::(flatC (bodyOf Try.f32)).drop 6) w32S1 11 w32K1 (K32 C N o n c L0 g.sig.ext []):=by
   refine Stage.block ?_
   refine Stage.rangeUp (ι:=Unit) (Sh:=fun _=>w32S1) (X:=wq32RX) (Wt:=fun _=>wq32RW) (Jr:=fun _=>K32 C N o n c L0 g.sig.ext) (i1:=4) (i2:=5) (il:=1) (T1:=61) (T2:=3) (e:=0) (ap:=false) (offA:=.symi .i64 6) (nA:=.symi .i64 7) (cA:=.symi .i64 8) (sA:=.syms 0) (NA:=.symi .i64 1) (c:=c) (C:=C) (o:=o) (len:=n) (N:=N) (tm:=tmOf w32S1 45) ()
    up.up_ok enter94 rfl (by kernel_rfl) rfl (fun _=>rfl) (fun _=>rfl) (fun _=>wq32R_rd) (by omega) (by omega) (fun σ h hi=>⟨congrArg (AVal.int .i64) h.i6,congrArg (AVal.int .i64) h.i7,h⟩)
    (fun _ pre σ h=>⟨congrArg (AVal.int .i64) h.cy,congrArg AVal.str h.s,congrArg (AVal.int .i64) h.nn⟩) ?_ ?_ ?_ ?_ ?_
   ·intro _ pre σ h hN0 τ ag i s n cl e hi hz
    obtain ⟨rfl,rfl⟩:=lst32 hi
    have h1:=h.nn
    rw [(ag.val 1 (by decide)).1] at h1
    simp only [den,AVal.int.injEq,true_and] at hz
    omega
   ·intro _ pre σ h i s n cl e hi hh
    obtain ⟨rfl,rfl⟩:=lst32 hh
    exact absurd hi (by decide)
   ·intro _ i hh
    exact gone32 hh
   ·intro _ j σ hj hle h hi ht
    have hlen:=uptoE_len (fun j=>rowE C (o+j)) c j
    generalize uptoE (fun j=>rowE C (o+j)) c j=pre at h hlen⊢
    have hx:rowE C (o+j)∈lstE C N:=List.mem_of_getElem? (lstE_get (by omega))
    have hxk:=hScr.1 _ hx
    generalize hxx:rowE C (o+j)=x at hxk⊢
    have hi3:=ins3 (q:=11) (C:=C) (j:=o+j) (ins:=w32K1) rfl hi
    rw [hxx] at hi3
    have ag1:=agree_solve wq32RX.G wq32RX.m (ext3 σ 11 x)
    have e:Eqs (solve wq32RX.G wq32RX.m (ext3 σ 11 x)) 14 wq32RG:=eqs_solve wq32R_ok
    have hi2:InsOk (solve wq32RX.G wq32RX.m (ext3 σ 11 x)) 14 (w32K1++[some .i64,some .i64,some .u8]):=by
     intro i k hlt hik
     rw [←(ag1.val i hlt).1]
     exact hi3 i k hlt hik
    have ht2:(solve wq32RX.G wq32RX.m (ext3 σ 11 x)).tab=wTab:=by rw [←ag1.tab];exact ht
    have x11:(solve wq32RX.G wq32RX.m (ext3 σ 11 x)).ival 11=x.t:=(ag1.val 11 (by decide)).1.symm
    have x12:(solve wq32RX.G wq32RX.m (ext3 σ 11 x)).ival 12=x.k:=(ag1.val 12 (by decide)).1.symm
    have x13:(solve wq32RX.G wq32RX.m (ext3 σ 11 x)).ival 13=x.v:=(ag1.val 13 (by decide)).1.symm
    have hk:K32 C N o n c L0 g.sig.ext pre (solve wq32RX.G wq32RX.m (ext3 σ 11 x)):=by
     refine K32.agree (σ:=σ) ?_ h
     exact ⟨fun i hi=>by
      obtain ⟨a1,a2,a3⟩:=(ext3_agree σ 11 x).val i hi
      obtain ⟨b1,b2,b3⟩:=ag1.val i (show i<14 by omega)
      exact ⟨a1.trans b1,a2.trans b2,a3.trans b3⟩,ag1.tab,ag1.ext⟩
    clear ag1
    generalize solve wq32RX.G wq32RX.m (ext3 σ 11 x)=τ at*
    refine segsPw_segs ?_
    have b14:τ.bval 14=decide ((1:Int)≤τ.ival 10):=eqB (e.at 0 _ rfl rfl) rfl
    have i15:τ.ival 15=IntKind.i64.wrap (τ.ival 9+1):=eqI (e.at 1 _ rfl rfl) rfl
    have b16:τ.bval 16=decide ((0:Int)≤τ.ival 15):=eqB (e.at 2 _ rfl rfl) rfl
    have i17:τ.ival 17=IntKind.i64.wrap (τ.ival 10-1):=eqI (e.at 3 _ rfl rfl) rfl
    have b18:τ.bval 18=decide (τ.ival 10≤τ.ival 10):=eqB (e.at 4 _ rfl rfl) rfl
    have hoff:=hk.off
    have hlen2:=hk.len
    rw [wr_i64] at i15 i17
    have hm:(((pre++[x]).length:Nat):Int)=pre.length+1:=by rw [List.length_append,List.length_singleton];omega
    have h15:τ.ival 15=(o:Int)+((pre++[x]).length:Nat):=by omega
    have h17:τ.ival 17=(n:Int)-((pre++[x]).length:Nat):=by omega
    have d14: ¬(τ.bval 14=false):=by rw [b14,decide_eq_false_iff_not];omega
    have d16: ¬(τ.bval 16=false):=by rw [b16,decide_eq_false_iff_not];omega
    have d18: ¬(τ.bval 18=false):=by rw [b18,decide_eq_false_iff_not];omega
    obtain ⟨y1,y2,y3,y4⟩:=hxk
    refine ⟨fun k0=>⟨fun _=>⟨fun _=>⟨fun _=> ?_,fun f=>absurd f d18⟩,fun f=>absurd f d16⟩,fun f=>absurd f d14⟩,fun k0=>⟨fun k1=>⟨fun _=>⟨fun _=>⟨fun _=> ?_,fun f=>absurd f d18⟩,fun f=>absurd f d16⟩,fun f=>absurd f d14⟩,fun k1=>⟨fun k2=>⟨fun _=>⟨fun _=>⟨fun _=> ?_,fun f=>absurd f d18⟩,fun f=>absurd f d16⟩,fun f=>absurd f d14⟩,fun k2=> ?_⟩⟩⟩
    ·rw [x12] at k0
     exact ⟨rfl,(),rfl,insOk_kt (X:=wq32RX) e hi2 (by kernel_rfl) (by kernel_rfl),hk.step (by rw [tk0,k0,x13];rfl) (by rw [tk1,k0,hk.v1];rfl) (by rw [tk2,k0,hk.v2];rfl) (by rw [tkc,k0,hk.vc];rfl) h15 h17,tabS ht2⟩
    ·rw [x12] at k1
     exact ⟨rfl,(),rfl,insOk_kt (X:=wq32RX) e hi2 (by kernel_rfl) (by kernel_rfl),hk.step (by rw [tk0,k1,hk.v0];rfl) (by rw [tk1,k1,x13];rfl) (by rw [tk2,k1,hk.v2];rfl) (by rw [tkc,k1,x11];rfl) h15 h17,tabS ht2⟩
    ·rw [x12] at k2
     exact ⟨rfl,(),rfl,insOk_kt (X:=wq32RX) e hi2 (by kernel_rfl) (by kernel_rfl),hk.step (by rw [tk0,k2,hk.v0];rfl) (by rw [tk1,k2,hk.v1];rfl) (by rw [tk2,k2,x13];rfl) (by rw [tkc,k2,hk.vc];rfl) h15 h17,tabS ht2⟩
    ·exfalso
     rw [x12] at k0 k1 k2
     omega
   ·intro _ a w g' D h1 h2 h3 h4 h5 h6 h7 h8
    have e1:uptoE (fun j=>rowE C (o+j)) c n=U:=by rw [uptoE_eq C o c (N:=N) (by omega),hU]
    rw [e1] at h7
    exact hlast a w g' D h1 h2 h3 h4 h5 h6 h7 h8
  have:=Stage.seg mixed wq32A_seg ⟨rfl,rfl⟩ (fun σ τ (ag:Agree 9 σ τ) (h:Agree 9 g.sig σ)=>h.trans' ag) (fun τ h=>rows_nil) hmid (fun τ e ht hi ag=>by
   refine segsPw_segs ?_
   have a0:τ.sval 0=C:=by rw [←(ag.val 0 (by decide)).2.2];exact hCC
   have a1:τ.ival 1=N:=by rw [←(ag.val 1 (by decide)).1];exact hN
   have a2:τ.ival 2=L0.v0:=by rw [←(ag.val 2 (by decide)).1];exact z0
   have a3:τ.ival 3=L0.v1:=by rw [←(ag.val 3 (by decide)).1];exact z1
   have a4:τ.ival 4=L0.v2:=by rw [←(ag.val 4 (by decide)).1];exact z2
   have a5:τ.ival 5=L0.came:=by rw [←(ag.val 5 (by decide)).1];exact z3
   have a6:τ.ival 6=o:=by rw [←(ag.val 6 (by decide)).1];exact ho
   have a7:τ.ival 7=n:=by rw [←(ag.val 7 (by decide)).1];exact hn
   have a8:τ.ival 8=g.sig.ival 8:=(ag.val 8 (by decide)).1.symm
   have a9:τ.ival 9=c:=by
    have h:τ.ival 9=IntKind.i64.wrap (τ.ival 8+1):=eqI (e.at 0 _ rfl rfl) rfl
    have k:g.sig.ival 9=IntKind.i64.wrap (g.sig.ival 8+1):=eqI (hE.at 0 _ rfl rfl) rfl
    rw [h,a8,←k,hcc]
   exact .inl ⟨rfl,rfl,insOk_kt (X:=wq32AX) e hi (by kernel_rfl) (by kernel_rfl),K32.zero a0 a1 a6 a7 a9 ag.ext.symm a2 a3 a4 a5,tabS ht⟩) (pin0 (by kernel_rfl))
  exact this)
end Go.Proofs.Ytapfkgenachpgaa.wc
