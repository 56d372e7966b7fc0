/-
 Contracts of the world's functions: over lists of inputs.
 No conditions.
-/
import Derived.Test.YtapfkgenachpgaaWg
import Derived.WalkKit
set_option maxRecDepth 100000
namespace Go.Proofs.Ytapfkgenachpgaa.wc
open Go.Ev Go.RowKit Go.Wpl Go.Wt
set_option linter.unusedVariables false
set_option linter.unusedSimpArgs false
def wq24AG:List SDef:=[]
def wq24AT:LT:=.e
def wq24AW:Sw:=.run (.leaf .normal w24S1 [(1000000,0)] [(2,.int .i64 0),(3,.int .i64 1),(0,.int .i64 0),(4,.str ⟨#[]⟩),(2,.int .i64 0)] [(1,.symi .i64 0)])
def wq24AKd:KdT:=.n (.n .e none .e) (some .i64) .e
def wq24AX:Ing:={m:=2,ins:=[some .i64,none],G:=wq24AG,T:=wq24AT,tab:=wTab,lsts:=wL,kb:=2,kt:=wq24AKd,rows:=[⟨.symi .i64 0,[]⟩]}
theorem wq24A_lt:okLT 2 wq24AG wq24AT=true:=by kernel_rfl
theorem wq24A_ok:okG wq24AG 2=true:=by kernel_rfl
theorem wq24A_seg:SegOk Try.prog wTab 64 ((flatC (bodyOf Try.f24)).take 4) w24S0 wq24AX wq24AW where
 lt:=wq24A_lt
 ok:=wq24A_ok
 hook:=fun F=>no_hooks rfl F
 n0:=rfl
 id:=by kernel_rfl
 reck:=by kernel_rfl
 tab:=rfl
 cuts:=rfl
 kt:=by kernel_rfl
def wq24BG:List SDef:=[.bin .lss (.symi .i64 0) (.symi .i64 1),
 .bin .lss (.symi .i64 0) (.int .i64 100),
 .bin .leq (.int .i64 0) (.symi .i64 0),
 .bin .rem (.symi .u8 5) (.int .u8 20),
 .conv .i64 (.symi .u8 11),
 .bin .add (.symi .i64 3) (.symi .i64 12),
 .bin .rem (.symi .u8 6) (.int .u8 3),
 .conv .i64 (.symi .u8 14),
 .bin .gtr (.symi .i64 2) (.int .i64 0),
 .bin .sub (.symi .i64 2) (.int .i64 1),
 .bin .leq (.int .i64 0) (.symi .i64 17),
 .bin .lss (.symi .i64 17) (.symi .i64 2),
 .sop (.cell [.some .i64,.some .i64,.some .u8] 0) [.syms 4,.symi .i64 17],
 .sop (.cell [.some .i64,.some .i64,.some .u8] 1) [.syms 4,.symi .i64 17],
 .sop (.cell [.some .i64,.some .i64,.some .u8] 2) [.syms 4,.symi .i64 17],
 .bin .lss (.symi .i64 20) (.symi .i64 13),
 .bin .eql (.symi .i64 20) (.symi .i64 13),
 .bin .lss (.symi .i64 21) (.symi .i64 15),
 .ite (.symb 24) (.symb 25) (.bool false),
 .ite (.symb 23) (.bool true) (.symb 26),
 .un .not (.symb 27),
 .bin .add (.symi .i64 13) (.int .i64 1),
 .sop (.row [.some .i64,.some .i64,.some .u8]) [.symi .i64 29,.symi .i64 15,.symi .u8 7],
 .sop .cat [.syms 4,.syms 30],
 .bin .add (.symi .i64 2) (.int .i64 1),
 .bin .leq (.int .i64 0) (.symi .i64 32),
 .bin .leq (.symi .i64 32) (.int .i64 5864062014805),
 .sop (.row [.some .i64,.some .i64,.some .u8]) [.symi .i64 13,.symi .i64 15,.symi .u8 7],
 .sop .cat [.syms 4,.syms 35],
 .bin .add (.symi .i64 0) (.int .i64 1)]
def wq24BT:LT:=.n (.n (.n (.n (.n (.e) 30227 10 (.bin .leq (.int .i64 0) (.symi .i64 0)) (.e)) 60352 37 (.bin .add (.symi .i64 0) (.int .i64 1)) (.n (.e) 5013908 9 (.bin .lss (.symi .i64 0) (.int .i64 100)) (.e))) 41182020 24 (.bin .eql (.symi .i64 20) (.symi .i64 13)) (.n (.n (.e) 41182034 23 (.bin .lss (.symi .i64 20) (.symi .i64 13)) (.e)) 59261904 12 (.conv .i64 (.symi .u8 11)) (.n (.e) 104018666 30 (.sop (.row [.some .i64,.some .i64,.some .u8]) [.symi .i64 29,.symi .i64 15,.symi .u8 7]) (.e)))) 128306868 13 (.bin .add (.symi .i64 3) (.symi .i64 12)) (.n (.n (.n (.e) 202011028 16 (.bin .gtr (.symi .i64 2) (.int .i64 0)) (.e)) 202060958 32 (.bin .add (.symi .i64 2) (.int .i64 1)) (.n (.e) 202060965 17 (.bin .sub (.symi .i64 2) (.int .i64 1)) (.e))) 239322464 29 (.bin .add (.symi .i64 13) (.int .i64 1)) (.n (.n (.e) 249926453 33 (.bin .leq (.int .i64 0) (.symi .i64 32)) (.e)) 256259075 19 (.bin .lss (.symi .i64 17) (.symi .i64 2)) (.n (.e) 291425617 31 (.sop .cat [.syms 4,.syms 30]) (.e))))) 343384000 8 (.bin .lss (.symi .i64 0) (.symi .i64 1)) (.n (.n (.n (.n (.e) 368262831 15 (.conv .i64 (.symi .u8 14)) (.e)) 407579514 36 (.sop .cat [.syms 4,.syms 35]) (.n (.e) 468331918 18 (.bin .leq (.int .i64 0) (.symi .i64 17)) (.e))) 506012560 11 (.bin .rem (.symi .u8 5) (.int .u8 20)) (.n (.n (.e) 579607063 28 (.un .not (.symb 27)) (.e)) 606162268 14 (.bin .rem (.symi .u8 6) (.int .u8 3)) (.n (.e) 618786695 26 (.ite (.symb 24) (.symb 25) (.bool false)) (.e)))) 622660281 34 (.bin .leq (.symi .i64 32) (.int .i64 5864062014805)) (.n (.n (.n (.e) 630636864 20 (.sop (.cell [.some .i64,.some .i64,.some .u8] 0) [.syms 4,.symi .i64 17]) (.e)) 630636866 21 (.sop (.cell [.some .i64,.some .i64,.some .u8] 1) [.syms 4,.symi .i64 17]) (.n (.e) 630636868 22 (.sop (.cell [.some .i64,.some .i64,.some .u8] 2) [.syms 4,.symi .i64 17]) (.e))) 653236131 35 (.sop (.row [.some .i64,.some .i64,.some .u8]) [.symi .i64 13,.symi .i64 15,.symi .u8 7]) (.n (.n (.e) 680788125 27 (.ite (.symb 23) (.bool true) (.symb 26)) (.e)) 828889493 25 (.bin .lss (.symi .i64 21) (.symi .i64 15)) (.e))))
def wq24BW:Sw:=.node 10 (.run (.node 8 (.node 9 (.node 16 (.node 18 (.node 19 (.node 28 (.node 33 (.node 34 (.leaf .normal w24S1 [(3,0)] [(2,.symi .i64 32),(3,.symi .i64 29),(0,.symi .i64 37),(4,.syms 31),(2,.symi .i64 32)] [(1,.symi .i64 1)]) (.dead)) (.dead)) (.node 33 (.node 34 (.leaf .normal w24S1 [(3,0)] [(2,.symi .i64 32),(3,.symi .i64 13),(0,.symi .i64 37),(4,.syms 36),(2,.symi .i64 32)] [(1,.symi .i64 1)]) (.dead)) (.dead))) (.dead)) (.dead)) (.node 33 (.node 34 (.leaf .normal w24S1 [(3,0)] [(2,.symi .i64 32),(3,.symi .i64 13),(0,.symi .i64 37),(4,.syms 36),(2,.symi .i64 32)] [(1,.symi .i64 1)]) (.dead)) (.dead))) (.leaf (.exit 0) w24Se [(0,0)] [(3,.symi .i64 2),(2,.syms 4),(3,.symi .i64 2)] [])) (.leaf (.exit 0) w24Se [(0,0)] [(3,.symi .i64 2),(2,.syms 4),(3,.symi .i64 2)] []))) (.dead)
def wq24BKd:KdT:=.n (.n (.n (.n (.n (.n .e none .e) (some .i64) .e) (some .u8) (.n .e none .e)) (some .i64) (.n (.n (.n .e none .e) none .e) (some .u8) (.n .e none .e))) (some .i64) (.n (.n (.n (.n .e none .e) (some .i64) .e) none (.n .e none .e)) (some .u8) (.n (.n (.n .e (some .i64) .e) (some .i64) .e) (some .i64) (.n .e (some .i64) .e)))) (some .i64) (.n (.n (.n (.n (.n .e (some .i64) .e) none .e) none (.n .e none .e)) none (.n (.n (.n .e none .e) (some .i64) .e) (some .i64) (.n .e none .e))) (some .i64) (.n (.n (.n (.n .e none .e) none .e) none (.n .e none .e)) (some .u8) (.n (.n .e (some .u8) .e) (some .u8) (.n .e none .e))))
def wq24BX:Ing:={m:=8,ins:=(w24K1++[some .u8,some .u8,some .u8]),G:=wq24BG,T:=wq24BT,tab:=wTab,lsts:=wL,kb:=38,kt:=wq24BKd,rows:=[⟨.symi .i64 1,[(.symi .i64 0,elCells 5 [.i .u8,.i .u8,.i .u8])]⟩]}
theorem wq24B_lt:okLT 8 wq24BG wq24BT=true:=by kernel_rfl
theorem wq24B_ok:okG wq24BG 8=true:=by kernel_rfl
theorem wq24B_seg:SegOk Try.prog wTab 64 ([loopOf (bodyOf Try.f24)]) w24S1 wq24BX wq24BW where
 lt:=wq24B_lt
 ok:=wq24B_ok
 hook:=fun F=>no_hooks rfl F
 n0:=rfl
 id:=by kernel_rfl
 reck:=by kernel_rfl
 tab:=rfl
 cuts:=rfl
 kt:=by kernel_rfl
def wq24CG:List SDef:=[]
def wq24CT:LT:=.e
def wq24CW:Sw:=.run (.leaf .ret w24Sr [(0,0)] [(3,.symi .i64 3),(2,.syms 2),(3,.symi .i64 3)] [])
def wq24CKd:KdT:=.n (.n (.n .e (some .i64) .e) none .e) none (.n .e none .e)
def wq24CX:Ing:={m:=4,ins:=[none,none,none,some .i64],G:=wq24CG,T:=wq24CT,tab:=wTab,lsts:=wL,kb:=4,kt:=wq24CKd}
theorem wq24C_lt:okLT 4 wq24CG wq24CT=true:=by kernel_rfl
theorem wq24C_ok:okG wq24CG 4=true:=by kernel_rfl
theorem wq24C_seg:SegOk Try.prog wTab 64 ((flatC (bodyOf Try.f24)).drop 5) w24Se wq24CX wq24CW where
 lt:=wq24C_lt
 ok:=wq24C_ok
 hook:=fun F=>no_hooks rfl F
 n0:=rfl
 id:=by kernel_rfl
 reck:=by kernel_rfl
 tab:=rfl
 cuts:=rfl
 kt:=by kernel_rfl
def d3:List Cl:=[.i .u8,.i .u8,.i .u8]
structure Inv24 (E:Nat→Option Fz) (X:Fz) (a b:Nat) (σ:Sig):Prop where
 ext:σ.ext=E
 len:σ.ival a=X.len
 str:StrX σ (.syms b) c3 X
structure J24 (X:Fz) (C:ByteArray) (i:Nat) (σ:Sig):Prop where
 i0:σ.ival 0=i
 hi:i≤100
 s:σ.sval 4=Wt.encL (scrN C i).1
 n:σ.ival 2=i
 a:σ.ival 3=(scrN C i).2
theorem J24.agree {X:Fz} {C:ByteArray} {i:Nat} {σ τ:Sig} (ag:Agree 5 σ τ) (h:J24 X C i σ):J24 X C i τ:=
 ⟨by rw [←(ag.val 0 (by decide)).1];exact h.i0,h.hi,by rw [←(ag.val 4 (by decide)).2.2];exact h.s,by rw [←(ag.val 2 (by decide)).1];exact h.n,by rw [←(ag.val 3 (by decide)).1];exact h.a⟩
def L24:Asg:=[(3,.symi .i64 3),(2,.syms 2),(3,.symi .i64 3)]
theorem den24 {σ τ:Sig} (h3:σ.ival 3=τ.ival 3) (h2:σ.sval 2=τ.sval 2):DenEq σ τ L24:=⟨congrArg (AVal.int .i64) h3,congrArg AVal.str h2,congrArg (AVal.int .i64) h3,trivial⟩
theorem go24 {E:Nat→Option Fz} {X:Fz} {C:ByteArray} {i a b:Nat} {τ:Sig} (hr:RowE E X τ) (hi:i<X.len) (h100:i+1≤100) (h32:τ.ival 32=((i+1:Nat):Int)) (h37:τ.ival 37=((i+1:Nat):Int)) (ha:τ.ival a=(scrN C (i+1)).2) (hb:τ.sval b=Wt.encL (scrN C (i+1)).1):
  RowE E X (asgS τ ([(2,.symi .i64 32),(3,.symi .i64 a),(0,.symi .i64 37),(4,.syms b),(2,.symi .i64 32)]++[(1,.symi .i64 1)]))∧J24 X C (i+1) (asgS τ ([(2,.symi .i64 32),(3,.symi .i64 a),(0,.symi .i64 37),(4,.syms b),(2,.symi .i64 32)]++[(1,.symi .i64 1)])):=by
 have h0:(asgS τ ([(2,.symi .i64 32),(3,.symi .i64 a),(0,.symi .i64 37),(4,.syms b),(2,.symi .i64 32)]++[(1,.symi .i64 1)])).ival 0=((i+1:Nat):Int):=h37
 exact ⟨⟨extS hr.ext,hr.len,by rw [h0];omega,by rw [h0];omega⟩,⟨h0,h100,hb,h32,ha⟩⟩
theorem scr1_none {a:Int} {d:Dr}:scr1 [] a d=⟨a+d.f%20,d.k%3,d.v⟩:=rfl
theorem scr1_some {s:List E3} {a:Int} {d:Dr} {y:E3} (h:s.getLast? =some y):scr1 s a d=if Wpl.ahead y ⟨a+d.f%20,d.k%3,d.v⟩ then ⟨a+d.f%20,d.k%3,d.v⟩ else ⟨a+d.f%20+1,d.k%3,d.v⟩:=by
 unfold scr1;simp only [h]
theorem script_min {N:Nat} {C:ByteArray} {i:Nat} (h:i=min N 100):script (N:Int) C=(scrN C i).1:=by
 subst h;unfold script;simp
theorem last_of {s:List E3} (h: ∀x,x∈s→okV x) {n:Nat} (hn:s.length=n) (h0:0<n):s.getLast? =some (rowE (Wt.encL s) (n-1)):=by
 have h1:=lstE_enc h
 have h2:(lstE (Wt.encL s) s.length)[n-1]? =some (rowE (Wt.encL s) (n-1)):=lstE_get (by omega)
 rw [h1] at h2
 rw [List.getLast?_eq_getElem?,hn]
 exact h2
set_option maxHeartbeats 1000000 in
theorem rows_lenE {X:Fz} {σ:Sig} {k:Nat} {E:Nat→Option Fz} (he:σ.ext=E) (hE0: ∀Y,E 0=some Y→Y=X) (hk:σ.ival k=X.len):RowsOk σ [⟨.symi .i64 k,[]⟩]:=by
 intro i r Y hr hY
 have hr0:i=0:=by
  cases i with
  |zero=>rfl
  |succ i=>simp at hr
 subst hr0
 rw [he] at hY
 have:=hE0 Y hY
 subst this
 simp only [List.getElem?_cons_zero,Option.some.injEq] at hr
 subst hr
 exact ⟨by show AVal.int .i64 _=_;rw [hk],fun p hp=>by cases hp⟩
theorem c24 {E:Nat→Option Fz} {WX:World} {vX:Value} {X:Fz} (hX:RowV WX d3 vX X) (hE0: ∀Y,E 0=some Y→Y=X):SymFOk Try.prog wTab (Inv24 E X 0 1) sf24:=
 symF_of_stage Try.func24 rfl (n:=64) rfl (by decide) (by decide) rfl rfl (by kernel_rfl) (fun g w hg hv hE hI hpc hH=>by
  obtain ⟨hvx,hvl,hz,S,hS,hSl,hSv⟩:=hv
  have hC:g.sig.sval 1=S:=AVal.str.inj hS
  have sOk:=fun i (h:i≤100)=>scrN_ok S i h
  have r2:g.sig.sval 2=Wt.encL (script (X.len:Int) S):=by
   have h:g.sig.sval 2=decS (g.sig.tab 230 [g.sig.ival 0,encB (g.sig.sval 1)]):=eqFs (hE.at 0 _ rfl rfl)
   have e:wTab 230 [(X.len:Int),encB S]=encB (Wt.encL (script (X.len:Int) (decS (encB S)))):=rfl
   rw [h,hg,hvl,hC,e,decS_enc,decS_enc]
  have r3:g.sig.ival 3=(script (X.len:Int) S).length:=by
   have h:g.sig.ival 3=IntKind.i64.wrap (g.sig.tab 231 [g.sig.ival 0,encB (g.sig.sval 1)]):=eqFn (hE.at 1 _ rfl rfl)
   have e:wTab 231 [(X.len:Int),encB S]=((script (X.len:Int) (decS (encB S))).length:Int):=rfl
   have hl:(script (X.len:Int) S).length≤100:=by
    rw [script_min rfl,scrN_len];omega
   rw [h,hg,hvl,hC,e,decS_enc,wr_i64]
   omega
  rw [show flatC (bodyOf Try.f24)=(flatC (bodyOf Try.f24)).take 4++(.block (idOf (bodyOf Try.f24)) (.loop (loopOf (bodyOf Try.f24)))::(flatC (bodyOf Try.f24)).drop 5) from rfl]
  have hlast:Stage Try.prog wTab 64 (fraOf g w 0) (bodyPost Try.prog Try.f24 (MemR wTab sf24 g w)) ((flatC (bodyOf Try.f24)).drop 5) w24Se 4 [none,none,none,some .i64] (fun σ=>σ.ival 3=(script (X.len:Int) S).length∧σ.sval 2=Wt.encL (script (X.len:Int) S)∧σ.ext=E):=by
   refine Stage.last mixed wq24C_seg ⟨rfl,rfl⟩ (fun σ τ ag h=>⟨by rw [←(ag.val 3 (by decide)).1];exact h.1,by rw [←(ag.val 2 (by decide)).2.2];exact h.2.1,by rw [←ag.ext];exact h.2.2⟩) (fun τ h=>rows_nil) (fun τ e ht hi hj=> ?_) (pin0 (by kernel_rfl))
   refine segsPw_segs ?_
   exact endZ_mem (M:=4) (l:=L24) (vs:=[.lsl 0 3 true (.int .i64 0) (.symi .i64 3)]) (by kernel_rfl) rfl rfl hH hg rfl rfl rfl (by kernel_rfl) (by kernel_rfl) (den24 (hj.1.trans r3.symm) (hj.2.1.trans r2.symm)) (by decide) (extS (hj.2.2.trans hvx.symm)) (.inl rfl)
  have hbody: ∀k (_:Unit),Stage Try.prog wTab 64 (fraOf g w 0) (LoopZ Try.prog (idOf (bodyOf Try.f24)) ((flatC (bodyOf Try.f24)).drop 5) (bodyPost Try.prog Try.f24 (MemR wTab sf24 g w)) (InvF wTab 64 (fraOf g w 0) (fun _:Unit=>w24S1) 5 w24K1 (fun _ σ=>RowE E X σ∧ ∃i,J24 X S i σ) (fun σ=>((X.len:Int)-σ.ival 0).toNat)) k) [loopOf (bodyOf Try.f24)] w24S1 (5+d3.length) (w24K1++d3.map kindC) (fun τ=>RowEEl 5 d3 E X τ∧(∃i,J24 X S i τ)∧((X.len:Int)-τ.ival 0).toNat=k):=by
   intro k _
   refine Stage.last mixed wq24B_seg ⟨rfl,rfl⟩ (fun σ τ ag h=>⟨h.1.agree ag,(let ⟨i,hi⟩:=h.2.1;⟨i,hi.agree (ag.less (by decide))⟩),by rw [←(ag.val 0 (by decide)).1];exact h.2.2⟩) (fun τ h=>h.1.rows hX hE0 (by decide)) (fun τ e ht hi hj=> ?_) (pin0 (by kernel_rfl))
   obtain ⟨hrow,⟨i,hj⟩,hk⟩:=hj
   have hr:=hrow.hd (by decide)
   refine segsPw_segs ?_
   have b8:τ.bval 8=decide (τ.ival 0<τ.ival 1):=eqB (e.at 0 _ rfl rfl) rfl
   have b9:τ.bval 9=decide (τ.ival 0<100):=eqB (e.at 1 _ rfl rfl) rfl
   have b10:τ.bval 10=decide ((0:Int)≤τ.ival 0):=eqB (e.at 2 _ rfl rfl) rfl
   have hi0:=hj.i0
   have hin:=hj.n
   have hia:=hj.a
   have hlen:=hr.len
   have hXl:=hX.len
   have so:=sOk i hj.hi
   have sl:=scrN_len S i
   have outs: ¬(i<X.len∧i<100)→EndZ wTab 64 (fraOf g w 0) (LoopZ Try.prog (idOf (bodyOf Try.f24)) ((flatC (bodyOf Try.f24)).drop 5) (bodyPost Try.prog Try.f24 (MemR wTab sf24 g w)) (InvF wTab 64 (fraOf g w 0) (fun _:Unit=>w24S1) 5 w24K1 (fun _ σ=>RowE E X σ∧ ∃i,J24 X S i σ) (fun σ=>((X.len:Int)-σ.ival 0).toNat)) k) (.exit 0) w24Se (asgS τ ([(3,.symi .i64 2),(2,.syms 4),(3,.symi .i64 2)]++[])):=by
    intro h
    have hh:=hr.hi
    have hm:i=min X.len 100:=by have:=hj.hi;omega
    refine EndZ.out (by simp) (EndZ.blk hlast (.inr rfl) (insOk_kt (X:=wq24BX) e hi (by kernel_rfl) (by kernel_rfl)) ⟨?_,?_,extS hr.ext⟩ (tabS ht))
    ·show τ.ival 2=_
     rw [script_min hm,sl,hin]
    ·show τ.sval 4=_
     rw [script_min hm,hj.s]
   refine ⟨fun f10=>⟨fun f8=>⟨fun f9=> ?_,fun f9=>outs ?_⟩,fun f8=>outs ?_⟩,fun f10=> ?_⟩
   ·rw [b8,decide_eq_true_eq] at f8
    rw [b9,decide_eq_true_eq] at f9
    have hiX:i<X.len:=by omega
    have h100:i+1≤100:=by omega
    have el: ∀j,j<3→τ.ival (5+j)=iOf (rowAtD cl3u S i j):=by
     intro j hj3
     obtain ⟨σ,ag,hh⟩:=hrow
     have t0:τ.ival 0=σ.ival 0:=by rw [←(ag.val 0 (by decide)).1];simp [elSig]
     rw [←(ag.val (5+j) (by simp [d3];omega)).1]
     have hm:(σ.ival 0).toNat=i:=by omega
     simp only [elSig,hm,hiX,if_true,Nat.add_sub_cancel_left]
     rw [if_neg (by omega),hSv i j hiX (by rw [←hz];exact hj3)]
     rfl
    have v5:τ.ival 5=(rowD S i).f:=el 0 (by omega)
    have v6:τ.ival 6=(rowD S i).k:=el 1 (by omega)
    have v7:τ.ival 7=(rowD S i).v:=el 2 (by omega)
    obtain ⟨⟨d1,d2⟩,⟨d3',d4⟩,d5,d6⟩:=rowD_b S i
    have lo:=so.lo
    have hia2:=so.hi
    have i11:τ.ival 11=(rowD S i).f%20:=by
     have h:τ.ival 11=(τ.ival 5).tmod 20:=eqI (e.at 3 _ rfl rfl) rfl
     rw [h,v5,Int.tmod_eq_emod_of_nonneg d1]
    have i12:τ.ival 12=(rowD S i).f%20:=by
     have h:τ.ival 12=IntKind.i64.wrap (τ.ival 11):=eqI (e.at 4 _ rfl rfl) rfl
     rw [wr_i64] at h;omega
    have i13:τ.ival 13=(scrN S i).2+(rowD S i).f%20:=by
     have h:τ.ival 13=IntKind.i64.wrap (τ.ival 3+τ.ival 12):=eqI (e.at 5 _ rfl rfl) rfl
     rw [wr_i64] at h;omega
    have i15:τ.ival 15=(rowD S i).k%3:=by
     have h:τ.ival 14=(τ.ival 6).tmod 3:=eqI (e.at 6 _ rfl rfl) rfl
     have h2:τ.ival 15=IntKind.i64.wrap (τ.ival 14):=eqI (e.at 7 _ rfl rfl) rfl
     rw [v6,Int.tmod_eq_emod_of_nonneg d3'] at h
     rw [wr_i64] at h2;omega
    have b16:τ.bval 16=decide (τ.ival 2>0):=eqB (e.at 8 _ rfl rfl) rfl
    have i17:τ.ival 17=IntKind.i64.wrap (τ.ival 2-1):=eqI (e.at 9 _ rfl rfl) rfl
    have b18:τ.bval 18=decide ((0:Int)≤τ.ival 17):=eqB (e.at 10 _ rfl rfl) rfl
    have b19:τ.bval 19=decide (τ.ival 17<τ.ival 2):=eqB (e.at 11 _ rfl rfl) rfl
    have b23:τ.bval 23=decide (τ.ival 20<τ.ival 13):=eqB (e.at 15 _ rfl rfl) rfl
    have b24:τ.bval 24=(τ.ival 20==τ.ival 13):=eqB (e.at 16 _ rfl rfl) rfl
    have b25:τ.bval 25=decide (τ.ival 21<τ.ival 15):=eqB (e.at 17 _ rfl rfl) rfl
    have b26:τ.bval 26=(bif τ.bval 24 then τ.bval 25 else false):=eqIteB (e.at 18 _ rfl rfl) rfl rfl rfl
    have b27:τ.bval 27=(bif τ.bval 23 then true else τ.bval 26):=eqIteB (e.at 19 _ rfl rfl) rfl rfl rfl
    have b28:τ.bval 28= !(τ.bval 27):=eqB (e.at 20 _ rfl rfl) rfl
    have i29:τ.ival 29=IntKind.i64.wrap (τ.ival 13+1):=eqI (e.at 21 _ rfl rfl) rfl
    have i32:τ.ival 32=IntKind.i64.wrap (τ.ival 2+1):=eqI (e.at 24 _ rfl rfl) rfl
    have b33:τ.bval 33=decide ((0:Int)≤τ.ival 32):=eqB (e.at 25 _ rfl rfl) rfl
    have b34:τ.bval 34=decide (τ.ival 32≤5864062014805):=eqB (e.at 26 _ rfl rfl) rfl
    have i37:τ.ival 37=IntKind.i64.wrap (τ.ival 0+1):=eqI (e.at 29 _ rfl rfl) rfl
    rw [wr_i64] at i17 i29 i32 i37
    have h32:τ.ival 32=((i+1:Nat):Int):=by omega
    have h37:τ.ival 37=((i+1:Nat):Int):=by omega
    have d33: ¬(τ.bval 33=false):=by rw [b33,decide_eq_false_iff_not];omega
    have d34: ¬(τ.bval 34=false):=by rw [b34,decide_eq_false_iff_not];omega
    have hsn:scrN S (i+1)=((scrN S i).1++[scr1 (scrN S i).1 (scrN S i).2 (rowD S i)],(scr1 (scrN S i).1 (scrN S i).2 (rowD S i)).t):=rfl
    have plain:scr1 (scrN S i).1 (scrN S i).2 (rowD S i)=⟨(scrN S i).2+(rowD S i).f%20,(rowD S i).k%3,(rowD S i).v⟩→τ.ival 13=(scrN S (i+1)).2∧τ.sval 36=Wt.encL (scrN S (i+1)).1:=by
     intro h
     have s35:τ.sval 35=encX ⟨(scrN S i).2+(rowD S i).f%20,(rowD S i).k%3,(rowD S i).v⟩:=(eqRow (e.at 27 _ rfl rfl)).trans (encX_row i13 i15 v7)
     have s36:τ.sval 36=τ.sval 4++τ.sval 35:=eqCat (e.at 28 _ rfl rfl) rfl rfl
     rw [hsn]
     refine ⟨by rw [h];exact i13,?_⟩
     show τ.sval 36=Wt.encL ((scrN S i).1++[scr1 (scrN S i).1 (scrN S i).2 (rowD S i)])
     rw [h,Wt.encL_snoc,s36,s35,hj.s]
    have later:scr1 (scrN S i).1 (scrN S i).2 (rowD S i)=⟨(scrN S i).2+(rowD S i).f%20+1,(rowD S i).k%3,(rowD S i).v⟩→τ.ival 29=(scrN S (i+1)).2∧τ.sval 31=Wt.encL (scrN S (i+1)).1:=by
     intro h
     have q29:τ.ival 29=(scrN S i).2+(rowD S i).f%20+1:=by omega
     have s30:τ.sval 30=encX ⟨(scrN S i).2+(rowD S i).f%20+1,(rowD S i).k%3,(rowD S i).v⟩:=(eqRow (e.at 22 _ rfl rfl)).trans (encX_row q29 i15 v7)
     have s31:τ.sval 31=τ.sval 4++τ.sval 30:=eqCat (e.at 23 _ rfl rfl) rfl rfl
     rw [hsn]
     refine ⟨by rw [h];exact q29,?_⟩
     show τ.sval 31=Wt.encL ((scrN S i).1++[scr1 (scrN S i).1 (scrN S i).2 (rowD S i)])
     rw [h,Wt.encL_snoc,s31,s30,hj.s]
    have fin: ∀a b,τ.ival a=(scrN S (i+1)).2∧τ.sval b=Wt.encL (scrN S (i+1)).1→insAsg (kdX wq24BX) ([(2,.symi .i64 32),(3,.symi .i64 a),(0,.symi .i64 37),(4,.syms b),(2,.symi .i64 32)]++[(1,.symi .i64 1)]) w24K1 0=true→EndZ wTab 64 (fraOf g w 0) (LoopZ Try.prog (idOf (bodyOf Try.f24)) ((flatC (bodyOf Try.f24)).drop 5) (bodyPost Try.prog Try.f24 (MemR wTab sf24 g w)) (InvF wTab 64 (fraOf g w 0) (fun _:Unit=>w24S1) 5 w24K1 (fun _ σ=>RowE E X σ∧ ∃i,J24 X S i σ) (fun σ=>((X.len:Int)-σ.ival 0).toNat)) k) .normal w24S1 (asgS τ ([(2,.symi .i64 32),(3,.symi .i64 a),(0,.symi .i64 37),(4,.syms b),(2,.symi .i64 32)]++[(1,.symi .i64 1)])):=by
     intro a b h hins
     obtain ⟨g1,g2⟩:=go24 (a:=a) (b:=b) hr hiX h100 h32 h37 h.1 h.2
     refine EndZ.loopF () rfl (insOk_kt (X:=wq24BX) e hi (by kernel_rfl) hins) ⟨g1,i+1,g2⟩ (tabS ht) ?_
     have h0:=g2.i0
     rw [←hk,h0]
     omega
    refine ⟨fun f16=>⟨fun f18=>⟨fun f19=> ?_,fun f19=> ?_⟩,fun f18=> ?_⟩,fun f16=>⟨fun _=>⟨fun _=> ?_,fun f=>absurd f d34⟩,fun f=>absurd f d33⟩⟩
    ·rw [b16,decide_eq_true_eq] at f16
     have hi1:0<i:=by omega
     have k17:τ.ival 17=((i-1:Nat):Int):=by omega
     have hlast':=last_of (scr_okV so) sl hi1
     rw [←hj.s] at hlast'
     generalize hy:rowE (τ.sval 4) (i-1)=y at hlast'
     have c20:=eqCell (m:=i-1) (e.at 12 _ rfl rfl) (show den τ (.symi .i64 17)=_ by rw [←k17];rfl)
     have c21:=eqCell (m:=i-1) (e.at 13 _ rfl rfl) (show den τ (.symi .i64 17)=_ by rw [←k17];rfl)
     have v20:τ.ival 20=y.t:=by rw [←hy];simp only [rowE,c20,iOf];rfl
     have v21:τ.ival 21=y.k:=by rw [←hy];simp only [rowE,c21,iOf];rfl
     have hs1:=scr1_some (a:=(scrN S i).2) (d:=rowD S i) hlast'
     have ha:τ.bval 28= !(Wpl.ahead y ⟨(scrN S i).2+(rowD S i).f%20,(rowD S i).k%3,(rowD S i).v⟩):=by
      have hh:τ.bval 27=true↔Wpl.ahead y ⟨(scrN S i).2+(rowD S i).f%20,(rowD S i).k%3,(rowD S i).v⟩=true:=by
       rw [ahead_iff,b27,b26,b23,b24,b25,v20,v21,i13,i15]
       by_cases g1:y.t<(scrN S i).2+(rowD S i).f%20
       ·simp [g1]
       ·by_cases g2:y.t=(scrN S i).2+(rowD S i).f%20
        ·simp [g2]
        ·simp [g1,g2]
      rw [b28,Bool.eq_iff_iff.2 hh]
     refine ⟨fun f28=>⟨fun _=>⟨fun _=> ?_,fun f=>absurd f d34⟩,fun f=>absurd f d33⟩,fun f28=>⟨fun _=>⟨fun _=> ?_,fun f=>absurd f d34⟩,fun f=>absurd f d33⟩⟩
     ·refine fin 29 31 (later ?_) (by kernel_rfl)
      rw [ha] at f28
      have:Wpl.ahead y ⟨(scrN S i).2+(rowD S i).f%20,(rowD S i).k%3,(rowD S i).v⟩=false:=by simpa using f28
      rw [hs1,this];rfl
     ·refine fin 13 36 (plain ?_) (by kernel_rfl)
      rw [ha] at f28
      have:Wpl.ahead y ⟨(scrN S i).2+(rowD S i).f%20,(rowD S i).k%3,(rowD S i).v⟩=true:=by simpa using f28
      rw [hs1,this];rfl
    ·rw [b16,decide_eq_true_eq] at f16
     rw [b19,decide_eq_false_iff_not] at f19
     exfalso;omega
    ·rw [b16,decide_eq_true_eq] at f16
     rw [b18,decide_eq_false_iff_not] at f18
     exfalso;omega
    ·rw [b16,decide_eq_false_iff_not] at f16
     have hi1:i=0:=by omega
     refine fin 13 36 (plain ?_) (by kernel_rfl)
     subst hi1
     exact scr1_none
   ·rw [b9,decide_eq_false_iff_not] at f9;omega
   ·rw [b8,decide_eq_false_iff_not] at f8;omega
   ·rw [b10,decide_eq_false_iff_not] at f10
    exfalso;omega
  refine Stage.seg (q2:=5) (ins2:=w24K1) (S2:=w24S1) (J2:=fun σ=>RowE E X σ∧ ∃i,J24 X S i σ) mixed wq24A_seg ⟨rfl,rfl⟩ (fun σ τ (ag:Agree 2 σ τ) (h:Agree 2 g.sig σ)=>h.trans' ag) (fun τ h=>rows_lenE (k:=0) (X:=X) (by rw [←h.ext];exact hvx) hE0 (by rw [←(h.val 0 (by decide)).1];exact hvl))
   (Stage.rowLoopF (J:=fun _ σ=> ∃i,J24 X S i σ) (q:=5) (insq:=w24K1) hX rfl (by decide) (fun _=>by kernel_rfl) (fun _ σ τ ag h=>let ⟨i,hi⟩:=h;⟨i,hi.agree ag⟩) hbody ()) (fun τ e ht hi ag=> ?_) (pin0 (by kernel_rfl))
  refine segsPw_segs ?_
  have a0:τ.ival 0=X.len:=by rw [←(ag.val 0 (by decide)).1];exact hvl
  exact .inl ⟨rfl,rfl,insOk_kt (X:=wq24AX) e hi (by kernel_rfl) (by kernel_rfl),⟨⟨extS (by rw [←ag.ext];exact hvx),a0,Int.le_refl 0,Int.natCast_nonneg _⟩,0,rfl,by decide,rfl,rfl,rfl⟩,tabS ht⟩)
end Go.Proofs.Ytapfkgenachpgaa.wc
