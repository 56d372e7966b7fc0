/-
 LogBack's stages.
 No conditions.
-/
import Derived.Test.YtelimhjceiamcaaDoorBLgy
import Derived.Test.YtelimhjceiamcaaDoorBLg32
import Derived.Test.YtelimhjceiamcaaDoorBLg8r
import Derived.Test.YtelimhjceiamcaaDoorBLg10
import Derived.Test.YtelimhjceiamcaaDoorBLg18
import Derived.Test.YtelimhjceiamcaaDoorBFal
import Derived.Test.YtelimhjceiamcaaDoorBEv8
import Derived.Test.YtelimhjceiamcaaDoorBEv9
set_option maxRecDepth 100000
namespace Go.Proofs.YtelimhjceiamcaaDoor.lg
open Go.Ev Go.RowKit Go.Wbp Go.Lgp
open Go.Proofs.YtelimhjceiamcaaDoor.lgn (mixed sf48 Qda)
set_option linter.unusedVariables false
set_option linter.unusedSimpArgs false
open Go.Proofs.YtelimhjceiamcaaDoor.fa
def lgK5:List (Option IntKind):=[none,some .i64,some .u16,some .u16,some .u8,some .u8,none]
def lgS5:Shape:=⟨argT 0 [.row 0,.agg lgD,.syms 0],[]⟩
def hL (s n:Nat):Blk:=.lst (.syms s) (.symi .i64 n) cl4 61
def hC (b n:Nat):AVal:=.lsl b 4 true (.int .i64 0) (.symi .i64 n)
def Qpy:Shape:=⟨[(2,.syms 0),(4,.ptr 0 0),(7,.ptr 2 0)],[.cells lgD 33,hL 1 6,.cells [.symi .u32 7,hC 1 6,.symi .i64 8,.symi .u64 9,.symi .u64 10,.symi .i64 11] 26]⟩
def Qpt:List (Option IntKind):=[none,none,some .u16,some .u16,some .u8,some .u8,some .i64,some .u32,some .i64,some .u64,some .u64,some .i64]
def Quv:Shape:=⟨[(2,.syms 0),(4,.ptr 0 0),(8,.syms 1)],[.cells lgD 33]⟩
def Q2s:List (Option IntKind):=[none,none,some .u16,some .u16,some .u8,some .u8]
def Quw:Shape:=⟨[(2,.syms 0),(8,.syms 1),(12,.symi .i64 2)],[]⟩
def Quq:List (Option IntKind):=[none,none,some .i64]
def Qux:Shape:=⟨[(2,.syms 0),(8,.syms 1)],[]⟩
def Ql8:List (Option IntKind):=[none,none]
def Quy:Shape:=⟨[(103,.agg [.syms 0,.syms 1]),(104,.int .i64 0)],[]⟩
def lgE5:Shape:=⟨[(6,.bool true)],[]⟩
def Ql2:List SDef:=[.bin .leq (.int .i64 0) (.symi .i64 6),
 .bin .leq (.symi .i64 6) (.symi .i64 6),
 .bin .leq (.symi .i64 6) (.int .i64 1000000),
 .bin .leq (.symi .i64 6) (.int .i64 1000),
 .fnb 448 [.symi .u32 7,.syms 1,.symi .i64 6,.symi .i64 8,.symi .u64 9,.symi .u64 10,.symi .i64 11],
 .sop (.fs 512) [.symi .u32 7,.syms 1,.symi .i64 6,.symi .i64 8,.symi .u64 9,.symi .u64 10,.symi .i64 11],
 .sop .len [.syms 17],
 .bin .leq (.symi .i64 18) (.int .i64 1000000),
 .fnb 576 [.syms 17],
 .sop (.fs 578) [.syms 17],
 .fn 579 .i64 [.syms 17],
 .fn 580 .u32 [.syms 17],
 .fn 581 .i64 [.syms 17],
 .fn 582 .u64 [.syms 17],
 .fn 583 .u64 [.syms 17],
 .fn 584 .i64 [.syms 17],
 .bin .leq (.int .i64 0) (.symi .i64 22),
 .bin .leq (.symi .i64 22) (.symi .i64 22),
 .bin .leq (.symi .i64 22) (.int .i64 1000000),
 .sop (.fs 704) [.syms 21,.symi .i64 22],
 .sop (.fs 704) [.syms 1,.symi .i64 6],
 .bin .eql (.symi .i64 22) (.symi .i64 6),
 .bin .eql (.symi .u32 23) (.symi .u32 7),
 .bin .eql (.symi .i64 24) (.symi .i64 8),
 .bin .eql (.symi .u64 25) (.symi .u64 9),
 .bin .eql (.symi .u64 26) (.symi .u64 10),
 .bin .eql (.symi .i64 27) (.symi .i64 11),
 .bin .eql (.syms 31) (.syms 32)]
def Qul:LT:=Go.Wbp.fT 12 Ql2 (.n (.n (.n (.n (.n .e 37616154 28 .e) 61476985 38 (.n .e 79629191 22 .e)) 79629234 23 (.n (.n .e 79629277 24 .e) 79629320 25 (.n .e 79629363 26 .e))) 79629406 27 (.n (.n (.n .e 91468315 32 .e) 112139368 29 (.n .e 170785480 39 .e)) 175146364 14 (.n (.n .e 181638860 20 .e) 246511050 36 .e))) 313408173 19 (.n (.n (.n (.n .e 364494231 31 .e) 430647528 16 (.n .e 431545115 34 .e)) 518670061 13 (.n (.n .e 656047233 15 .e) 690864931 37 .e)) 691628475 18 (.n (.n (.n .e 692206481 21 .e) 717409385 30 (.n .e 846771764 17 .e)) 875898996 35 (.n (.n .e 986409868 12 .e) 1060933061 33 .e))))
def Qbdj:Sw:=.node 12 (.node 13 (.node 14 (.node 15 (.node 16 (.node 19 (.node 20 (.node 28 (.node 29 (.node 30 (.node 33 (.node 34 (.node 35 (.node 36 (.node 37 (.node 38 (.node 39 (.run (.leaf .normal Quv [(0,0)] [(0,.syms 0),(1,.syms 17),(2,.symi .u16 2),(3,.symi .u16 3),(4,.symi .u8 4),(5,.symi .u8 5)] [])) (.dead)) (.dead)) (.dead)) (.dead)) (.dead)) (.dead)) (.dead)) (.dead)) (.dead)) (.dead)) (.dead)) (.dead)) (.dead)) (.dead)) (.dead)) (.dead)) (.dead)
def Q2a:KdT:=.n (.n (.n (.n (.n (.n .e none .e) none .e) (some .u32) (.n (.n .e none .e) (some .u32) .e)) (some .u16) (.n (.n (.n .e none .e) none .e) (some .i64) (.n .e (some .i64) .e))) none (.n (.n (.n (.n .e none .e) none .e) (some .u64) (.n .e (some .u64) .e)) (some .u8) (.n (.n (.n .e none .e) none .e) none (.n .e none .e)))) none (.n (.n (.n (.n (.n .e none .e) none .e) (some .i64) (.n .e (some .i64) .e)) (some .u8) (.n (.n (.n .e none .e) none .e) none (.n .e none .e))) (some .u16) (.n (.n (.n (.n .e none .e) none .e) (some .u64) (.n .e (some .u64) .e)) (some .i64) (.n (.n (.n .e none .e) (some .i64) .e) none (.n .e none .e))))
noncomputable def Q2b:Ing:={m:=12,ins:=Qpt,G:=Ql2,T:=Qul,tab:=Qa,lsts:=Qt,kb:=40,kt:=Q2a}
noncomputable def Qg1:Ing:={m:=12,ins:=Qpt,G:=Ql2,T:=Qul,tab:=Qa,lsts:=Qt,kb:=40,kt:=Q2a,mh:=Qbo (kdX Q2b) [sf15,sf32,sf17,sf10,sf18]}
theorem Q2c:okLT 12 Ql2 Qul=true:=by kernel_rfl
theorem Qbdl:okG Ql2 12=true:=by kernel_rfl
theorem Qbdk (F:List Fact):Hooks Tryd.prog (cxOf Qg1 F) where
 val:=fun f args v h=>by simp only [Qg1,cxOf,Qc8,reduceCtorEq] at h
 mem:=fun f args hp v hp' h=>by
  replace h:(Qbo (kdX Q2b) [sf15,sf32,sf17,sf10,sf18]) (symS (Qq Qg1 F)) f args hp=some (v,hp'):=h
  exact Qf4 (X:=Qg1) (tbl:=[sf15,sf32,sf17,sf10,sf18]) (inv:=fun _=>True) (fun e he=>by
   simp only [List.mem_cons,List.not_mem_nil,or_false] at he
   rcases he with rfl|rfl|rfl|rfl|rfl
   ·exact c15
   ·exact c32
   ·exact c17
   ·exact c10
   ·exact c18
   ) Q2c rfl (fun _ _ _ _=>trivial) F f args hp v hp' h
 ovl:=fun f k h=>by simp only [Qg1,cxOf,reduceCtorEq] at h
 atm:=fun k b h=>by simp only [Qg1,cxOf,List.not_mem_nil] at h
theorem Qbdm:SegOk Tryd.prog Qa 132 (((Qe (Qc Tryd.f5)).drop 4).take 4) Qpy Qg1 Qbdj where
 lt:=Q2c
 ok:=Qbdl
 hook:=Qbdk
 n0:=rfl
 id:=by kernel_rfl
 reck:=by kernel_rfl
 tab:=rfl
 cuts:=rfl
 kt:=by kernel_rfl
def Qpk:List SDef:=[.sop .len [.syms 1],
 .conv .i64 (.symi .u16 3),
 .bin .rem (.symi .i64 7) (.symi .i64 6)]
def Q2d:LT:=Go.Wbp.fT 6 Qpk (.n (.n .e 167013265 6 .e) 309001259 7 (.n .e 619670294 8 .e))
def Qbdo:Sw:=.pick 6 0 (.dead) (.run (.leaf .normal Quw [] [(0,.syms 0),(1,.syms 1),(2,.symi .i64 8)] []))
def Qbdn:KdT:=.n (.n (.n (.n .e (some .i64) .e) (some .u16) .e) none (.n .e (some .u8) .e)) none (.n (.n (.n .e none .e) (some .u8) .e) (some .u16) (.n .e none .e))
noncomputable def Qbdp:Ing:={m:=6,ins:=Q2s,G:=Qpk,T:=Q2d,tab:=Qa,lsts:=Qt,kb:=9,kt:=Qbdn}
theorem Qbdq:okLT 6 Qpk Q2d=true:=by kernel_rfl
theorem Qbdr:okG Qpk 6=true:=by kernel_rfl
theorem Qbds:SegOk Tryd.prog Qa 132 (((Qe (Qc Tryd.f5)).drop 8).take 1) Quv Qbdp Qbdo where
 lt:=Qbdq
 ok:=Qbdr
 hook:=fun F=>Qcb rfl F
 n0:=rfl
 id:=by kernel_rfl
 reck:=by kernel_rfl
 tab:=rfl
 cuts:=rfl
 kt:=by kernel_rfl
def Ql3:List SDef:=[.sop .len [.syms 1],
 .bin .leq (.int .i64 0) (.symi .i64 2),
 .bin .leq (.symi .i64 2) (.symi .i64 3),
 .sop .sub [.syms 1,.int .i64 0,.symi .i64 2],
 .sop .len [.syms 6],
 .bin .leq (.symi .i64 7) (.int .i64 1000000),
 .fnb 585 [.syms 6],
 .sop .cat [.syms 1,.str ⟨#[120]⟩],
 .sop .len [.syms 10],
 .bin .leq (.symi .i64 11) (.int .i64 1000000),
 .fnb 585 [.syms 10],
 .fn 577 .i64 [.syms 6],
 .bin .leq (.symi .i64 11) (.int .i64 9223372036854775807),
 .fn 577 .i64 [.syms 10],
 .all [(.symi .i64 16,.symi .i64 3)]]
def Qum:LT:=Go.Wbp.fT 3 Ql3 (.n (.n (.n (.n .e 40824406 15 .e) 98626474 6 (.n .e 158349942 5 .e)) 167013265 3 (.n (.n .e 167266941 10 .e) 236337003 16 (.n .e 276146667 8 .e))) 296345681 13 (.n (.n (.n .e 392415724 17 .e) 596327049 11 (.n .e 680147879 12 .e)) 686737383 4 (.n (.n .e 786059442 14 .e) 822067232 9 (.n .e 1002044160 7 .e))))
def Qbdt:Sw:=.node 4 (.node 5 (.node 8 (.node 9 (.node 12 (.node 13 (.node 15 (.node 17 (.run (.leaf .normal Qux [] [(0,.syms 0),(1,.syms 1)] [])) (.dead)) (.dead)) (.dead)) (.dead)) (.dead)) (.dead)) (.dead)) (.dead)
def Q2e:KdT:=.n (.n (.n (.n (.n .e none .e) none .e) none (.n .e none .e)) none (.n (.n (.n .e none .e) none .e) none (.n .e none .e))) none (.n (.n (.n (.n .e (some .i64) .e) none .e) none (.n .e none .e)) (some .i64) (.n (.n .e none .e) none (.n .e (some .i64) .e)))
noncomputable def Q2f:Ing:={m:=3,ins:=Quq,G:=Ql3,T:=Qum,tab:=Qa,lsts:=Qt,kb:=18,kt:=Q2e}
noncomputable def Qe1:Ing:={m:=3,ins:=Quq,G:=Ql3,T:=Qum,tab:=Qa,lsts:=Qt,kb:=18,kt:=Q2e,mh:=asMh Tryd.prog 35 78 88 36 34,ph:=Qbo (kdX Q2f) [Qei],inv:=Qdv 0 Qdf}
theorem Qun:okLT 3 Ql3 Qum=true:=by kernel_rfl
theorem Qbdv:okG Ql3 3=true:=by kernel_rfl
theorem Qbdu (F:List Fact):Hooks Tryd.prog (cxOf Qe1 F) where
 val:=fun f args v h=>by simp only [Qe1,cxOf,Qc8,reduceCtorEq] at h
 mem:=fun f args hp v hp' h=>by
  replace h:asMh Tryd.prog 35 78 88 36 34 (symS (Qq Qe1 F)) f args hp=some (v,hp'):=h
  exact Qxt (X:=Qe1) Qun as_ok is_ok (fun _ h=>h) F f args hp v hp' h
 pan:=fun f args hp v hp' h=>by
  replace h:(Qbo (kdX Q2f) [Qei]) (symS (Qq Qe1 F)) f args hp=some (v,hp'):=h
  exact Q4p (X:=Qe1) (tbl:=[Qei]) (inv:=fun _=>True) (fun e he=>by
   simp only [List.mem_cons,List.not_mem_nil,or_false] at he
   rcases he with rfl
   exact c32p) Qun rfl (fun _ _ _ _=>trivial) F f args hp v hp' h
 ovl:=fun f k h=>by simp only [Qe1,cxOf,reduceCtorEq] at h
 atm:=fun k b h=>by simp only [Qe1,cxOf,List.not_mem_nil] at h
theorem Qbdw:SegOkI Tryd.prog Qa 132 (((Qe (Qc Tryd.f5)).drop 9).take 4) Quw Qe1 Qbdt where
 lt:=Qun
 ok:=Qbdv
 hook:=Qbdu
 n0:=rfl
 id:=by kernel_rfl
 reck:=by kernel_rfl
 tab:=rfl
 cuts:=rfl
 kt:=by kernel_rfl
def Qpl:List SDef:=[.sop .len [.syms 0],
 .low [.symi .i64 2,.int .i64 300],
 .bin .leq (.int .i64 0) (.symi .i64 3),
 .bin .leq (.symi .i64 3) (.symi .i64 2),
 .sop .sub [.syms 0,.int .i64 0,.symi .i64 3],
 .sop .len [.syms 1],
 .low [.symi .i64 7,.int .i64 7],
 .bin .leq (.int .i64 0) (.symi .i64 8),
 .bin .leq (.symi .i64 8) (.symi .i64 7),
 .sop .sub [.syms 1,.int .i64 0,.symi .i64 8],
 .sop .cat [.syms 11,.syms 6],
 .sop .len [.syms 12],
 .bin .leq (.symi .i64 13) (.int .i64 9223372036854775807)]
def Q2g:LT:=Go.Wbp.fT 2 Qpl (.n (.n (.n (.n .e 7086 2 .e) 167013265 7 (.n .e 219082636 3 .e)) 242825012 14 (.n (.n .e 431569533 6 .e) 599375197 9 .e)) 688181799 12 (.n (.n (.n .e 749224836 8 .e) 930339407 13 (.n .e 950838248 11 .e)) 989738494 5 (.n (.n .e 1030090961 4 .e) 1064024245 10 .e)))
def Qbdy:Sw:=.node 4 (.node 5 (.node 9 (.node 10 (.node 14 (.run (.leaf .normal Quy [] [(0,.syms 6),(1,.syms 12)] [])) (.dead)) (.dead)) (.dead)) (.dead)) (.dead)
def Qbdx:KdT:=.n (.n (.n (.n .e none .e) none (.n .e none .e)) none (.n (.n .e none .e) none (.n .e none .e))) none (.n (.n (.n .e none .e) none (.n .e none .e)) none (.n (.n .e none .e) none (.n .e none .e)))
noncomputable def Q2h:Ing:={m:=2,ins:=Ql8,G:=Qpl,T:=Q2g,tab:=Qa,lsts:=Qt,kb:=15,kt:=Qbdx}
theorem Qbdz:okLT 2 Qpl Q2g=true:=by kernel_rfl
theorem Qbd0:okG Qpl 2=true:=by kernel_rfl
theorem Qbd1:SegOk Tryd.prog Qa 132 (((Qe (Qc Tryd.f5)).drop 13).take 2) Qux Q2h Qbdy where
 lt:=Qbdz
 ok:=Qbd0
 hook:=fun F=>Qcb rfl F
 n0:=rfl
 id:=by kernel_rfl
 reck:=by kernel_rfl
 tab:=rfl
 cuts:=rfl
 kt:=by kernel_rfl
def Ql4:List SDef:=[.sop .len [.syms 0],
 .bin .leq (.symi .i64 2) (.int .i64 1000000),
 .fnb 576 [.syms 0],
 .fnb 585 [.syms 0],
 .sop (.fs 578) [.syms 0],
 .fn 579 .i64 [.syms 0],
 .fn 580 .u32 [.syms 0],
 .fn 581 .i64 [.syms 0],
 .fn 582 .u64 [.syms 0],
 .fn 583 .u64 [.syms 0],
 .fn 584 .i64 [.syms 0],
 .bin .leq (.int .i64 0) (.symi .i64 7),
 .bin .leq (.symi .i64 7) (.symi .i64 7),
 .bin .leq (.symi .i64 7) (.int .i64 1000000),
 .bin .leq (.symi .i64 7) (.int .i64 1000),
 .fnb 448 [.symi .u32 8,.syms 6,.symi .i64 7,.symi .i64 9,.symi .u64 10,.symi .u64 11,.symi .i64 12],
 .sop .len [.syms 1],
 .bin .leq (.symi .i64 18) (.int .i64 1000000),
 .fnb 576 [.syms 1],
 .fnb 585 [.syms 1],
 .sop (.fs 578) [.syms 1],
 .fn 579 .i64 [.syms 1],
 .fn 580 .u32 [.syms 1],
 .fn 581 .i64 [.syms 1],
 .fn 582 .u64 [.syms 1],
 .fn 583 .u64 [.syms 1],
 .fn 584 .i64 [.syms 1],
 .bin .leq (.int .i64 0) (.symi .i64 23),
 .bin .leq (.symi .i64 23) (.symi .i64 23),
 .bin .leq (.symi .i64 23) (.int .i64 1000000),
 .bin .leq (.symi .i64 23) (.int .i64 1000),
 .fnb 448 [.symi .u32 24,.syms 22,.symi .i64 23,.symi .i64 25,.symi .u64 26,.symi .u64 27,.symi .i64 28],
 .sop (.fs 512) [.symi .u32 8,.syms 6,.symi .i64 7,.symi .i64 9,.symi .u64 10,.symi .u64 11,.symi .i64 12],
 .bin .neq (.syms 34) (.syms 0),
 .fn 577 .i64 [.syms 1],
 .fn 577 .i64 [.syms 0],
 .sop (.fs 512) [.symi .u32 24,.syms 22,.symi .i64 23,.symi .i64 25,.symi .u64 26,.symi .u64 27,.symi .i64 28],
 .bin .neq (.syms 38) (.syms 1)]
def Quo:LT:=Go.Wbp.fT 2 Ql4 (.n (.n (.n (.n (.n (.n .e 7086 2 .e) 30360 37 .e) 30446 7 (.n .e 30489 8 .e)) 30532 9 (.n (.n (.n .e 30575 10 .e) 30618 11 .e) 30661 12 (.n .e 36341 4 .e))) 36818 5 (.n (.n (.n (.n .e 585092 6 .e) 131035207 36 .e) 131035293 23 (.n .e 131035336 24 .e)) 131035379 25 (.n (.n (.n .e 131035422 26 .e) 131035465 27 .e) 131035508 28 (.n .e 137041410 20 .e)))) 137041887 21 (.n (.n (.n (.n (.n .e 167013265 18 .e) 167591271 22 .e) 186781947 33 (.n .e 213012856 35 .e)) 225568730 32 (.n (.n (.n .e 256021619 13 .e) 276146667 15 .e) 313408173 19 (.n .e 380969732 29 .e))) 556493249 30 (.n (.n (.n (.n .e 615278973 17 .e) 757047536 16 .e) 818409688 31 (.n .e 844886979 3 .e)) 891570226 34 (.n (.n .e 960721620 39 .e) 963023942 14 (.n .e 980569198 38 .e)))))
def Qbd2:Sw:=.node 3 (.node 4 (.node 13 (.node 14 (.node 15 (.node 16 (.node 17 (.node 19 (.node 20 (.dead) (.node 21 (.node 35 (.dead) (.run (.leaf .ret lgE5 [] [] []))) (.dead))) (.dead)) (.dead)) (.dead)) (.dead)) (.dead)) (.dead)) (.node 5 (.node 19 (.node 20 (.node 29 (.node 30 (.node 31 (.node 32 (.node 33 (.node 39 (.dead) (.run (.leaf .ret lgE5 [] [] []))) (.dead)) (.dead)) (.dead)) (.dead)) (.dead)) (.node 21 (.run (.leaf .ret lgE5 [] [] [])) (.dead))) (.dead)) (.dead))) (.dead)
def Q2i:KdT:=.n (.n (.n (.n (.n (.n .e none .e) none .e) (some .i64) (.n (.n .e none .e) (some .i64) .e)) none (.n (.n (.n .e none .e) none .e) (some .u64) (.n .e (some .u64) .e))) none (.n (.n (.n (.n .e none .e) none .e) (some .i64) (.n .e (some .i64) .e)) none (.n (.n (.n .e (some .i64) .e) none .e) none (.n .e none .e)))) none (.n (.n (.n (.n (.n .e none .e) none .e) (some .u32) (.n .e (some .u32) .e)) none (.n (.n (.n .e (some .i64) .e) none .e) (some .i64) (.n .e (some .i64) .e))) none (.n (.n (.n (.n .e none .e) none .e) (some .u64) (.n .e (some .u64) .e)) none (.n (.n (.n .e none .e) none .e) none (.n .e none .e))))
noncomputable def Qpm:Ing:={m:=2,ins:=Ql8,G:=Ql4,T:=Quo,tab:=Qa,lsts:=Qt,kb:=40,kt:=Q2i}
noncomputable def Qfy:Ing:={m:=2,ins:=Ql8,G:=Ql4,T:=Quo,tab:=Qa,lsts:=Qt,kb:=40,kt:=Q2i,mh:=Qbo (kdX Qpm) [sf32,sf15],ph:=Qbo (kdX Qpm) [Qei]}
theorem Qup:okLT 2 Ql4 Quo=true:=by kernel_rfl
theorem Qbd4:okG Ql4 2=true:=by kernel_rfl
theorem Qbd3 (F:List Fact):Hooks Tryd.prog (cxOf Qfy F) where
 val:=fun f args v h=>by simp only [Qfy,cxOf,Qc8,reduceCtorEq] at h
 mem:=fun f args hp v hp' h=>by
  replace h:(Qbo (kdX Qpm) [sf32,sf15]) (symS (Qq Qfy F)) f args hp=some (v,hp'):=h
  exact Qf4 (X:=Qfy) (tbl:=[sf32,sf15]) (inv:=fun _=>True) (fun e he=>by
   simp only [List.mem_cons,List.not_mem_nil,or_false] at he
   rcases he with rfl|rfl
   ·exact c32
   ·exact c15
   ) Qup rfl (fun _ _ _ _=>trivial) F f args hp v hp' h
 pan:=fun f args hp v hp' h=>by
  replace h:(Qbo (kdX Qpm) [Qei]) (symS (Qq Qfy F)) f args hp=some (v,hp'):=h
  exact Q4p (X:=Qfy) (tbl:=[Qei]) (inv:=fun _=>True) (fun e he=>by
   simp only [List.mem_cons,List.not_mem_nil,or_false] at he
   rcases he with rfl
   ·exact c32p
   ) Qup rfl (fun _ _ _ _=>trivial) F f args hp v hp' h
 ovl:=fun f k h=>by simp only [Qfy,cxOf,reduceCtorEq] at h
 atm:=fun k b h=>by simp only [Qfy,cxOf,List.not_mem_nil] at h
theorem Qbd5:SegOk Tryd.prog Qa 132 ((Qe (Qc Tryd.f5)).drop 15) Quy Qfy Qbd2 where
 lt:=Qup
 ok:=Qbd4
 hook:=Qbd3
 n0:=rfl
 id:=by kernel_rfl
 reck:=by kernel_rfl
 tab:=rfl
 cuts:=rfl
 kt:=by kernel_rfl
abbrev WZ (W:World):Exit->Act->World->Prop:=bodyPost Tryd.prog Tryd.f5 fun e W'=>e=.returned (.bool true)/\Below W.heap.size W W'
structure J5a (E:Nat->Option Fz) (L:Lg) (σ:Sig):Prop where
 z:(σ.sval 0).size<=9223372036854775807
 s1:σ.sval 1=Lgp.encL L.es
 v6:σ.ival 6=L.es.length
 v7:σ.ival 7=L.img
 v8:σ.ival 8=L.cyc
 v9:σ.ival 9=L.ret
 v10:σ.ival 10=L.br
 v11:σ.ival 11=L.out
 ok:LgOk L
 xe:σ.ext=E
theorem J5a.agree {E:Nat->Option Fz} {L:Lg} {σ τ:Sig} (ag:Agree 12 σ τ) (h:J5a E L σ):J5a E L τ:=
 ⟨by rw [<-(ag.val 0 (by decide)).2.2];exact h.z,by rw [<-(ag.val 1 (by decide)).2.2];exact h.s1,by rw [<-(ag.val 6 (by decide)).1];exact h.v6,by rw [<-(ag.val 7 (by decide)).1];exact h.v7,by rw [<-(ag.val 8 (by decide)).1];exact h.v8,by rw [<-(ag.val 9 (by decide)).1];exact h.v9,by rw [<-(ag.val 10 (by decide)).1];exact h.v10,by rw [<-(ag.val 11 (by decide)).1];exact h.v11,h.ok,by rw [<-ag.ext];exact h.xe⟩
structure J5b (E:Nat->Option Fz) (L:Lg) (σ:Sig):Prop where
 z:(σ.sval 0).size<=9223372036854775807
 s1:σ.sval 1=bs (encG L)
 ok:LgOk L
 xe:σ.ext=E
theorem J5b.agree {E:Nat->Option Fz} {L:Lg} {σ τ:Sig} (ag:Agree 6 σ τ) (h:J5b E L σ):J5b E L τ:=
 ⟨by rw [<-(ag.val 0 (by decide)).2.2];exact h.z,by rw [<-(ag.val 1 (by decide)).2.2];exact h.s1,h.ok,by rw [<-ag.ext];exact h.xe⟩
structure J5c (E:Nat->Option Fz) (L:Lg) (k:Nat) (σ:Sig):Prop where
 z:(σ.sval 0).size<=9223372036854775807
 s1:σ.sval 1=bs (encG L)
 v2:σ.ival 2=k
 hk:k<(encG L).length
 ok:LgOk L
 xe:σ.ext=E
theorem J5c.agree {E:Nat->Option Fz} {L:Lg} {k:Nat} {σ τ:Sig} (ag:Agree 3 σ τ) (h:J5c E L k σ):J5c E L k τ:=
 ⟨by rw [<-(ag.val 0 (by decide)).2.2];exact h.z,by rw [<-(ag.val 1 (by decide)).2.2];exact h.s1,by rw [<-(ag.val 2 (by decide)).1];exact h.v2,h.hk,h.ok,by rw [<-ag.ext];exact h.xe⟩
structure J5d (L:Lg) (σ:Sig):Prop where
 z:(σ.sval 0).size<=9223372036854775807
 s1:σ.sval 1=bs (encG L)
 ok:LgOk L
theorem J5d.agree {L:Lg} {σ τ:Sig} (ag:Agree 2 σ τ) (h:J5d L σ):J5d L τ:=
 ⟨by rw [<-(ag.val 0 (by decide)).2.2];exact h.z,by rw [<-(ag.val 1 (by decide)).2.2];exact h.s1,h.ok⟩
structure J5e (P:ByteArray) (σ:Sig):Prop where
 z:(σ.sval 0).size<=300
 s1:σ.sval 1=P++σ.sval 0
 hp:P.size=7
theorem J5e.agree {P:ByteArray} {σ τ:Sig} (ag:Agree 2 σ τ) (h:J5e P σ):J5e P τ:=
 ⟨by rw [<-(ag.val 0 (by decide)).2.2];exact h.z,by rw [<-(ag.val 1 (by decide)).2.2,<-(ag.val 0 (by decide)).2.2];exact h.s1,h.hp⟩
theorem txt {S:ByteArray} {l:Lg} (hp:Lgp.par S=.ok l) (hs:S.size<=2000) {X:ByteArray} {n im cy re br ou:Int} (h0:X=decS (Qa 578 [encB S])) (h1:n=IntKind.i64.wrap (Qa 579 [encB S])) (h2:im=IntKind.u32.wrap (Qa 580 [encB S]))
  (h3:cy=IntKind.i64.wrap (Qa 581 [encB S])) (h4:re=IntKind.u64.wrap (Qa 582 [encB S])) (h5:br=IntKind.u64.wrap (Qa 583 [encB S])) (h6:ou=IntKind.i64.wrap (Qa 584 [encB S])):
  X=Lgp.encL l.es/\n=(l.es.length:Int)/\im=l.img/\cy=l.cyc/\re=l.ret/\br=l.br/\ou=l.out/\(!(Qa 448 [im,encB X,n,cy,re,br,ou]==0))=true/\decS (Qa 512 [im,encB X,n,cy,re,br,ou])=S:=by
 obtain ⟨r1,r2,r3,r4,r5,r6,r7,r8,r9,r10⟩:=rd_ok hp
 have hv:(Lgp.par S).val=l:=by rw [hp];rfl
 obtain ⟨t1,t2,t3,t4,t5,t6⟩:=Q24 S
 rw [lg_es,hv] at h0
 rw [t1,hv,Qh] at h1
 rw [t2,hv,Qem] at h2
 rw [t3,hv,Qh] at h3
 rw [t4,hv,Qj] at h4
 rw [t5,hv,Qj] at h5
 rw [t6,hv,Qh] at h6
 have e1:n=(l.es.length:Int):=by omega
 have e2:im=l.img:=by omega
 have e3:cy=l.cyc:=by omega
 have e4:re=l.ret:=by omega
 have e5:br=l.br:=by omega
 have e6:ou=l.out:=by omega
 subst e1 e2 e3 e4 e5 e6 h0
 refine ⟨rfl,rfl,rfl,rfl,rfl,rfl,rfl,?_,?_⟩
 ·rw [Qu1,r9]
  exact r2
 ·rw [Quz,r9]
  exact r1.symm
theorem endI {W:World} {σ:Sig}:EndZ Qa 132 W (WZ W) .ret lgE5 σ:=by
 intro en a w hxe hA
 exact Q7w (r:=6) rfl hA (by simp [lgE5]) (.inl hxe)
set_option maxHeartbeats 1000000 in
theorem stF {W:World}:Qf Tryd.prog Qa 132 W (WZ W) ((Qe (Qc Tryd.f5)).drop 15) Quy 2 Ql8 (fun σ=> ∃P,J5e P σ):=by
 refine Qf.last mixed Qbd5 ⟨rfl,rfl⟩ (fun σ τ ag ⟨P,h⟩=>⟨P,h.agree ag⟩) (fun τ h=>Qbe) (fun τ e ht hi hj=> ?_)
 obtain ⟨P,z,s1,hp⟩:=hj
 refine Q6 ?_
 have i2:τ.ival 2=((τ.sval 0).size:Nat):=Qbm (e.at 0 _ rfl rfl)
 have b3:τ.bval 3=decide (τ.ival 2<=1000000):=eqB (e.at 1 _ rfl rfl) rfl
 have b4:τ.bval 4= !(τ.tab 576 [encB (τ.sval 0)]==0):=Qd0 (e.at 2 _ rfl rfl)
 have b5:τ.bval 5= !(τ.tab 585 [encB (τ.sval 0)]==0):=Qd0 (e.at 3 _ rfl rfl)
 have s6:τ.sval 6=decS (τ.tab 578 [encB (τ.sval 0)]):=eqFs (e.at 4 _ rfl rfl)
 have i7:τ.ival 7=IntKind.i64.wrap (τ.tab 579 [encB (τ.sval 0)]):=eqFn (e.at 5 _ rfl rfl)
 have i8:τ.ival 8=IntKind.u32.wrap (τ.tab 580 [encB (τ.sval 0)]):=eqFn (e.at 6 _ rfl rfl)
 have i9:τ.ival 9=IntKind.i64.wrap (τ.tab 581 [encB (τ.sval 0)]):=eqFn (e.at 7 _ rfl rfl)
 have i10:τ.ival 10=IntKind.u64.wrap (τ.tab 582 [encB (τ.sval 0)]):=eqFn (e.at 8 _ rfl rfl)
 have i11:τ.ival 11=IntKind.u64.wrap (τ.tab 583 [encB (τ.sval 0)]):=eqFn (e.at 9 _ rfl rfl)
 have i12:τ.ival 12=IntKind.i64.wrap (τ.tab 584 [encB (τ.sval 0)]):=eqFn (e.at 10 _ rfl rfl)
 have b13:τ.bval 13=decide ((0:Int)<=τ.ival 7):=eqB (e.at 11 _ rfl rfl) rfl
 have b14:τ.bval 14=decide (τ.ival 7<=τ.ival 7):=eqB (e.at 12 _ rfl rfl) rfl
 have b15:τ.bval 15=decide (τ.ival 7<=1000000):=eqB (e.at 13 _ rfl rfl) rfl
 have b16:τ.bval 16=decide (τ.ival 7<=1000):=eqB (e.at 14 _ rfl rfl) rfl
 have b17:τ.bval 17= !(τ.tab 448 [τ.ival 8,encB (τ.sval 6),τ.ival 7,τ.ival 9,τ.ival 10,τ.ival 11,τ.ival 12]==0):=Qd0 (e.at 15 _ rfl rfl)
 have i18:τ.ival 18=((τ.sval 1).size:Nat):=Qbm (e.at 16 _ rfl rfl)
 have b19:τ.bval 19=decide (τ.ival 18<=1000000):=eqB (e.at 17 _ rfl rfl) rfl
 have b20:τ.bval 20= !(τ.tab 576 [encB (τ.sval 1)]==0):=Qd0 (e.at 18 _ rfl rfl)
 have b21:τ.bval 21= !(τ.tab 585 [encB (τ.sval 1)]==0):=Qd0 (e.at 19 _ rfl rfl)
 have s22:τ.sval 22=decS (τ.tab 578 [encB (τ.sval 1)]):=eqFs (e.at 20 _ rfl rfl)
 have i23:τ.ival 23=IntKind.i64.wrap (τ.tab 579 [encB (τ.sval 1)]):=eqFn (e.at 21 _ rfl rfl)
 have i24:τ.ival 24=IntKind.u32.wrap (τ.tab 580 [encB (τ.sval 1)]):=eqFn (e.at 22 _ rfl rfl)
 have i25:τ.ival 25=IntKind.i64.wrap (τ.tab 581 [encB (τ.sval 1)]):=eqFn (e.at 23 _ rfl rfl)
 have i26:τ.ival 26=IntKind.u64.wrap (τ.tab 582 [encB (τ.sval 1)]):=eqFn (e.at 24 _ rfl rfl)
 have i27:τ.ival 27=IntKind.u64.wrap (τ.tab 583 [encB (τ.sval 1)]):=eqFn (e.at 25 _ rfl rfl)
 have i28:τ.ival 28=IntKind.i64.wrap (τ.tab 584 [encB (τ.sval 1)]):=eqFn (e.at 26 _ rfl rfl)
 have b29:τ.bval 29=decide ((0:Int)<=τ.ival 23):=eqB (e.at 27 _ rfl rfl) rfl
 have b30:τ.bval 30=decide (τ.ival 23<=τ.ival 23):=eqB (e.at 28 _ rfl rfl) rfl
 have b31:τ.bval 31=decide (τ.ival 23<=1000000):=eqB (e.at 29 _ rfl rfl) rfl
 have b32:τ.bval 32=decide (τ.ival 23<=1000):=eqB (e.at 30 _ rfl rfl) rfl
 have b33:τ.bval 33= !(τ.tab 448 [τ.ival 24,encB (τ.sval 22),τ.ival 23,τ.ival 25,τ.ival 26,τ.ival 27,τ.ival 28]==0):=Qd0 (e.at 31 _ rfl rfl)
 have s34:τ.sval 34=decS (τ.tab 512 [τ.ival 8,encB (τ.sval 6),τ.ival 7,τ.ival 9,τ.ival 10,τ.ival 11,τ.ival 12]):=eqFs (e.at 32 _ rfl rfl)
 have b35:τ.bval 35= !((τ.sval 34).toList==(τ.sval 0).toList):=eqB (e.at 33 _ rfl rfl) rfl
 have i36:τ.ival 36=IntKind.i64.wrap (τ.tab 577 [encB (τ.sval 1)]):=eqFn (e.at 34 _ rfl rfl)
 have i37:τ.ival 37=IntKind.i64.wrap (τ.tab 577 [encB (τ.sval 0)]):=eqFn (e.at 35 _ rfl rfl)
 have s38:τ.sval 38=decS (τ.tab 512 [τ.ival 24,encB (τ.sval 22),τ.ival 23,τ.ival 25,τ.ival 26,τ.ival 27,τ.ival 28]):=eqFs (e.at 36 _ rfl rfl)
 have b39:τ.bval 39= !((τ.sval 38).toList==(τ.sval 1).toList):=eqB (e.at 37 _ rfl rfl) rfl
 have tr: ∀{P:Prop} {b:Bool} [Decidable P],b=decide P->b=false->P->False:=fun hb hf hp=>by rw [hb,decide_eq_false_iff_not] at hf;exact hf hp
 have trT: ∀{P:Prop} {b:Bool} [Decidable P],b=decide P->b=true-> ¬P->False:=fun hb hf hp=>by rw [hb,decide_eq_true_eq] at hf;exact hp hf
 have z1:(τ.sval 1).size=7+(τ.sval 0).size:=by rw [s1,ByteArray.size_append,hp]
 rw [ht,lg_ok] at b4 b20
 rw [ht,Qpz] at b5 b21
 have no: ∀{b c d:Bool},b=d->c= !d->b=false->c=false->False:=fun h1 h2 h3 h4=>by rw [h1] at h3;rw [h2,h3] at h4;cases h4
 refine ⟨fun f3=>⟨fun f4=> ?_,fun f4=>⟨fun f5=>⟨fun f19=>⟨fun f20=> ?_,fun f20=>⟨fun f21=>endI,fun f21=>no b20 b21 f20 f21⟩⟩,fun f=>tr b19 f (by omega)⟩,fun f5=>no b4 b5 f4 f5⟩⟩,fun f=>tr b3 f (by omega)⟩
 ·rw [b4] at f4
  obtain ⟨l,hl⟩:=ok_of f4
  have hr:=rd_ok hl
  have hn:=hr.n
  rw [ht] at s6 i7 i8 i9 i10 i11 i12 b17 s34
  obtain ⟨q0,q1,q2,q3,q4,q5,q6,q7,q8⟩:=txt hl (by omega) s6 i7 i8 i9 i10 i11 i12
  have hbad:=pre7 hp hl
  rw [<-s1] at hbad
  refine ⟨fun _=>⟨fun _=>⟨fun _=>⟨fun _=>⟨fun _=>⟨fun _=>⟨fun f=>(by rw [b20,hbad] at f;cases f),fun _=>⟨fun _=>⟨fun f=> ?_,fun _=>endI⟩,fun f=>(by rw [b21,hbad] at f;cases f)⟩⟩,fun f=>tr b19 f (by omega)⟩,fun f=>by rw [b17,q7] at f;cases f⟩,fun f=>tr b16 f (by omega)⟩,fun f=>tr b15 f (by omega)⟩,fun f=>tr b14 f (by omega)⟩,fun f=>tr b13 f (by omega)⟩
  rw [b35,s34,q8] at f
  simp at f
 ·rw [b20] at f20
  obtain ⟨l,hl⟩:=ok_of f20
  have hr:=rd_ok hl
  have hn:=hr.n
  rw [ht] at s22 i23 i24 i25 i26 i27 i28 b33 s38
  obtain ⟨q0,q1,q2,q3,q4,q5,q6,q7,q8⟩:=txt hl (by omega) s22 i23 i24 i25 i26 i27 i28
  refine ⟨fun _=>⟨fun _=>⟨fun _=>⟨fun _=>⟨fun _=>⟨fun f=> ?_,fun _=>endI⟩,fun f=>by rw [b33,q7] at f;cases f⟩,fun f=>tr b32 f (by omega)⟩,fun f=>tr b31 f (by omega)⟩,fun f=>tr b30 f (by omega)⟩,fun f=>tr b29 f (by omega)⟩
  rw [b39,s38,q8] at f
  simp at f
theorem stE {W:World}:Qf Tryd.prog Qa 132 W (WZ W) ((Qe (Qc Tryd.f5)).drop 13) Qux 2 Ql8 (fun σ=> ∃L,J5d L σ):=by
 rw [show (Qe (Qc Tryd.f5)).drop 13=((Qe (Qc Tryd.f5)).drop 13).take 2++(Qe (Qc Tryd.f5)).drop 15 from rfl]
 refine Qf.seg mixed Qbd1 ⟨rfl,rfl⟩ (fun σ τ ag ⟨L,h⟩=>⟨L,h.agree ag⟩) (fun τ h=>Qbe) stF (fun τ e ht hi hj=> ?_)
 obtain ⟨L,z,s1,ok⟩:=hj
 refine Q6 ?_
 have i2:τ.ival 2=((τ.sval 0).size:Nat):=Qbm (e.at 0 _ rfl rfl)
 have i3:τ.ival 3=(if 300<τ.ival 2 then 300 else τ.ival 2):=eqI (e.at 1 _ rfl rfl) rfl
 have b4:τ.bval 4=decide ((0:Int)<=τ.ival 3):=eqB (e.at 2 _ rfl rfl) rfl
 have b5:τ.bval 5=decide (τ.ival 3<=τ.ival 2):=eqB (e.at 3 _ rfl rfl) rfl
 have s6:τ.sval 6=(τ.sval 0).extract (0:Int).toNat (τ.ival 3:Int).toNat:=Qfn (e.at 4 _ rfl rfl) rfl rfl
 have i7:τ.ival 7=((τ.sval 1).size:Nat):=Qbm (e.at 5 _ rfl rfl)
 have i8:τ.ival 8=(if 7<τ.ival 7 then 7 else τ.ival 7):=eqI (e.at 6 _ rfl rfl) rfl
 have b9:τ.bval 9=decide ((0:Int)<=τ.ival 8):=eqB (e.at 7 _ rfl rfl) rfl
 have b10:τ.bval 10=decide (τ.ival 8<=τ.ival 7):=eqB (e.at 8 _ rfl rfl) rfl
 have s11:τ.sval 11=(τ.sval 1).extract (0:Int).toNat (τ.ival 8:Int).toNat:=Qfn (e.at 9 _ rfl rfl) rfl rfl
 have s12:τ.sval 12=τ.sval 11++τ.sval 6:=Qu (e.at 10 _ rfl rfl) rfl rfl
 have i13:τ.ival 13=((τ.sval 12).size:Nat):=Qbm (e.at 11 _ rfl rfl)
 have b14:τ.bval 14=decide (τ.ival 13<=9223372036854775807):=eqB (e.at 12 _ rfl rfl) rfl
 have tr: ∀{P:Prop} {b:Bool} [Decidable P],b=decide P->b=false->P->False:=fun hb hf hp=>by rw [hb,decide_eq_false_iff_not] at hf;exact hf hp
 have trT: ∀{P:Prop} {b:Bool} [Decidable P],b=decide P->b=true-> ¬P->False:=fun hb hf hp=>by rw [hb,decide_eq_true_eq] at hf;exact hp hf
 have hz:=ok.size
 have h7:=Q40 L 0
 have hm:=Q3w L 0
 rw [s1] at i7
 have i7:τ.ival 7=((bs (encG L)).size:Nat):=i7
 have e8:τ.ival 8=7:=by rw [i8];split<;>omega
 have e3:0<=τ.ival 3/\τ.ival 3<=300/\τ.ival 3<=τ.ival 2:=by rw [i3];split<;>omega
 have z6:(τ.sval 6).size<=300:=by
  rw [s6,ByteArray.size_extract]
  omega
 have z11:(τ.sval 11).size=7:=by
  rw [s11,ByteArray.size_extract,e8,s1]
  omega
 have z12:(τ.sval 12).size=7+(τ.sval 6).size:=by rw [s12,ByteArray.size_append,z11]
 refine ⟨fun _=>⟨fun _=>⟨fun _=>⟨fun _=>⟨fun _=> .inl ⟨rfl,rfl,Qbi (X:=Q2h) e hi (by kernel_rfl) (by kernel_rfl),⟨τ.sval 11,z6,s12,z11⟩,tabS ht⟩,fun f=>tr b14 f (by omega)⟩,fun f=>tr b10 f (by omega)⟩,fun f=>tr b9 f (by omega)⟩,fun f=>tr b5 f (by omega)⟩,fun f=>tr b4 f (by omega)⟩
theorem stD {W:World} {E:Nat->Option Fz} (hO: ∀σ:Sig,σ.ext=E->Qdv 0 Qdf σ):Qf Tryd.prog Qa 132 W (WZ W) ((Qe (Qc Tryd.f5)).drop 9) Quw 3 Quq (fun σ=> ∃L k,J5c E L k σ):=by
 rw [show (Qe (Qc Tryd.f5)).drop 9=((Qe (Qc Tryd.f5)).drop 9).take 4++(Qe (Qc Tryd.f5)).drop 13 from rfl]
 refine Qf.segI mixed Qbdw ⟨rfl,rfl⟩ (fun σ τ ag ⟨L,k,h⟩=>⟨L,k,h.agree ag⟩) (fun τ h=>Qbe) (fun τ ⟨L,k,h⟩=>hO τ h.xe) stE (fun τ e ht hi hj=> ?_)
 obtain ⟨L,k,z,s1,v2,hk,ok,xe⟩:=hj
 refine Q6 ?_
 have i3:τ.ival 3=((τ.sval 1).size:Nat):=Qbm (e.at 0 _ rfl rfl)
 have b4:τ.bval 4=decide ((0:Int)<=τ.ival 2):=eqB (e.at 1 _ rfl rfl) rfl
 have b5:τ.bval 5=decide (τ.ival 2<=τ.ival 3):=eqB (e.at 2 _ rfl rfl) rfl
 have s6:τ.sval 6=(τ.sval 1).extract (0:Int).toNat (τ.ival 2:Int).toNat:=Qfn (e.at 3 _ rfl rfl) rfl rfl
 have i7:τ.ival 7=((τ.sval 6).size:Nat):=Qbm (e.at 4 _ rfl rfl)
 have b8:τ.bval 8=decide (τ.ival 7<=1000000):=eqB (e.at 5 _ rfl rfl) rfl
 have b9:τ.bval 9= !(τ.tab 585 [encB (τ.sval 6)]==0):=Qd0 (e.at 6 _ rfl rfl)
 have i11:τ.ival 11=((τ.sval 10).size:Nat):=Qbm (e.at 8 _ rfl rfl)
 have b12:τ.bval 12=decide (τ.ival 11<=1000000):=eqB (e.at 9 _ rfl rfl) rfl
 have b13:τ.bval 13= !(τ.tab 585 [encB (τ.sval 10)]==0):=Qd0 (e.at 10 _ rfl rfl)
 have b15:τ.bval 15=decide (τ.ival 11<=9223372036854775807):=eqB (e.at 12 _ rfl rfl) rfl
 have i16:τ.ival 16=IntKind.i64.wrap (τ.tab 577 [encB (τ.sval 10)]):=eqFn (e.at 13 _ rfl rfl)
 have s10:τ.sval 10=τ.sval 1++⟨#[120]⟩:=Qu (e.at 7 _ rfl rfl) rfl rfl
 have b17:τ.bval 17=((τ.ival 16==τ.ival 3)&&true):=eqB (e.at 14 _ rfl rfl) rfl
 have tr: ∀{P:Prop} {b:Bool} [Decidable P],b=decide P->b=false->P->False:=fun hb hf hp=>by rw [hb,decide_eq_false_iff_not] at hf;exact hf hp
 have trT: ∀{P:Prop} {b:Bool} [Decidable P],b=decide P->b=true-> ¬P->False:=fun hb hf hp=>by rw [hb,decide_eq_true_eq] at hf;exact hp hf
 have hz:=ok.size
 have hl:(bs (encG L)).size=(encG L).length:=Qc1 _
 have hm:=Qbfr ok
 rw [s1] at s6 s10 i3
 rw [v2,Int.toNat_natCast,Int.toNat_zero] at s6
 rw [ht,s6,Qpz,Q8p ok hk] at b9
 rw [ht,s10,Qpz,hm] at b13
 rw [ht,s10,lg_at,hm,Qh] at i16
 have i3:τ.ival 3=((bs (encG L)).size:Nat):=i3
 have z6:(τ.sval 6).size<=1300:=by rw [s6,ByteArray.size_extract];omega
 have z10:(τ.sval 10).size=(bs (encG L)).size+1:=by rw [s10,ByteArray.size_append];rfl
 have e16:τ.ival 16=τ.ival 3:=by
  rw [i16]
  show (((encG L).length:Int)- -9223372036854775808)%18446744073709551616+ -9223372036854775808=_
  omega
 refine ⟨fun _=>⟨fun _=>⟨fun _=>⟨fun _=>⟨fun _=>⟨fun _=>⟨fun _=>⟨fun _=> .inl ⟨rfl,rfl,Qbi (X:=Qe1) e hi (by kernel_rfl) (by kernel_rfl),⟨L,z,s1,ok⟩,tabS ht⟩,fun f=>by rw [b17,e16] at f;simp at f⟩,fun f=>tr b15 f (by omega)⟩,fun f=>by rw [b13] at f;cases f⟩,fun f=>tr b12 f (by omega)⟩,fun f=>by rw [b9] at f;cases f⟩,fun f=>tr b8 f (by omega)⟩,fun f=>tr b5 f (by omega)⟩,fun f=>tr b4 f (by omega)⟩
theorem stC {W:World} {E:Nat->Option Fz} (hO: ∀σ:Sig,σ.ext=E->Qdv 0 Qdf σ):Qf Tryd.prog Qa 132 W (WZ W) ((Qe (Qc Tryd.f5)).drop 8) Quv 6 Q2s (fun σ=> ∃L,J5b E L σ):=by
 rw [show (Qe (Qc Tryd.f5)).drop 8=((Qe (Qc Tryd.f5)).drop 8).take 1++(Qe (Qc Tryd.f5)).drop 9 from rfl]
 refine Qf.seg mixed Qbds ⟨rfl,rfl⟩ (fun σ τ ag ⟨L,h⟩=>⟨L,h.agree ag⟩) (fun τ h=>Qbe) (stD hO) (fun τ e ht hi hj=> ?_)
 obtain ⟨L,z,s1,ok,xe⟩:=hj
 refine Q6 ?_
 have i6:τ.ival 6=((τ.sval 1).size:Nat):=Qbm (e.at 0 _ rfl rfl)
 have i7:τ.ival 7=IntKind.i64.wrap (τ.ival 3):=eqI (e.at 1 _ rfl rfl) rfl
 have hz:=ok.size
 have h7:=Q40 L 0
 have hm:=Q3w L 0
 have hl:(bs (encG L)).size=(encG L).length:=Qc1 _
 rw [s1] at i6
 have i6:τ.ival 6=((bs (encG L)).size:Nat):=i6
 have hf:=hi 3 .u16 (by decide) rfl
 rw [Qrs] at hf
 rw [Qh] at i7
 have h0:τ.ival 6≠0:=by omega
 have i8:τ.ival 8=(τ.ival 7).tmod (τ.ival 6):=eqI (e 2 _ rfl (fun j hj=>by cases hj;exact h0)) (by simp [Qb,den,binS,intA,h0])
 rw [Int.tmod_eq_emod_of_nonneg (by omega)] at i8
 have h1:=Int.emod_nonneg (τ.ival 7) h0
 have h2:=Int.emod_lt_of_pos (τ.ival 7) (show 0<τ.ival 6 by omega)
 rw [<-i8] at h1 h2
 refine ⟨fun f=>h0 f,fun _=> .inl ⟨rfl,rfl,?_,⟨L,(τ.ival 8).toNat,z,s1,?_,by omega,ok,extS xe⟩,tabS ht⟩⟩
 ·intro i k h hk
  have:i=0\/i=1\/i=2:=by omega
  rcases this with rfl|rfl|rfl
  ·cases hk
  ·cases hk
  ·have hk:IntKind.i64=k:=Option.some.inj hk
   subst hk
   show IntKind.i64.wrap (τ.ival 8)=τ.ival 8
   rw [Qh];omega
 ·show τ.ival 8=_
  omega
set_option maxHeartbeats 1000000 in
theorem stB {W:World} {E:Nat->Option Fz} (hO: ∀σ:Sig,σ.ext=E->Qdv 0 Qdf σ):Qf Tryd.prog Qa 132 W (WZ W) ((Qe (Qc Tryd.f5)).drop 4) Qpy 12 Qpt (fun σ=> ∃L,J5a E L σ):=by
 rw [show (Qe (Qc Tryd.f5)).drop 4=((Qe (Qc Tryd.f5)).drop 4).take 4++(Qe (Qc Tryd.f5)).drop 8 from rfl]
 refine Qf.seg mixed Qbdm ⟨rfl,rfl⟩ (fun σ τ ag ⟨L,h⟩=>⟨L,h.agree ag⟩) (fun τ h=>Qbe) (stC hO) (fun τ e ht hi hj=> ?_)
 obtain ⟨L,z,s1,v6,v7,v8,v9,v10,v11,ok,xe⟩:=hj
 refine Q6 ?_
 have b12:τ.bval 12=decide ((0:Int)<=τ.ival 6):=eqB (e.at 0 _ rfl rfl) rfl
 have b13:τ.bval 13=decide (τ.ival 6<=τ.ival 6):=eqB (e.at 1 _ rfl rfl) rfl
 have b14:τ.bval 14=decide (τ.ival 6<=1000000):=eqB (e.at 2 _ rfl rfl) rfl
 have b15:τ.bval 15=decide (τ.ival 6<=1000):=eqB (e.at 3 _ rfl rfl) rfl
 have b16:τ.bval 16= !(τ.tab 448 [τ.ival 7,encB (τ.sval 1),τ.ival 6,τ.ival 8,τ.ival 9,τ.ival 10,τ.ival 11]==0):=Qd0 (e.at 4 _ rfl rfl)
 have s17:τ.sval 17=decS (τ.tab 512 [τ.ival 7,encB (τ.sval 1),τ.ival 6,τ.ival 8,τ.ival 9,τ.ival 10,τ.ival 11]):=eqFs (e.at 5 _ rfl rfl)
 have i18:τ.ival 18=((τ.sval 17).size:Nat):=Qbm (e.at 6 _ rfl rfl)
 have b19:τ.bval 19=decide (τ.ival 18<=1000000):=eqB (e.at 7 _ rfl rfl) rfl
 have b20:τ.bval 20= !(τ.tab 576 [encB (τ.sval 17)]==0):=Qd0 (e.at 8 _ rfl rfl)
 have s21:τ.sval 21=decS (τ.tab 578 [encB (τ.sval 17)]):=eqFs (e.at 9 _ rfl rfl)
 have i22:τ.ival 22=IntKind.i64.wrap (τ.tab 579 [encB (τ.sval 17)]):=eqFn (e.at 10 _ rfl rfl)
 have i23:τ.ival 23=IntKind.u32.wrap (τ.tab 580 [encB (τ.sval 17)]):=eqFn (e.at 11 _ rfl rfl)
 have i24:τ.ival 24=IntKind.i64.wrap (τ.tab 581 [encB (τ.sval 17)]):=eqFn (e.at 12 _ rfl rfl)
 have i25:τ.ival 25=IntKind.u64.wrap (τ.tab 582 [encB (τ.sval 17)]):=eqFn (e.at 13 _ rfl rfl)
 have i26:τ.ival 26=IntKind.u64.wrap (τ.tab 583 [encB (τ.sval 17)]):=eqFn (e.at 14 _ rfl rfl)
 have i27:τ.ival 27=IntKind.i64.wrap (τ.tab 584 [encB (τ.sval 17)]):=eqFn (e.at 15 _ rfl rfl)
 have b28:τ.bval 28=decide ((0:Int)<=τ.ival 22):=eqB (e.at 16 _ rfl rfl) rfl
 have b29:τ.bval 29=decide (τ.ival 22<=τ.ival 22):=eqB (e.at 17 _ rfl rfl) rfl
 have b30:τ.bval 30=decide (τ.ival 22<=1000000):=eqB (e.at 18 _ rfl rfl) rfl
 have s31:τ.sval 31=decS (τ.tab 704 [encB (τ.sval 21),τ.ival 22]):=eqFs (e.at 19 _ rfl rfl)
 have s32:τ.sval 32=decS (τ.tab 704 [encB (τ.sval 1),τ.ival 6]):=eqFs (e.at 20 _ rfl rfl)
 have b33:τ.bval 33=((τ.ival 22:Int)==τ.ival 6):=eqB (e.at 21 _ rfl rfl) rfl
 have b34:τ.bval 34=((τ.ival 23:Int)==τ.ival 7):=eqB (e.at 22 _ rfl rfl) rfl
 have b35:τ.bval 35=((τ.ival 24:Int)==τ.ival 8):=eqB (e.at 23 _ rfl rfl) rfl
 have b36:τ.bval 36=((τ.ival 25:Int)==τ.ival 9):=eqB (e.at 24 _ rfl rfl) rfl
 have b37:τ.bval 37=((τ.ival 26:Int)==τ.ival 10):=eqB (e.at 25 _ rfl rfl) rfl
 have b38:τ.bval 38=((τ.ival 27:Int)==τ.ival 11):=eqB (e.at 26 _ rfl rfl) rfl
 have b39:τ.bval 39=((τ.sval 31).toList==(τ.sval 32).toList):=eqB (e.at 27 _ rfl rfl) rfl
 have tr: ∀{P:Prop} {b:Bool} [Decidable P],b=decide P->b=false->P->False:=fun hb hf hp=>by rw [hb,decide_eq_false_iff_not] at hf;exact hf hp
 have trT: ∀{P:Prop} {b:Bool} [Decidable P],b=decide P->b=true-> ¬P->False:=fun hb hf hp=>by rw [hb,decide_eq_true_eq] at hf;exact hp hf
 have hz:=ok.size
 have hl:=ok.len
 rw [ht,s1,v6,v7,v8,v9,v10,v11,Qu1,ok.lst] at b16
 rw [ht,s1,v6,v7,v8,v9,v10,v11,Quz,ok.lst] at s17
 have s17:τ.sval 17=bs (encG L):=s17
 have hp:Lgp.par (τ.sval 17)=.ok L:=by rw [s17];exact ok.par
 have z17:(τ.sval 17).size<=1300:=by rw [s17];exact hz
 rw [ht,lg_ok,hp] at b20
 rw [ht] at s21 i22 i23 i24 i25 i26 i27 s31 s32
 obtain ⟨q0,q1,q2,q3,q4,q5,q6,q7,q8⟩:=txt hp (by omega) s21 i22 i23 i24 i25 i26 i27
 rw [q0,q1,Qu0,ok.lst] at s31
 rw [s1,v6,Qu0,ok.lst] at s32
 have r16:τ.bval 16=true:=by rw [b16];exact ok.rt
 refine ⟨fun _=>⟨fun _=>⟨fun _=>⟨fun _=>⟨fun _=>⟨fun _=>⟨fun _=>⟨fun _=>⟨fun _=>⟨fun _=>⟨fun _=>⟨fun _=>⟨fun _=>⟨fun _=>⟨fun _=>⟨fun _=>⟨fun _=> .inl ⟨rfl,rfl,Qbi (X:=Qg1) e hi (by kernel_rfl) (by kernel_rfl),⟨L,z,s17,ok,extS xe⟩,tabS ht⟩,fun f=> ?_⟩,fun f=> ?_⟩,fun f=> ?_⟩,fun f=> ?_⟩,fun f=> ?_⟩,fun f=> ?_⟩,fun f=> ?_⟩,fun f=>tr b30 f (by omega)⟩,fun f=>tr b29 f (by omega)⟩,fun f=>tr b28 f (by omega)⟩,fun f=>by rw [b20] at f;cases f⟩,fun f=>tr b19 f (by omega)⟩,fun f=>by rw [r16] at f;cases f⟩,fun f=>tr b15 f (by omega)⟩,fun f=>tr b14 f (by omega)⟩,fun f=>tr b13 f (by omega)⟩,fun f=>tr b12 f (by omega)⟩
 ·rw [b39,s31,s32] at f
  simp at f
 ·rw [b38,q6,v11] at f
  simp at f
 ·rw [b37,q5,v10] at f
  simp at f
 ·rw [b36,q4,v9] at f
  simp at f
 ·rw [b35,q3,v8] at f
  simp at f
 ·rw [b34,q2,v7] at f
  simp at f
 ·rw [b33,q1,v6] at f
  simp at f
end Go.Proofs.YtelimhjceiamcaaDoor.lg
