/-
 LogGrows' stages.
 No conditions.
-/
import Derived.Test.YtelimhjceiamcaaDoorLgx
import Derived.Test.YtelimhjceiamcaaDoorLg32
import Derived.Test.YtelimhjceiamcaaDoorLg8r
import Derived.Test.YtelimhjceiamcaaDoorFal
import Derived.Test.YtelimhjceiamcaaDoorEv8
import Derived.Test.YtelimhjceiamcaaDoorEv9
set_option maxRecDepth 100000
namespace Go.Proofs.YtelimhjceiamcaaDoor.lg
open Go.Ev Go.RowKit Go.Wbp Go.Lgp
open Go.Proofs.YtelimhjceiamcaaDoor.lgn (mixed sf48 Qdp)
set_option linter.unusedVariables false
set_option linter.unusedSimpArgs false
open Go.Proofs.YtelimhjceiamcaaDoor.fa
def lgK7:List (Option IntKind):=[some .u8,some .i64,some .u16,some .u16,some .u8,some .u8,none]
def lgS7:Shape:=⟨argT 0 [.row 0,.symi .u8 0,.agg lgD],[]⟩
def gL (s n:Nat):Blk:=.lst (.syms s) (.symi .i64 n) cl4 61
def gC (b n:Nat):AVal:=.lsl b 4 true (.int .i64 0) (.symi .i64 n)
def Qp7:Shape:=⟨[(1,.symi .u8 0),(7,.ptr 1 0)],[gL 1 2,.cells [.symi .u32 3,gC 0 2,.symi .i64 4,.symi .u64 5,.symi .u64 6,.symi .i64 7] 26]⟩
def Qt0:List (Option IntKind):=[some .u8,none,some .i64,some .u32,some .i64,some .u64,some .u64,some .i64]
def Qs3:Shape:=⟨[(8,.symi .i64 0),(7,.ptr 1 0)],[gL 1 2,.cells [.symi .u32 3,gC 0 2,.symi .i64 4,.symi .u64 5,.symi .u64 6,.symi .i64 7] 26]⟩
def Qv4:List (Option IntKind):=[some .i64,none,some .i64,some .u32,some .i64,some .u64,some .u64,some .i64]
def Qo3:Shape:=⟨[(8,.symi .i64 0),(10,.syms 1),(12,.syms 2)],[]⟩
def Qrq:List (Option IntKind):=[some .i64,none,none]
def Qpz:Shape:=⟨[(8,.symi .i64 0),(14,.ptr 0 0),(16,.ptr 1 0),(18,.symi .i64 1)],[.cells [.symi .u32 2,gC 2 3] 26,.cells [.symi .u32 4,gC 3 5] 26,gL 6 3,gL 7 5]⟩
def Qy3:List (Option IntKind):=[some .i64,some .i64,some .u32,some .i64,some .u32,some .i64,none,none]
def lgE7:Shape:=⟨[(6,.bool true)],[]⟩
def Qsi:Shape:=⟨[],[]⟩
def Qth:List SDef:=[.bin .add (.symi .i64 2) (.int .i64 1),
 .conv .i64 (.symi .u8 0),
 .bin .rem (.symi .i64 9) (.symi .i64 8)]
def Q0v:LT:=.n (.n (.e) 332 9 (.conv .i64 (.symi .u8 0)) (.e)) 202060958 8 (.bin .add (.symi .i64 2) (.int .i64 1)) (.n (.e) 434636229 10 (.bin .rem (.symi .i64 9) (.symi .i64 8)) (.e))
def Qbg1:Sw:=.pick 8 0 (.dead) (.run (.leaf .normal Qs3 [(0,0),(1,0)] [(0,.symi .i64 10),(1,.syms 1),(2,.symi .i64 2),(3,.symi .u32 3),(2,.symi .i64 2),(4,.symi .i64 4),(5,.symi .u64 5),(6,.symi .u64 6),(7,.symi .i64 7)] []))
def Qbbo:KdT:=.n (.n (.n (.n .e (some .i64) .e) (some .u32) .e) none (.n (.n .e (some .i64) .e) (some .u64) .e)) (some .u8) (.n (.n (.n .e (some .i64) .e) (some .i64) .e) (some .i64) (.n (.n .e none .e) (some .u64) .e))
noncomputable def Qbhu:Ing:={m:=8,ins:=Qt0,G:=Qth,T:=Q0v,tab:=Qb,lsts:=Q6,kb:=11,kt:=Qbbo}
theorem Qbgp:okLT 8 Qth Q0v=true:=by kernel_rfl
theorem Qbem:okG Qth 8=true:=by kernel_rfl
theorem Qbei:SegOk Tryd.prog Qb 159 (((Qf (Qd Tryd.f7)).drop 4).take 1) Qp7 Qbhu Qbg1 where
 lt:=Qbgp
 ok:=Qbem
 hook:=fun F=>Qda rfl F
 n0:=rfl
 id:=by kernel_rfl
 reck:=by kernel_rfl
 tab:=rfl
 cuts:=rfl
 kt:=by kernel_rfl
def Qnk:List SDef:=[.bin .leq (.int .i64 0) (.symi .i64 2),
 .bin .leq (.symi .i64 2) (.symi .i64 2),
 .bin .leq (.symi .i64 2) (.int .i64 1000000),
 .bin .leq (.symi .i64 2) (.int .i64 1000),
 .fnb 448 [.symi .u32 3,.syms 1,.symi .i64 2,.symi .i64 4,.symi .u64 5,.symi .u64 6,.symi .i64 7],
 .bin .leq (.int .i64 0) (.symi .i64 0),
 .bin .leq (.symi .i64 0) (.symi .i64 2),
 .bin .leq (.symi .i64 0) (.int .i64 1000),
 .bin .gtr (.symi .i64 0) (.int .i64 0),
 .bin .sub (.symi .i64 0) (.int .i64 1),
 .bin .leq (.int .i64 0) (.symi .i64 17),
 .bin .lss (.symi .i64 17) (.symi .i64 2),
 .sop (.cell [.some .u64,.some .u64,.some .i64,.some .u8] 0) [.syms 1,.symi .i64 17],
 .sop (.cell [.some .u64,.some .u64,.some .i64,.some .u8] 1) [.syms 1,.symi .i64 17],
 .fnb 448 [.symi .u32 3,.syms 1,.symi .i64 0,.int .i64 0,.symi .u64 20,.symi .u64 21,.int .i64 0],
 .fnb 448 [.symi .u32 3,.syms 1,.symi .i64 0,.int .i64 0,.int .u64 0,.int .u64 0,.int .i64 0],
 .sop (.cell [.some .u64,.some .u64,.some .i64,.some .u8] 2) [.syms 1,.symi .i64 17],
 .sop (.cell [.some .u64,.some .u64,.some .i64,.some .u8] 3) [.syms 1,.symi .i64 17],
 .sop (.fs 512) [.symi .u32 3,.syms 1,.symi .i64 2,.symi .i64 4,.symi .u64 5,.symi .u64 6,.symi .i64 7],
 .sop (.fs 512) [.symi .u32 3,.syms 1,.symi .i64 0,.int .i64 0,.symi .u64 20,.symi .u64 21,.int .i64 0],
 .sop .len [.syms 27],
 .bin .lss (.symi .i64 28) (.int .i64 13),
 .sop .len [.syms 26],
 .bin .sub (.symi .i64 28) (.int .i64 6),
 .bin .lss (.symi .i64 30) (.symi .i64 31),
 .bin .leq (.int .i64 0) (.symi .i64 31),
 .bin .leq (.symi .i64 31) (.symi .i64 30),
 .sop .sub [.syms 26,.int .i64 0,.symi .i64 31],
 .bin .leq (.symi .i64 31) (.symi .i64 28),
 .sop .sub [.syms 27,.int .i64 0,.symi .i64 31],
 .bin .neq (.syms 35) (.syms 37),
 .bin .sub (.symi .i64 28) (.int .i64 1),
 .bin .leq (.symi .i64 31) (.symi .i64 39),
 .bin .leq (.symi .i64 39) (.symi .i64 28),
 .sop .sub [.syms 27,.symi .i64 31,.symi .i64 39],
 .bin .neq (.syms 42) (.str ⟨#[255,0,0,0,0]⟩),
 .sop (.fs 512) [.symi .u32 3,.syms 1,.symi .i64 0,.int .i64 0,.int .u64 0,.int .u64 0,.int .i64 0],
 .sop .len [.syms 44],
 .bin .lss (.symi .i64 45) (.int .i64 13),
 .bin .sub (.symi .i64 45) (.int .i64 6),
 .bin .lss (.symi .i64 30) (.symi .i64 47),
 .bin .leq (.int .i64 0) (.symi .i64 47),
 .bin .leq (.symi .i64 47) (.symi .i64 30),
 .sop .sub [.syms 26,.int .i64 0,.symi .i64 47],
 .bin .leq (.symi .i64 47) (.symi .i64 45),
 .sop .sub [.syms 44,.int .i64 0,.symi .i64 47],
 .bin .neq (.syms 51) (.syms 53),
 .bin .sub (.symi .i64 45) (.int .i64 1),
 .bin .leq (.symi .i64 47) (.symi .i64 55),
 .bin .leq (.symi .i64 55) (.symi .i64 45),
 .sop .sub [.syms 44,.symi .i64 47,.symi .i64 55],
 .bin .neq (.syms 58) (.str ⟨#[255,0,0,0,0]⟩)]
def Qu1:LT:=.n (.n (.n (.n (.n (.n (.e) 10422 16 (.bin .gtr (.symi .i64 0) (.int .i64 0)) (.e)) 30227 13 (.bin .leq (.int .i64 0) (.symi .i64 0)) (.n (.e) 60359 17 (.bin .sub (.symi .i64 0) (.int .i64 1)) (.e))) 9171266 56 (.bin .leq (.symi .i64 47) (.symi .i64 55)) (.n (.n (.e) 15266432 50 (.bin .leq (.symi .i64 47) (.symi .i64 30)) (.e)) 31520988 49 (.bin .leq (.int .i64 0) (.symi .i64 47)) (.e))) 47200432 30 (.sop .len [.syms 26]) (.n (.n (.n (.e) 50045415 15 (.bin .leq (.symi .i64 0) (.int .i64 1000)) (.e)) 58451677 26 (.sop (.fs 512) [.symi .u32 3,.syms 1,.symi .i64 2,.symi .i64 4,.symi .u64 5,.symi .u64 6,.symi .i64 7]) (.n (.e) 71550730 58 (.sop .sub [.syms 44,.symi .i64 47,.symi .i64 55]) (.e))) 129618327 20 (.sop (.cell [.some .u64,.some .u64,.some .i64,.some .u8] 0) [.syms 1,.symi .i64 17]) (.n (.n (.e) 129618329 21 (.sop (.cell [.some .u64,.some .u64,.some .i64,.some .u8] 1) [.syms 1,.symi .i64 17]) (.e)) 129618331 24 (.sop (.cell [.some .u64,.some .u64,.some .i64,.some .u8] 2) [.syms 1,.symi .i64 17]) (.e)))) 129618333 25 (.sop (.cell [.some .u64,.some .u64,.some .i64,.some .u8] 3) [.syms 1,.symi .i64 17]) (.n (.n (.n (.n (.e) 141217879 22 (.fnb 448 [.symi .u32 3,.syms 1,.symi .i64 0,.int .i64 0,.symi .u64 20,.symi .u64 21,.int .i64 0]) (.e)) 145785861 38 (.bin .neq (.syms 35) (.syms 37)) (.n (.e) 214206611 28 (.sop .len [.syms 27]) (.e))) 250106686 55 (.bin .sub (.symi .i64 45) (.int .i64 1)) (.n (.n (.e) 250356861 47 (.bin .sub (.symi .i64 45) (.int .i64 6)) (.e)) 250707190 46 (.bin .lss (.symi .i64 45) (.int .i64 13)) (.e))) 252046021 11 (.bin .leq (.symi .i64 2) (.int .i64 1000)) (.n (.n (.n (.e) 256259075 19 (.bin .lss (.symi .i64 17) (.symi .i64 2)) (.e)) 415701959 40 (.bin .leq (.symi .i64 31) (.symi .i64 39)) (.e)) 468331918 18 (.bin .leq (.int .i64 0) (.symi .i64 17)) (.n (.n (.e) 489698946 59 (.bin .neq (.syms 58) (.str ⟨#[255,0,0,0,0]⟩)) (.e)) 518697792 35 (.sop .sub [.syms 26,.int .i64 0,.symi .i64 31]) (.e))))) 546745238 34 (.bin .leq (.symi .i64 31) (.symi .i64 30)) (.n (.n (.n (.n (.n (.e) 564501144 27 (.sop (.fs 512) [.symi .u32 3,.syms 1,.symi .i64 0,.int .i64 0,.symi .u64 20,.symi .u64 21,.int .i64 0]) (.e)) 604863391 57 (.bin .leq (.symi .i64 55) (.symi .i64 45)) (.n (.e) 668040506 41 (.bin .leq (.symi .i64 39) (.symi .i64 28)) (.e))) 680585189 39 (.bin .sub (.symi .i64 28) (.int .i64 1)) (.n (.n (.e) 680835364 31 (.bin .sub (.symi .i64 28) (.int .i64 6)) (.e)) 681185693 29 (.bin .lss (.symi .i64 28) (.int .i64 13)) (.e))) 685703971 37 (.sop .sub [.syms 27,.int .i64 0,.symi .i64 31]) (.n (.n (.n (.e) 686737383 8 (.bin .leq (.int .i64 0) (.symi .i64 2)) (.e)) 686737585 14 (.bin .leq (.symi .i64 0) (.symi .i64 2)) (.e)) 770985372 23 (.fnb 448 [.symi .u32 3,.syms 1,.symi .i64 0,.int .i64 0,.int .u64 0,.int .u64 0,.int .i64 0]) (.n (.n (.e) 786578552 53 (.sop .sub [.syms 44,.int .i64 0,.symi .i64 47]) (.e)) 789098506 32 (.bin .lss (.symi .i64 30) (.symi .i64 31)) (.e)))) 818495747 54 (.bin .neq (.syms 51) (.syms 53)) (.n (.n (.n (.n (.e) 844886979 10 (.bin .leq (.symi .i64 2) (.int .i64 1000000)) (.e)) 870602794 52 (.bin .leq (.symi .i64 47) (.symi .i64 45)) (.n (.e) 883402022 12 (.fnb 448 [.symi .u32 3,.syms 1,.symi .i64 2,.symi .i64 4,.symi .u64 5,.symi .u64 6,.symi .i64 7]) (.e))) 888738191 9 (.bin .leq (.symi .i64 2) (.symi .i64 2)) (.n (.n (.e) 890290159 42 (.sop .sub [.syms 27,.symi .i64 31,.symi .i64 39]) (.e)) 905828000 45 (.sop .len [.syms 44]) (.e))) 914046619 48 (.bin .lss (.symi .i64 30) (.symi .i64 47)) (.n (.n (.n (.e) 933779909 36 (.bin .leq (.symi .i64 31) (.symi .i64 28)) (.e)) 980314702 33 (.bin .leq (.int .i64 0) (.symi .i64 31)) (.e)) 1001692811 51 (.sop .sub [.syms 26,.int .i64 0,.symi .i64 47]) (.n (.n (.e) 1021122808 43 (.bin .neq (.syms 42) (.str ⟨#[255,0,0,0,0]⟩)) (.e)) 1057860322 44 (.sop (.fs 512) [.symi .u32 3,.syms 1,.symi .i64 0,.int .i64 0,.int .u64 0,.int .u64 0,.int .i64 0]) (.e)))))
def Qbig:Sw:=.node 8 (.node 9 (.node 10 (.node 11 (.node 12 (.node 13 (.node 14 (.node 15 (.node 16 (.node 18 (.node 19 (.node 22 (.node 29 (.dead) (.node 32 (.dead) (.node 33 (.node 34 (.node 36 (.node 38 (.dead) (.node 40 (.node 41 (.node 43 (.dead) (.run (.leaf .normal Qo3 [] [(0,.symi .i64 0),(1,.syms 26),(2,.syms 27)] []))) (.dead)) (.dead))) (.dead)) (.dead)) (.dead)))) (.dead)) (.dead)) (.dead)) (.node 23 (.node 46 (.dead) (.node 48 (.dead) (.node 49 (.node 50 (.node 52 (.node 54 (.dead) (.node 56 (.node 57 (.node 59 (.dead) (.run (.leaf .normal Qo3 [] [(0,.symi .i64 0),(1,.syms 26),(2,.syms 44)] []))) (.dead)) (.dead))) (.dead)) (.dead)) (.dead)))) (.dead))) (.dead)) (.dead)) (.dead)) (.dead)) (.dead)) (.dead)) (.dead)) (.dead)
def Q0h:KdT:=.n (.n (.n (.n (.n (.n .e (some .i64) .e) none (.n .e (some .i64) .e)) (some .i64) (.n (.n .e (some .i64) .e) none (.n .e (some .i64) .e))) (some .u32) (.n (.n (.n .e none .e) none (.n .e none .e)) none (.n (.n .e none .e) none (.n .e none .e)))) none (.n (.n (.n (.n .e none .e) (some .i64) (.n .e none .e)) none (.n (.n .e none .e) (some .u8) (.n .e none .e))) (some .u64) (.n (.n (.n .e none .e) (some .u64) (.n .e none .e)) none (.n (.n .e none .e) none .e)))) (some .i64) (.n (.n (.n (.n (.n .e none .e) none (.n .e none .e)) none (.n (.n .e none .e) (some .i64) (.n .e none .e))) (some .i64) (.n (.n (.n .e none .e) (some .u64) (.n .e none .e)) none (.n (.n .e none .e) none .e))) (some .i64) (.n (.n (.n (.n .e none .e) none (.n .e none .e)) none (.n (.n .e none .e) none (.n .e none .e))) (some .u64) (.n (.n (.n .e none .e) none (.n .e none .e)) none (.n (.n .e none .e) none .e))))
noncomputable def Qxc:Ing:={m:=8,ins:=Qv4,G:=Qnk,T:=Qu1,tab:=Qb,lsts:=Q6,kb:=60,kt:=Q0h}
noncomputable def Qfk:Ing:={m:=8,ins:=Qv4,G:=Qnk,T:=Qu1,tab:=Qb,lsts:=Q6,kb:=60,kt:=Q0h,mh:=Qb5 (kdX Qxc) [sf15]}
theorem Q1p:okLT 8 Qnk Qu1=true:=by kernel_rfl
theorem Qbhh:okG Qnk 8=true:=by kernel_rfl
theorem Qbgt (F:List Fact):Hooks Tryd.prog (cxOf Qfk F) where
 val:=fun f args v h=>by simp only [Qfk,cxOf,Qdb,reduceCtorEq] at h
 mem:=fun f args hp v hp' h=>by
  replace h:(Qb5 (kdX Qxc) [sf15]) (symS (Qu Qfk F)) f args hp=some (v,hp'):=h
  exact Qft (X:=Qfk) (tbl:=[sf15]) (inv:=fun _=>True) (fun e he=>by
   simp only [List.mem_cons,List.not_mem_nil,or_false] at he
   rcases he with rfl
   ·exact c15
   ) Q1p rfl (fun _ _ _ _=>trivial) F f args hp v hp' h
 ovl:=fun f k h=>by simp only [Qfk,cxOf,reduceCtorEq] at h
 atm:=fun k b h=>by simp only [Qfk,cxOf,List.not_mem_nil] at h
theorem Qbec:SegOk Tryd.prog Qb 159 (((Qf (Qd Tryd.f7)).drop 5).take 7) Qs3 Qfk Qbig where
 lt:=Q1p
 ok:=Qbhh
 hook:=Qbgt
 n0:=rfl
 id:=by kernel_rfl
 reck:=by kernel_rfl
 tab:=rfl
 cuts:=rfl
 kt:=by kernel_rfl
def Qo2:List SDef:=[.sop .len [.syms 1],
 .bin .leq (.symi .i64 3) (.int .i64 1000000),
 .fnb 576 [.syms 1],
 .sop .len [.syms 2],
 .bin .leq (.symi .i64 6) (.int .i64 1000000),
 .fnb 576 [.syms 2],
 .sop (.fs 578) [.syms 1],
 .fn 579 .i64 [.syms 1],
 .fn 580 .u32 [.syms 1],
 .fn 581 .i64 [.syms 1],
 .fn 582 .u64 [.syms 1],
 .fn 583 .u64 [.syms 1],
 .fn 584 .i64 [.syms 1],
 .sop (.fs 578) [.syms 2],
 .fn 579 .i64 [.syms 2],
 .fn 580 .u32 [.syms 2],
 .fn 581 .i64 [.syms 2],
 .fn 582 .u64 [.syms 2],
 .fn 583 .u64 [.syms 2],
 .fn 584 .i64 [.syms 2],
 .bin .neq (.symi .i64 17) (.symi .i64 0),
 .bin .lss (.symi .i64 10) (.symi .i64 0)]
def Qsr:LT:=.n (.n (.n (.n (.n (.e) 131035293 10 (.fn 579 .i64 [.syms 1]) (.e)) 131035336 11 (.fn 580 .u32 [.syms 1]) (.e)) 131035379 12 (.fn 581 .i64 [.syms 1]) (.n (.n (.e) 131035422 13 (.fn 582 .u64 [.syms 1]) (.e)) 131035465 14 (.fn 583 .u64 [.syms 1]) (.e))) 131035508 15 (.fn 584 .i64 [.syms 1]) (.n (.n (.n (.e) 137041410 5 (.fnb 576 [.syms 1]) (.e)) 167013265 3 (.sop .len [.syms 1]) (.e)) 167591271 9 (.sop (.fs 578) [.syms 1]) (.n (.n (.e) 175146364 7 (.bin .leq (.symi .i64 6) (.int .i64 1000000)) (.e)) 262040140 17 (.fn 579 .i64 [.syms 2]) (.e)))) 262040183 18 (.fn 580 .u32 [.syms 2]) (.n (.n (.n (.n (.e) 262040226 19 (.fn 581 .i64 [.syms 2]) (.e)) 262040269 20 (.fn 582 .u64 [.syms 2]) (.e)) 262040312 21 (.fn 583 .u64 [.syms 2]) (.n (.n (.e) 262040355 22 (.fn 584 .i64 [.syms 2]) (.e)) 274046479 8 (.fnb 576 [.syms 2]) (.e))) 334019444 6 (.sop .len [.syms 2]) (.n (.n (.n (.e) 334597450 16 (.sop (.fs 578) [.syms 2]) (.e)) 643293739 23 (.bin .neq (.symi .i64 17) (.symi .i64 0)) (.e)) 945887282 4 (.bin .leq (.symi .i64 3) (.int .i64 1000000)) (.n (.e) 1010033452 24 (.bin .lss (.symi .i64 10) (.symi .i64 0)) (.e))))
def Qbeo:Sw:=.node 4 (.node 5 (.node 7 (.node 8 (.node 23 (.dead) (.node 24 (.dead) (.run (.leaf .normal Qpz [(6,0),(13,0),(4,0),(11,0)] [(0,.symi .i64 0),(1,.int .i64 0),(2,.symi .u32 11),(3,.symi .i64 10),(4,.symi .u32 18),(5,.symi .i64 17),(6,.syms 9),(3,.symi .i64 10),(7,.syms 16),(5,.symi .i64 17)] [])))) (.dead)) (.dead)) (.dead)) (.dead)
def Qw2:KdT:=.n (.n (.n (.n (.n .e (some .i64) .e) none (.n .e none .e)) none (.n (.n .e (some .i64) .e) (some .u32) .e)) none (.n (.n (.n .e (some .i64) .e) none .e) none (.n (.n .e (some .u64) .e) (some .u64) .e))) (some .i64) (.n (.n (.n (.n .e none .e) none (.n .e none .e)) none (.n (.n .e (some .u64) .e) (some .i64) .e)) none (.n (.n (.n .e (some .u32) .e) (some .i64) .e) none (.n (.n .e (some .i64) .e) (some .u64) .e)))
noncomputable def Q3v:Ing:={m:=3,ins:=Qrq,G:=Qo2,T:=Qsr,tab:=Qb,lsts:=Q6,kb:=25,kt:=Qw2}
noncomputable def Qg3:Ing:={m:=3,ins:=Qrq,G:=Qo2,T:=Qsr,tab:=Qb,lsts:=Q6,kb:=25,kt:=Qw2,mh:=Qb5 (kdX Q3v) [sf32]}
theorem Qz1:okLT 3 Qo2 Qsr=true:=by kernel_rfl
theorem Qbc6:okG Qo2 3=true:=by kernel_rfl
theorem Qbaw (F:List Fact):Hooks Tryd.prog (cxOf Qg3 F) where
 val:=fun f args v h=>by simp only [Qg3,cxOf,Qdb,reduceCtorEq] at h
 mem:=fun f args hp v hp' h=>by
  replace h:(Qb5 (kdX Q3v) [sf32]) (symS (Qu Qg3 F)) f args hp=some (v,hp'):=h
  exact Qft (X:=Qg3) (tbl:=[sf32]) (inv:=fun _=>True) (fun e he=>by
   simp only [List.mem_cons,List.not_mem_nil,or_false] at he
   rcases he with rfl
   ·exact c32
   ) Qz1 rfl (fun _ _ _ _=>trivial) F f args hp v hp' h
 ovl:=fun f k h=>by simp only [Qg3,cxOf,reduceCtorEq] at h
 atm:=fun k b h=>by simp only [Qg3,cxOf,List.not_mem_nil] at h
theorem Qbf7:SegOk Tryd.prog Qb 159 (((Qf (Qd Tryd.f7)).drop 12).take 5) Qo3 Qg3 Qbeo where
 lt:=Qz1
 ok:=Qbc6
 hook:=Qbaw
 n0:=rfl
 id:=by kernel_rfl
 reck:=by kernel_rfl
 tab:=rfl
 cuts:=rfl
 kt:=by kernel_rfl
def Qq9:List SDef:=[.bin .lss (.symi .i64 1) (.symi .i64 0),
 .bin .lss (.symi .i64 1) (.symi .i64 3),
 .bin .lss (.symi .i64 1) (.symi .i64 5),
 .bin .leq (.int .i64 0) (.symi .i64 1),
 .sop (.cell [.some .u64,.some .u64,.some .i64,.some .u8] 0) [.syms 6,.symi .i64 1],
 .sop (.cell [.some .u64,.some .u64,.some .i64,.some .u8] 1) [.syms 6,.symi .i64 1],
 .sop (.cell [.some .u64,.some .u64,.some .i64,.some .u8] 2) [.syms 6,.symi .i64 1],
 .sop (.cell [.some .u64,.some .u64,.some .i64,.some .u8] 3) [.syms 6,.symi .i64 1],
 .sop (.cell [.some .u64,.some .u64,.some .i64,.some .u8] 0) [.syms 7,.symi .i64 1],
 .sop (.cell [.some .u64,.some .u64,.some .i64,.some .u8] 1) [.syms 7,.symi .i64 1],
 .sop (.cell [.some .u64,.some .u64,.some .i64,.some .u8] 2) [.syms 7,.symi .i64 1],
 .sop (.cell [.some .u64,.some .u64,.some .i64,.some .u8] 3) [.syms 7,.symi .i64 1],
 .all [(.symi .u64 12,.symi .u64 16),(.symi .u64 13,.symi .u64 17),(.symi .i64 14,.symi .i64 18),(.symi .u8 15,.symi .u8 19)],
 .bin .add (.symi .i64 1) (.int .i64 1)]
def Q0y:LT:=.n (.n (.n (.n (.e) 57349632 9 (.bin .lss (.symi .i64 1) (.symi .i64 3)) (.e)) 101030725 8 (.bin .lss (.symi .i64 1) (.symi .i64 0)) (.n (.e) 101060655 21 (.bin .add (.symi .i64 1) (.int .i64 1)) (.e))) 343383805 11 (.bin .leq (.int .i64 0) (.symi .i64 1)) (.n (.n (.e) 722809980 20 (.all [(.symi .u64 12,.symi .u64 16),(.symi .u64 13,.symi .u64 17),(.symi .i64 14,.symi .i64 18),(.symi .u8 15,.symi .u8 19)]) (.e)) 744056788 10 (.bin .lss (.symi .i64 1) (.symi .i64 5)) (.n (.e) 810521405 12 (.sop (.cell [.some .u64,.some .u64,.some .i64,.some .u8] 0) [.syms 6,.symi .i64 1]) (.e)))) 810521407 13 (.sop (.cell [.some .u64,.some .u64,.some .i64,.some .u8] 1) [.syms 6,.symi .i64 1]) (.n (.n (.n (.e) 810521409 14 (.sop (.cell [.some .u64,.some .u64,.some .i64,.some .u8] 2) [.syms 6,.symi .i64 1]) (.e)) 810521411 15 (.sop (.cell [.some .u64,.some .u64,.some .i64,.some .u8] 3) [.syms 6,.symi .i64 1]) (.n (.e) 977527584 16 (.sop (.cell [.some .u64,.some .u64,.some .i64,.some .u8] 0) [.syms 7,.symi .i64 1]) (.e))) 977527586 17 (.sop (.cell [.some .u64,.some .u64,.some .i64,.some .u8] 1) [.syms 7,.symi .i64 1]) (.n (.n (.e) 977527588 18 (.sop (.cell [.some .u64,.some .u64,.some .i64,.some .u8] 2) [.syms 7,.symi .i64 1]) (.e)) 977527590 19 (.sop (.cell [.some .u64,.some .u64,.some .i64,.some .u8] 3) [.syms 7,.symi .i64 1]) (.e)))
def Qbf0:Sw:=.node 8 (.node 9 (.node 10 (.node 11 (.node 20 (.run (.leaf .normal Qpz [(0,0),(1,0),(2,0),(3,0)] [(0,.symi .i64 0),(1,.symi .i64 21),(2,.symi .u32 2),(3,.symi .i64 3),(4,.symi .u32 4),(5,.symi .i64 5),(6,.syms 6),(3,.symi .i64 3),(7,.syms 7),(5,.symi .i64 5)] [])) (.dead)) (.dead)) (.dead)) (.dead)) (.run (.leaf (.exit 0) Qsi [] [] []))
def Qbgd:KdT:=.n (.n (.n (.n (.n .e (some .u8) .e) none .e) (some .i64) (.n (.n .e (some .u8) .e) none .e)) (some .i64) (.n (.n (.n .e (some .u64) .e) none .e) (some .i64) (.n (.n .e (some .i64) .e) (some .u64) .e))) (some .i64) (.n (.n (.n (.n .e (some .u64) .e) none .e) (some .u32) (.n (.n .e none .e) (some .u64) .e)) (some .u32) (.n (.n (.n .e (some .i64) .e) none .e) none (.n .e (some .i64) .e)))
noncomputable def Qx3:Ing:={m:=8,ins:=Qy3,G:=Qq9,T:=Q0y,tab:=Qb,lsts:=Q6,kb:=22,kt:=Qbgd}
theorem Q6g:okLT 8 Qq9 Q0y=true:=by kernel_rfl
theorem Qbax:okG Qq9 8=true:=by kernel_rfl
theorem Q7c:SegOk Tryd.prog Qb 159 ([Qc2 (Qd Tryd.f7)]) Qpz Qx3 Qbf0 where
 lt:=Q6g
 ok:=Qbax
 hook:=fun F=>Qda rfl F
 n0:=rfl
 id:=by kernel_rfl
 reck:=by kernel_rfl
 tab:=rfl
 cuts:=rfl
 kt:=by kernel_rfl
def Qr3:List SDef:=[]
def Qw4:LT:=.e
def Q7f:Sw:=.run (.leaf .ret lgE7 [] [] [])
def Qbhv:KdT:=.e
noncomputable def Qbcq:Ing:={m:=0,ins:=[],G:=Qr3,T:=Qw4,tab:=Qb,lsts:=Q6,kb:=0,kt:=Qbhv}
theorem Qbg5:okLT 0 Qr3 Qw4=true:=by kernel_rfl
theorem Qbeb:okG Qr3 0=true:=by kernel_rfl
theorem Qbar:SegOk Tryd.prog Qb 159 ((Qf (Qd Tryd.f7)).drop 18) Qsi Qbcq Q7f where
 lt:=Qbg5
 ok:=Qbeb
 hook:=fun F=>Qda rfl F
 n0:=rfl
 id:=by kernel_rfl
 reck:=by kernel_rfl
 tab:=rfl
 cuts:=rfl
 kt:=by kernel_rfl
abbrev WZ (W:World):Exit->Act->World->Prop:=bodyPost Tryd.prog Tryd.f7 fun e W'=>e=.returned (.bool true)/\Below W.heap.size W W'
structure J7a (L:Lg) (σ:Sig):Prop where
 s1:σ.sval 1=Lgp.encL L.es
 v2:σ.ival 2=L.es.length
 v3:σ.ival 3=L.img
 v4:σ.ival 4=L.cyc
 v5:σ.ival 5=L.ret
 v6:σ.ival 6=L.br
 v7:σ.ival 7=L.out
 ok:LgOk L
theorem J7a.agree {L:Lg} {σ τ:Sig} (ag:Agree 8 σ τ) (h:J7a L σ):J7a L τ:=
 ⟨by rw [<-(ag.val 1 (by decide)).2.2];exact h.s1,by rw [<-(ag.val 2 (by decide)).1];exact h.v2,by rw [<-(ag.val 3 (by decide)).1];exact h.v3,by rw [<-(ag.val 4 (by decide)).1];exact h.v4,by rw [<-(ag.val 5 (by decide)).1];exact h.v5,by rw [<-(ag.val 6 (by decide)).1];exact h.v6,by rw [<-(ag.val 7 (by decide)).1];exact h.v7,h.ok⟩
structure J7d (L:Lg) (k:Nat) (σ:Sig):Prop where
 v0:σ.ival 0=k
 hk:k<=L.es.length
 s1:σ.sval 1=Lgp.encL L.es
 v2:σ.ival 2=L.es.length
 v3:σ.ival 3=L.img
 v4:σ.ival 4=L.cyc
 v5:σ.ival 5=L.ret
 v6:σ.ival 6=L.br
 v7:σ.ival 7=L.out
 ok:LgOk L
theorem J7d.agree {L:Lg} {k:Nat} {σ τ:Sig} (ag:Agree 8 σ τ) (h:J7d L k σ):J7d L k τ:=
 ⟨by rw [<-(ag.val 0 (by decide)).1];exact h.v0,h.hk,by rw [<-(ag.val 1 (by decide)).2.2];exact h.s1,by rw [<-(ag.val 2 (by decide)).1];exact h.v2,by rw [<-(ag.val 3 (by decide)).1];exact h.v3,by rw [<-(ag.val 4 (by decide)).1];exact h.v4,by rw [<-(ag.val 5 (by decide)).1];exact h.v5,by rw [<-(ag.val 6 (by decide)).1];exact h.v6,by rw [<-(ag.val 7 (by decide)).1];exact h.v7,h.ok⟩
structure J7b (L:Lg) (k:Nat) (σ:Sig):Prop where
 v0:σ.ival 0=k
 hk:k<=L.es.length
 s1:σ.sval 1=bs (encG L)
 s2:σ.sval 2=bs (encG (less L k))
 ok:LgOk L
theorem J7b.agree {L:Lg} {k:Nat} {σ τ:Sig} (ag:Agree 3 σ τ) (h:J7b L k σ):J7b L k τ:=
 ⟨by rw [<-(ag.val 0 (by decide)).1];exact h.v0,h.hk,by rw [<-(ag.val 1 (by decide)).2.2];exact h.s1,by rw [<-(ag.val 2 (by decide)).2.2];exact h.s2,h.ok⟩
structure J7c (L:Lg) (k i:Nat) (σ:Sig):Prop where
 v0:σ.ival 0=k
 hk:k<=L.es.length
 v1:σ.ival 1=i
 hi:i<=k
 v3:σ.ival 3=L.es.length
 v5:σ.ival 5=k
 s6:σ.sval 6=Lgp.encL L.es
 s7:σ.sval 7=Lgp.encL (L.es.take k)
 ok:LgOk L
theorem J7c.agree {L:Lg} {k i:Nat} {σ τ:Sig} (ag:Agree 8 σ τ) (h:J7c L k i σ):J7c L k i τ:=
 ⟨by rw [<-(ag.val 0 (by decide)).1];exact h.v0,h.hk,by rw [<-(ag.val 1 (by decide)).1];exact h.v1,h.hi,by rw [<-(ag.val 3 (by decide)).1];exact h.v3,by rw [<-(ag.val 5 (by decide)).1];exact h.v5,by rw [<-(ag.val 6 (by decide)).2.2];exact h.s6,by rw [<-(ag.val 7 (by decide)).2.2];exact h.s7,h.ok⟩
theorem endE {W:World} {σ:Sig}:EndZ Qb 159 W (WZ W) .ret lgE7 σ:=by
 intro en a w hxe hA
 exact Q8k (r:=6) rfl hA (by simp [lgE7]) (.inl hxe)
theorem stE {W:World}:Qg Tryd.prog Qb 159 W (WZ W) ((Qf (Qd Tryd.f7)).drop 18) Qsi 0 [] (fun _=>True):=by
 refine Qg.last mixed Qbar ⟨rfl,rfl⟩ (fun σ τ ag h=>trivial) (fun τ h=>Qbp) (fun τ e ht hi hj=> ?_)
 refine Qbf ?_
 exact endE
theorem stD {W:World}:Qg Tryd.prog Qb 159 W (WZ W) ((Qf (Qd Tryd.f7)).drop 17) Qpz 8 Qy3 (fun σ=> ∃L k i,J7c L k i σ):=by
 rw [show (Qf (Qd Tryd.f7)).drop 17=.block (idOf (Qd Tryd.f7)) (.loop (Qc2 (Qd Tryd.f7)))::(Qf (Qd Tryd.f7)).drop 18 from rfl]
 refine Qg.loop (μ:=fun σ=>(σ.ival 0-σ.ival 1).toNat) mixed Q7c ⟨rfl,rfl⟩ (fun σ τ ag ⟨L,k,i,h⟩=>⟨L,k,i,h.agree ag⟩) (fun σ τ ag=>by rw [(ag.val 0 (by decide)).1,(ag.val 1 (by decide)).1]) (fun τ h=>Qbp) stE (fun τ e ht hi hj=> ?_)
 obtain ⟨L,k,i,hj⟩:=hj
 obtain ⟨v0,hk,v1,hik,v3,v5,s6,s7,ok⟩:=hj
 refine Qbf ?_
 have b8:τ.bval 8=decide (τ.ival 1<τ.ival 0):=eqB (e.at 0 _ rfl rfl) rfl
 have b9:τ.bval 9=decide (τ.ival 1<τ.ival 3):=eqB (e.at 1 _ rfl rfl) rfl
 have b10:τ.bval 10=decide (τ.ival 1<τ.ival 5):=eqB (e.at 2 _ rfl rfl) rfl
 have b11:τ.bval 11=decide ((0:Int)<=τ.ival 1):=eqB (e.at 3 _ rfl rfl) rfl
 have i12:τ.ival 12=(rowE (τ.sval 6) (τ.ival 1:Int).toNat).r:=Qcf (e.at 4 _ rfl rfl) rfl
 have i13:τ.ival 13=(rowE (τ.sval 6) (τ.ival 1:Int).toNat).b:=Qcf (e.at 5 _ rfl rfl) rfl
 have i14:τ.ival 14=(rowE (τ.sval 6) (τ.ival 1:Int).toNat).k:=Qcf (e.at 6 _ rfl rfl) rfl
 have i15:τ.ival 15=(rowE (τ.sval 6) (τ.ival 1:Int).toNat).v:=Qcf (e.at 7 _ rfl rfl) rfl
 have i16:τ.ival 16=(rowE (τ.sval 7) (τ.ival 1:Int).toNat).r:=Qcf (e.at 8 _ rfl rfl) rfl
 have i17:τ.ival 17=(rowE (τ.sval 7) (τ.ival 1:Int).toNat).b:=Qcf (e.at 9 _ rfl rfl) rfl
 have i18:τ.ival 18=(rowE (τ.sval 7) (τ.ival 1:Int).toNat).k:=Qcf (e.at 10 _ rfl rfl) rfl
 have i19:τ.ival 19=(rowE (τ.sval 7) (τ.ival 1:Int).toNat).v:=Qcf (e.at 11 _ rfl rfl) rfl
 have i21:τ.ival 21=IntKind.i64.wrap (τ.ival 1+1):=eqI (e.at 13 _ rfl rfl) rfl
 have b20:τ.bval 20=((τ.ival 12==τ.ival 16)&&((τ.ival 13==τ.ival 17)&&((τ.ival 14==τ.ival 18)&&((τ.ival 15==τ.ival 19)&&true)))):=eqB (e.at 12 _ rfl rfl) rfl
 have tr: ∀{P:Prop} {b:Bool} [Decidable P],b=decide P->b=false->P->False:=fun hb hf hp=>by rw [hb,decide_eq_false_iff_not] at hf;exact hf hp
 have trT: ∀{P:Prop} {b:Bool} [Decidable P],b=decide P->b=true-> ¬P->False:=fun hb hf hp=>by rw [hb,decide_eq_true_eq] at hf;exact hp hf
 refine ⟨fun f8=> ?_,fun f8=> .inr (.inl ⟨rfl,rfl,fun i k h _=>absurd h (Nat.not_lt_zero i),trivial,tabS ht⟩)⟩
 rw [b8,decide_eq_true_eq] at f8
 have hlt:i<k:=by omega
 have hl:=ok.len
 rw [s6,v1,Int.toNat_natCast] at i12 i13 i14 i15
 rw [s7,v1,Int.toNat_natCast] at i16 i17 i18 i19
 rw [Qh] at i21
 refine ⟨fun _=>⟨fun _=>⟨fun _=>⟨fun _=> .inl ⟨rfl,rfl,Qbq (X:=Qx3) e hi (by kernel_rfl) (by kernel_rfl),⟨L,k,i+1,v0,hk,?_,hlt,v3,v5,s6,s7,ok⟩,tabS ht,?_⟩,fun f=> ?_⟩,fun f=>tr b11 f (by omega)⟩,fun f=>tr b10 f (by omega)⟩,fun f=>tr b9 f (by omega)⟩
 ·show τ.ival 21=_
  omega
 ·show (τ.ival 0-τ.ival 21).toNat<(τ.ival 0-τ.ival 1).toNat
  omega
 ·rw [b20,i12,i13,i14,i15,i16,i17,i18,i19,ok.row hk hlt] at f
  simp at f
theorem stC {W:World}:Qg Tryd.prog Qb 159 W (WZ W) ((Qf (Qd Tryd.f7)).drop 12) Qo3 3 Qrq (fun σ=> ∃L k,J7b L k σ):=by
 rw [show (Qf (Qd Tryd.f7)).drop 12=((Qf (Qd Tryd.f7)).drop 12).take 5++(Qf (Qd Tryd.f7)).drop 17 from rfl]
 refine Qg.seg mixed Qbf7 ⟨rfl,rfl⟩ (fun σ τ ag ⟨L,k,h⟩=>⟨L,k,h.agree ag⟩) (fun τ h=>Qbp) stD (fun τ e ht hi hj=> ?_)
 obtain ⟨L,k,v0,hk,s1,s2,ok⟩:=hj
 refine Qbf ?_
 have i3:τ.ival 3=((τ.sval 1).size:Nat):=Qb3 (e.at 0 _ rfl rfl)
 have b4:τ.bval 4=decide (τ.ival 3<=1000000):=eqB (e.at 1 _ rfl rfl) rfl
 have b5:τ.bval 5= !(τ.tab 576 [encB (τ.sval 1)]==0):=Qh9 (e.at 2 _ rfl rfl)
 have i6:τ.ival 6=((τ.sval 2).size:Nat):=Qb3 (e.at 3 _ rfl rfl)
 have b7:τ.bval 7=decide (τ.ival 6<=1000000):=eqB (e.at 4 _ rfl rfl) rfl
 have b8:τ.bval 8= !(τ.tab 576 [encB (τ.sval 2)]==0):=Qh9 (e.at 5 _ rfl rfl)
 have s9:τ.sval 9=decS (τ.tab 578 [encB (τ.sval 1)]):=eqFs (e.at 6 _ rfl rfl)
 have i10:τ.ival 10=IntKind.i64.wrap (τ.tab 579 [encB (τ.sval 1)]):=eqFn (e.at 7 _ rfl rfl)
 have s16:τ.sval 16=decS (τ.tab 578 [encB (τ.sval 2)]):=eqFs (e.at 13 _ rfl rfl)
 have i17:τ.ival 17=IntKind.i64.wrap (τ.tab 579 [encB (τ.sval 2)]):=eqFn (e.at 14 _ rfl rfl)
 have b23:τ.bval 23= !((τ.ival 17:Int)==τ.ival 0):=eqB (e.at 20 _ rfl rfl) rfl
 have b24:τ.bval 24=decide (τ.ival 10<τ.ival 0):=eqB (e.at 21 _ rfl rfl) rfl
 have tr: ∀{P:Prop} {b:Bool} [Decidable P],b=decide P->b=false->P->False:=fun hb hf hp=>by rw [hb,decide_eq_false_iff_not] at hf;exact hf hp
 have trT: ∀{P:Prop} {b:Bool} [Decidable P],b=decide P->b=true-> ¬P->False:=fun hb hf hp=>by rw [hb,decide_eq_true_eq] at hf;exact hp hf
 have ok2:=ok.less k
 have z1:=ok.size
 have z2:=ok2.size
 have hl:=ok.len
 have hl2:(less L k).es.length=k:=by show (L.es.take k).length=k;rw [List.length_take];omega
 rw [s1] at i3
 rw [s2] at i6
 rw [ht,s1,lg_ok,ok.par] at b5
 rw [ht,s2,lg_ok,ok2.par] at b8
 rw [ht,s1,lg_es,ok.par] at s9
 rw [ht,s2,lg_es,ok2.par] at s16
 rw [ht,s1,(Qsb _).1,ok.par,Qh] at i10
 rw [ht,s2,(Qsb _).1,ok2.par,Qh] at i17
 have e10:τ.ival 10=(L.es.length:Int):=by
  rw [i10]
  show ((L.es.length:Int)- -9223372036854775808)%18446744073709551616+ -9223372036854775808=_
  omega
 have e17:τ.ival 17=(k:Int):=by
  rw [i17]
  show (((less L k).es.length:Int)- -9223372036854775808)%18446744073709551616+ -9223372036854775808=_
  omega
 refine ⟨fun _=>⟨fun _=>⟨fun _=>⟨fun _=>⟨fun f=> ?_,fun _=>⟨fun f=> ?_,fun _=> .inl ⟨rfl,rfl,Qbq (X:=Qg3) e hi (by kernel_rfl) (by kernel_rfl),⟨L,k,0,v0,hk,rfl,Nat.zero_le _,e10,e17,s9,s16,ok⟩,tabS ht⟩⟩⟩,fun f=> ?_⟩,fun f=>tr b7 f (by omega)⟩,fun f=> ?_⟩,fun f=>tr b4 f (by omega)⟩
 ·rw [b23,e17,v0] at f
  simp at f
 ·rw [b24,decide_eq_true_eq] at f
  omega
 ·rw [b8] at f
  cases f
 ·rw [b5] at f
  cases f
theorem stB2 {W:World}:Qg Tryd.prog Qb 159 W (WZ W) ((Qf (Qd Tryd.f7)).drop 5) Qs3 8 Qv4 (fun σ=> ∃L k,J7d L k σ):=by
 rw [show (Qf (Qd Tryd.f7)).drop 5=((Qf (Qd Tryd.f7)).drop 5).take 7++(Qf (Qd Tryd.f7)).drop 12 from rfl]
 refine Qg.seg mixed Qbec ⟨rfl,rfl⟩ (fun σ τ ag ⟨L,k,h⟩=>⟨L,k,h.agree ag⟩) (fun τ h=>Qbp) stC (fun τ e ht hi hj=> ?_)
 obtain ⟨L,k,v0,hk,s1,v2,v3,v4,v5,v6,v7,ok⟩:=hj
 refine Qbf ?_
 have b8:τ.bval 8=decide ((0:Int)<=τ.ival 2):=eqB (e.at 0 _ rfl rfl) rfl
 have b9:τ.bval 9=decide (τ.ival 2<=τ.ival 2):=eqB (e.at 1 _ rfl rfl) rfl
 have b10:τ.bval 10=decide (τ.ival 2<=1000000):=eqB (e.at 2 _ rfl rfl) rfl
 have b11:τ.bval 11=decide (τ.ival 2<=1000):=eqB (e.at 3 _ rfl rfl) rfl
 have b12:τ.bval 12= !(τ.tab 448 [τ.ival 3,encB (τ.sval 1),τ.ival 2,τ.ival 4,τ.ival 5,τ.ival 6,τ.ival 7]==0):=Qh9 (e.at 4 _ rfl rfl)
 have b13:τ.bval 13=decide ((0:Int)<=τ.ival 0):=eqB (e.at 5 _ rfl rfl) rfl
 have b14:τ.bval 14=decide (τ.ival 0<=τ.ival 2):=eqB (e.at 6 _ rfl rfl) rfl
 have b15:τ.bval 15=decide (τ.ival 0<=1000):=eqB (e.at 7 _ rfl rfl) rfl
 have b16:τ.bval 16=decide (τ.ival 0>0):=eqB (e.at 8 _ rfl rfl) rfl
 have i17:τ.ival 17=IntKind.i64.wrap (τ.ival 0-1):=eqI (e.at 9 _ rfl rfl) rfl
 have b18:τ.bval 18=decide ((0:Int)<=τ.ival 17):=eqB (e.at 10 _ rfl rfl) rfl
 have b19:τ.bval 19=decide (τ.ival 17<τ.ival 2):=eqB (e.at 11 _ rfl rfl) rfl
 have i20:τ.ival 20=(rowE (τ.sval 1) (τ.ival 17:Int).toNat).r:=Qcf (e.at 12 _ rfl rfl) rfl
 have i21:τ.ival 21=(rowE (τ.sval 1) (τ.ival 17:Int).toNat).b:=Qcf (e.at 13 _ rfl rfl) rfl
 have b22:τ.bval 22= !(τ.tab 448 [τ.ival 3,encB (τ.sval 1),τ.ival 0,0,τ.ival 20,τ.ival 21,0]==0):=Qh9 (e.at 14 _ rfl rfl)
 have b23:τ.bval 23= !(τ.tab 448 [τ.ival 3,encB (τ.sval 1),τ.ival 0,0,0,0,0]==0):=Qh9 (e.at 15 _ rfl rfl)
 have s26:τ.sval 26=decS (τ.tab 512 [τ.ival 3,encB (τ.sval 1),τ.ival 2,τ.ival 4,τ.ival 5,τ.ival 6,τ.ival 7]):=eqFs (e.at 18 _ rfl rfl)
 have s27:τ.sval 27=decS (τ.tab 512 [τ.ival 3,encB (τ.sval 1),τ.ival 0,0,τ.ival 20,τ.ival 21,0]):=eqFs (e.at 19 _ rfl rfl)
 have i28:τ.ival 28=((τ.sval 27).size:Nat):=Qb3 (e.at 20 _ rfl rfl)
 have b29:τ.bval 29=decide (τ.ival 28<13):=eqB (e.at 21 _ rfl rfl) rfl
 have i30:τ.ival 30=((τ.sval 26).size:Nat):=Qb3 (e.at 22 _ rfl rfl)
 have i31:τ.ival 31=IntKind.i64.wrap (τ.ival 28-6):=eqI (e.at 23 _ rfl rfl) rfl
 have b32:τ.bval 32=decide (τ.ival 30<τ.ival 31):=eqB (e.at 24 _ rfl rfl) rfl
 have b33:τ.bval 33=decide ((0:Int)<=τ.ival 31):=eqB (e.at 25 _ rfl rfl) rfl
 have b34:τ.bval 34=decide (τ.ival 31<=τ.ival 30):=eqB (e.at 26 _ rfl rfl) rfl
 have s35:τ.sval 35=(τ.sval 26).extract (0:Int).toNat (τ.ival 31:Int).toNat:=Qdz (e.at 27 _ rfl rfl) rfl rfl
 have b36:τ.bval 36=decide (τ.ival 31<=τ.ival 28):=eqB (e.at 28 _ rfl rfl) rfl
 have s37:τ.sval 37=(τ.sval 27).extract (0:Int).toNat (τ.ival 31:Int).toNat:=Qdz (e.at 29 _ rfl rfl) rfl rfl
 have b38:τ.bval 38= !((τ.sval 35).toList==(τ.sval 37).toList):=eqB (e.at 30 _ rfl rfl) rfl
 have i39:τ.ival 39=IntKind.i64.wrap (τ.ival 28-1):=eqI (e.at 31 _ rfl rfl) rfl
 have b40:τ.bval 40=decide (τ.ival 31<=τ.ival 39):=eqB (e.at 32 _ rfl rfl) rfl
 have b41:τ.bval 41=decide (τ.ival 39<=τ.ival 28):=eqB (e.at 33 _ rfl rfl) rfl
 have s42:τ.sval 42=(τ.sval 27).extract (τ.ival 31:Int).toNat (τ.ival 39:Int).toNat:=Qdz (e.at 34 _ rfl rfl) rfl rfl
 have s44:τ.sval 44=decS (τ.tab 512 [τ.ival 3,encB (τ.sval 1),τ.ival 0,0,0,0,0]):=eqFs (e.at 36 _ rfl rfl)
 have i45:τ.ival 45=((τ.sval 44).size:Nat):=Qb3 (e.at 37 _ rfl rfl)
 have b46:τ.bval 46=decide (τ.ival 45<13):=eqB (e.at 38 _ rfl rfl) rfl
 have i47:τ.ival 47=IntKind.i64.wrap (τ.ival 45-6):=eqI (e.at 39 _ rfl rfl) rfl
 have b48:τ.bval 48=decide (τ.ival 30<τ.ival 47):=eqB (e.at 40 _ rfl rfl) rfl
 have b49:τ.bval 49=decide ((0:Int)<=τ.ival 47):=eqB (e.at 41 _ rfl rfl) rfl
 have b50:τ.bval 50=decide (τ.ival 47<=τ.ival 30):=eqB (e.at 42 _ rfl rfl) rfl
 have s51:τ.sval 51=(τ.sval 26).extract (0:Int).toNat (τ.ival 47:Int).toNat:=Qdz (e.at 43 _ rfl rfl) rfl rfl
 have b52:τ.bval 52=decide (τ.ival 47<=τ.ival 45):=eqB (e.at 44 _ rfl rfl) rfl
 have s53:τ.sval 53=(τ.sval 44).extract (0:Int).toNat (τ.ival 47:Int).toNat:=Qdz (e.at 45 _ rfl rfl) rfl rfl
 have b54:τ.bval 54= !((τ.sval 51).toList==(τ.sval 53).toList):=eqB (e.at 46 _ rfl rfl) rfl
 have i55:τ.ival 55=IntKind.i64.wrap (τ.ival 45-1):=eqI (e.at 47 _ rfl rfl) rfl
 have b56:τ.bval 56=decide (τ.ival 47<=τ.ival 55):=eqB (e.at 48 _ rfl rfl) rfl
 have b57:τ.bval 57=decide (τ.ival 55<=τ.ival 45):=eqB (e.at 49 _ rfl rfl) rfl
 have s58:τ.sval 58=(τ.sval 44).extract (τ.ival 47:Int).toNat (τ.ival 55:Int).toNat:=Qdz (e.at 50 _ rfl rfl) rfl rfl
 have b43:τ.bval 43= !((τ.sval 42).toList==(⟨#[255,0,0,0,0]⟩:ByteArray).toList):=eqB (e.at 35 _ rfl rfl) rfl
 have b59:τ.bval 59= !((τ.sval 58).toList==(⟨#[255,0,0,0,0]⟩:ByteArray).toList):=eqB (e.at 51 _ rfl rfl) rfl
 have tr: ∀{P:Prop} {b:Bool} [Decidable P],b=decide P->b=false->P->False:=fun hb hf hp=>by rw [hb,decide_eq_false_iff_not] at hf;exact hf hp
 have trT: ∀{P:Prop} {b:Bool} [Decidable P],b=decide P->b=true-> ¬P->False:=fun hb hf hp=>by rw [hb,decide_eq_true_eq] at hf;exact hp hf
 have ok2:=ok.less k
 have hl:=ok.len
 have hp:=ok.pre_le hk
 have hm:=Qbh1 L k
 have h7:=Qbc8 L k
 have hW:(⟨#[255,0,0,0,0]⟩:ByteArray)=bs [255,0,0,0,0]:=rfl
 rw [hW] at b43 b59
 have r12:τ.bval 12=true:=by
  rw [b12,ht,s1,v2,Qq6,ok.lst,v3,v4,v5,v6,v7]
  exact ok.rt
 rw [ht,s1,v2,Qp6,ok.lst,v3,v4,v5,v6,v7] at s26
 rw [s26] at i30
 have i30:τ.ival 30=((bs (encG L)).size:Nat):=i30
 refine ⟨fun _=>⟨fun _=>⟨fun _=>⟨fun _=>⟨fun _=>⟨fun _=>⟨fun _=>⟨fun _=>⟨fun f16=> ?_,fun f16=> ?_⟩,fun f=>tr b15 f (by omega)⟩,fun f=>tr b14 f (by omega)⟩,fun f=>tr b13 f (by omega)⟩,fun f=>by rw [r12] at f;cases f⟩,fun f=>tr b11 f (by omega)⟩,fun f=>tr b10 f (by omega)⟩,fun f=>tr b9 f (by omega)⟩,fun f=>tr b8 f (by omega)⟩
 ·rw [b16,decide_eq_true_eq] at f16
  rw [Qh] at i17
  have e17:τ.ival 17=((k-1:Nat):Int):=by omega
  rw [s1,e17,Int.toNat_natCast,<-ok.last hk (by omega)] at i20 i21
  have r22:τ.bval 22=true:=by
   rw [b22,ht,s1,v0,Qq6,ok.take hk,v3,i20,i21]
   exact ok2.rt
  have hs:τ.sval 27=bs (encG (less L k)):=by
   rw [s27,ht,s1,v0,Qp6,ok.take hk,v3,i20,i21]
   rfl
  generalize hpp:(pre L k).length=p at*
  rw [hs] at i28
  rw [Q0g] at i28
  rw [Qh] at i31 i39
  have e31:τ.ival 31=(p:Int):=by omega
  have e39:τ.ival 39=((p+5:Nat):Int):=by omega
  rw [s26,e31,Int.toNat_natCast,Int.toNat_zero,<-hpp,Qzt] at s35
  rw [hs,e31,Int.toNat_natCast,Int.toNat_zero,<-hpp,Q5s] at s37
  rw [hs,e31,e39,Int.toNat_natCast,Int.toNat_natCast,<-hpp,Qz8] at s42
  refine ⟨fun _=>⟨fun _=>⟨fun _=>⟨fun f=>trT b29 f (by omega),fun _=>⟨fun f=>trT b32 f (by omega),fun _=>⟨fun _=>⟨fun _=>⟨fun _=>⟨fun f=> ?_,fun _=>⟨fun _=>⟨fun _=>⟨fun f=> ?_,fun _=> .inl ⟨rfl,rfl,Qbq (X:=Qfk) e hi (by kernel_rfl) (by kernel_rfl),⟨L,k,v0,hk,s26,hs,ok⟩,tabS ht⟩⟩,fun f=>tr b41 f (by omega)⟩,fun f=>tr b40 f (by omega)⟩⟩,fun f=>tr b36 f (by omega)⟩,fun f=>tr b34 f (by omega)⟩,fun f=>tr b33 f (by omega)⟩⟩⟩,fun f=>by rw [r22] at f;cases f⟩,fun f=>tr b19 f (by omega)⟩,fun f=>tr b18 f (by omega)⟩
  ·rw [b38,s35,s37] at f
   simp at f
  ·rw [b43,s42] at f
   simp at f
 ·rw [b16,decide_eq_false_iff_not] at f16
  obtain rfl:k=0:=by omega
  have r23:τ.bval 23=true:=by
   rw [b23,ht,s1,v0,Qq6,ok.take hk,v3]
   exact ok2.rt
  have hs:τ.sval 44=bs (encG (less L 0)):=by
   rw [s44,ht,s1,v0,Qp6,ok.take hk,v3]
   rfl
  generalize hpp:(pre L 0).length=p at*
  rw [hs] at i45
  rw [Q0g] at i45
  rw [Qh] at i47 i55
  have e31:τ.ival 47=(p:Int):=by omega
  have e39:τ.ival 55=((p+5:Nat):Int):=by omega
  rw [s26,e31,Int.toNat_natCast,Int.toNat_zero,<-hpp,Qzt] at s51
  rw [hs,e31,Int.toNat_natCast,Int.toNat_zero,<-hpp,Q5s] at s53
  rw [hs,e31,e39,Int.toNat_natCast,Int.toNat_natCast,<-hpp,Qz8] at s58
  refine ⟨fun _=>⟨fun f=>trT b46 f (by omega),fun _=>⟨fun f=>trT b48 f (by omega),fun _=>⟨fun _=>⟨fun _=>⟨fun _=>⟨fun f=> ?_,fun _=>⟨fun _=>⟨fun _=>⟨fun f=> ?_,fun _=> .inl ⟨rfl,rfl,Qbq (X:=Qfk) e hi (by kernel_rfl) (by kernel_rfl),⟨L,0,v0,hk,s26,hs,ok⟩,tabS ht⟩⟩,fun f=>tr b57 f (by omega)⟩,fun f=>tr b56 f (by omega)⟩⟩,fun f=>tr b52 f (by omega)⟩,fun f=>tr b50 f (by omega)⟩,fun f=>tr b49 f (by omega)⟩⟩⟩,fun f=>by rw [r23] at f;cases f⟩
  ·rw [b54,s51,s53] at f
   simp at f
  ·rw [b59,s58] at f
   simp at f
theorem stB1 {W:World}:Qg Tryd.prog Qb 159 W (WZ W) ((Qf (Qd Tryd.f7)).drop 4) Qp7 8 Qt0 (fun σ=> ∃L,J7a L σ):=by
 rw [show (Qf (Qd Tryd.f7)).drop 4=((Qf (Qd Tryd.f7)).drop 4).take 1++(Qf (Qd Tryd.f7)).drop 5 from rfl]
 refine Qg.seg mixed Qbei ⟨rfl,rfl⟩ (fun σ τ ag ⟨L,h⟩=>⟨L,h.agree ag⟩) (fun τ h=>Qbp) stB2 (fun τ e ht hi hj=> ?_)
 obtain ⟨L,s1,v2,v3,v4,v5,v6,v7,ok⟩:=hj
 refine Qbf ?_
 have i8:τ.ival 8=IntKind.i64.wrap (τ.ival 2+1):=eqI (e.at 0 _ rfl rfl) rfl
 have i9:τ.ival 9=IntKind.i64.wrap (τ.ival 0):=eqI (e.at 1 _ rfl rfl) rfl
 have hl:=ok.len
 have hf:=hi 0 .u8 (by decide) rfl
 rw [wr_u8] at hf
 rw [Qh] at i8 i9
 have e8:τ.ival 8=((L.es.length:Nat):Int)+1:=by omega
 have h0:τ.ival 8≠0:=by omega
 have i10:τ.ival 10=(τ.ival 9).tmod (τ.ival 8):=eqI (e 2 _ rfl (fun j hj=>by cases hj;exact h0)) (by simp [Qa,den,binS,intA,h0])
 rw [Int.tmod_eq_emod_of_nonneg (by omega)] at i10
 have h1:=Int.emod_nonneg (τ.ival 9) (show τ.ival 8≠0 by omega)
 have h2:=Int.emod_lt_of_pos (τ.ival 9) (show 0<τ.ival 8 by omega)
 rw [<-i10] at h1 h2
 refine ⟨fun f=>by omega,fun _=> .inl ⟨rfl,rfl,?_,⟨L,(τ.ival 10).toNat,?_,by omega,s1,v2,v3,v4,v5,v6,v7,ok⟩,tabS ht⟩⟩
 ·intro i k h hk
  have:i=0\/i=1\/i=2\/i=3\/i=4\/i=5\/i=6\/i=7:=by omega
  rcases this with rfl|rfl|rfl|rfl|rfl|rfl|rfl|rfl
  ·have hk:IntKind.i64=k:=Option.some.inj hk
   subst hk
   show IntKind.i64.wrap (τ.ival 10)=τ.ival 10
   rw [Qh];omega
  ·cases hk
  ·exact hi 2 k (by decide) hk
  ·exact hi 3 k (by decide) hk
  ·exact hi 4 k (by decide) hk
  ·exact hi 5 k (by decide) hk
  ·exact hi 6 k (by decide) hk
  ·exact hi 7 k (by decide) hk
 ·show τ.ival 10=_
  omega
end Go.Proofs.YtelimhjceiamcaaDoor.lg
