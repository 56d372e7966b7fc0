/-
 Contract of log.Encode: a log's bytes.
 No conditions.
-/
import Derived.Test.YtelimhjceiamcaaDoorBLg17
set_option maxRecDepth 100000
namespace Go.Proofs.YtelimhjceiamcaaDoor.lg
open Go.Ev Go.RowKit Go.Wbp Go.Lgp
open Go.Proofs.YtelimhjceiamcaaDoor.lgn (mixed sf48 Qda)
set_option linter.unusedVariables false
set_option linter.unusedSimpArgs false
def Qbes:Shape:=⟨argT 0 [lgA],[eL 6 7]⟩
def Qje:Shape:=⟨[(1,.ptr 1 0),(4,.lsl 3 1 true (.int .i64 0) (.symi .i64 14)),(6,.ptr 2 0),(28,eS),(29,.symi .i64 1),(30,.symi .i64 8)],[eL 6 7,.cells lgC 26,.cells [.symi .u64 9,.symi .u64 10,.symi .i64 11,.symi .u8 12] 61,bl 13 14]⟩
def Qpu:List (Option IntKind):=lgK++[some .i64,some .u64,some .u64,some .i64,some .u8,none,some .i64]
def Qur:List (Option IntKind):=lgK++[none,some .u64,some .u64,some .i64,some .u8,none,some .i64]
def Qut:Shape:=⟨[(1,.ptr 1 0),(4,.lsl 3 1 true (.int .i64 0) (.symi .i64 14)),(6,.ptr 2 0),(28,eS)],[eL 6 7,.cells lgC 26,.cells [.symi .u64 9,.symi .u64 10,.symi .i64 11,.symi .u8 12] 61,bl 13 14]⟩
def Q2p:Shape:=⟨[(2,.syms 8),(3,.int .i64 0),(28,eS)],[eL 6 7]⟩
def sf15:SymF:=
 {f:=15,m:=8,ins:=lgK,args:=[lgA],pre:=[eL 6 7],pcs:=lgQ++[.fnb 448 lgF,.bin .leq (.symi .i64 1) (.int .i64 1000)],G:=[.sop (.fs 512) lgF],v:=.tuple [.syms 8,.int .i64 0],post:=[eL 6 7]}
def Qlu:List SDef:=[.bin .leq (.int .i64 0) (.symi .i64 1),
 .bin .leq (.symi .i64 1) (.symi .i64 7),
 .bin .leq (.symi .i64 7) (.int .i64 1000000),
 .fnb 448 [.symi .u32 0,.syms 6,.symi .i64 1,.symi .i64 2,.symi .u64 3,.symi .u64 4,.symi .i64 5],
 .bin .shr (.symi .u32 0) (.int .i64 24),
 .conv .u8 (.symi .u32 12),
 .sop (.row [.some .u8,.some .u8,.some .u8]) [.int .u8 80,.int .u8 76,.int .u8 1],
 .sop (.row [.some .u8]) [.symi .u8 13],
 .sop .cat [.syms 14,.syms 15],
 .bin .shr (.symi .u32 0) (.int .i64 16),
 .conv .u8 (.symi .u32 17),
 .sop (.row [.some .u8]) [.symi .u8 18],
 .sop .cat [.syms 16,.syms 19],
 .bin .shr (.symi .u32 0) (.int .i64 8),
 .conv .u8 (.symi .u32 21),
 .sop (.row [.some .u8]) [.symi .u8 22],
 .sop .cat [.syms 20,.syms 23],
 .bin .shr (.symi .u32 0) (.int .i64 0),
 .conv .u8 (.symi .u32 25),
 .sop (.row [.some .u8]) [.symi .u8 26],
 .sop .cat [.syms 24,.syms 27]]
def Qt6:LT:=Go.Wbp.fT 8 Qlu (.n (.n (.n (.n (.n .e 10380 25 .e) 410660 21 .e) 810940 17 (.n (.n .e 1211220 12 .e) 7977499 14 .e)) 9180275 24 (.n (.n (.n .e 15523167 22 .e) 23528613 15 .e) 47051472 27 (.n .e 107225903 20 .e))) 162262213 13 (.n (.n (.n (.n .e 276146667 10 .e) 320878263 11 .e) 343383805 8 (.n (.n .e 357022124 9 .e) 427524403 26 .e)) 452791295 23 (.n (.n (.n .e 539283889 16 .e) 677263758 18 .e) 858531118 19 (.n .e 984876474 28 .e))))
def Qbbk:Sw:=.node 8 (.node 9 (.node 10 (.node 11 (.run (.leaf .normal Qje [(0,0),(1,0),(11,0),(10,0)] [(14,.int .i64 7),(1,.symi .i64 1),(1,.symi .i64 1),(8,.int .i64 0),(6,.syms 6),(7,.symi .i64 7),(0,.symi .u32 0),(1,.symi .i64 1),(2,.symi .i64 2),(3,.symi .u64 3),(4,.symi .u64 4),(5,.symi .i64 5),(9,.int .u64 0),(10,.int .u64 0),(11,.int .i64 0),(12,.int .u8 0),(13,.syms 28),(14,.int .i64 7)] [])) (.dead)) (.dead)) (.dead)) (.dead)
def Q1a:KdT:=.n (.n (.n (.n (.n .e none .e) (some .i64) (.n .e none .e)) (some .u64) (.n (.n .e none .e) none (.n .e none .e))) (some .i64) (.n (.n (.n .e (some .u32) .e) none (.n .e (some .u32) .e)) (some .i64) (.n (.n .e (some .u32) .e) (some .u8) .e))) (some .u32) (.n (.n (.n (.n .e none .e) none (.n .e none .e)) (some .u64) (.n (.n .e none .e) (some .u32) (.n .e none .e))) (some .i64) (.n (.n (.n .e (some .u8) .e) none (.n .e (some .u8) .e)) none (.n (.n .e (some .u8) .e) none .e)))
noncomputable def Q1b:Ing:={m:=8,ins:=lgK,G:=Qlu,T:=Qt6,tab:=Qa,lsts:=Qt,kb:=29,kt:=Q1a}
noncomputable def Qgz:Ing:={m:=8,ins:=lgK,G:=Qlu,T:=Qt6,tab:=Qa,lsts:=Qt,kb:=29,kt:=Q1a,mh:=Qbo (kdX Q1b) [sf17]}
theorem Q1c:okLT 8 Qlu Qt6=true:=by kernel_rfl
theorem Qbbm:okG Qlu 8=true:=by kernel_rfl
theorem Qbbl (F:List Fact):Hooks Tryd.prog (cxOf Qgz F) where
 val:=fun f args v h=>by simp only [Qgz,cxOf,Qc8,reduceCtorEq] at h
 mem:=fun f args hp v hp' h=>by
  replace h:(Qbo (kdX Q1b) [sf17]) (symS (Qq Qgz F)) f args hp=some (v,hp'):=h
  exact Qf4 (X:=Qgz) (tbl:=[sf17]) (inv:=fun _=>True) (fun e he=>by
   simp only [List.mem_cons,List.not_mem_nil,or_false] at he
   rcases he with rfl
   ·exact c17
   ) Q1c rfl (fun _ _ _ _=>trivial) F f args hp v hp' h
 ovl:=fun f k h=>by simp only [Qgz,cxOf,reduceCtorEq] at h
 atm:=fun k b h=>by simp only [Qgz,cxOf,List.not_mem_nil] at h
theorem Qbbn:SegOk Tryd.prog Qa 68 ((Qe (Qc Tryd.f15)).take 8) Qbes Qgz Qbbk where
 lt:=Q1c
 ok:=Qbbm
 hook:=Qbbl
 n0:=rfl
 id:=by kernel_rfl
 reck:=by kernel_rfl
 tab:=rfl
 cuts:=rfl
 kt:=by kernel_rfl
def Qlv:List SDef:=[.bin .lss (.symi .i64 8) (.symi .i64 1),
 .bin .lss (.symi .i64 8) (.symi .i64 7),
 .bin .leq (.int .i64 0) (.symi .i64 14),
 .bin .leq (.symi .i64 14) (.int .i64 900000),
 .sop (.cell [.some .u64,.some .u64,.some .i64,.some .u8] 0) [.syms 6,.symi .i64 8],
 .sop (.cell [.some .u64,.some .u64,.some .i64,.some .u8] 1) [.syms 6,.symi .i64 8],
 .sop (.cell [.some .u64,.some .u64,.some .i64,.some .u8] 2) [.syms 6,.symi .i64 8],
 .sop (.cell [.some .u64,.some .u64,.some .i64,.some .u8] 3) [.syms 6,.symi .i64 8],
 .conv .u8 (.symi .i64 21),
 .sop (.row [.some .u8]) [.symi .u8 23],
 .sop .cat [.syms 13,.syms 24],
 .bin .add (.symi .i64 14) (.int .i64 1),
 .bin .sub (.symi .u64 19) (.symi .u64 9),
 .bin .leq (.int .i64 0) (.symi .i64 26),
 .bin .leq (.symi .i64 26) (.int .i64 1000000),
 .sop (.fs 192) [.symi .u64 27],
 .sop .cat [.syms 25,.syms 30],
 .fn 193 .i64 [.symi .u64 27],
 .bin .add (.symi .i64 26) (.symi .i64 32),
 .bin .sub (.symi .u64 20) (.symi .u64 10),
 .bin .leq (.int .i64 0) (.symi .i64 33),
 .bin .leq (.symi .i64 33) (.int .i64 1000000),
 .sop (.fs 192) [.symi .u64 34],
 .sop .cat [.syms 31,.syms 37],
 .fn 193 .i64 [.symi .u64 34],
 .bin .add (.symi .i64 33) (.symi .i64 39),
 .sop (.row [.some .u8]) [.symi .u8 22],
 .sop .cat [.syms 38,.syms 41],
 .bin .add (.symi .i64 40) (.int .i64 1),
 .sop .len [.syms 42],
 .bin .leq (.symi .i64 44) (.int .i64 1000000),
 .bin .leq (.int .i64 0) (.symi .i64 8),
 .bin .leq (.symi .i64 26) (.int .i64 140737488355328),
 .bin .leq (.int .i64 0) (.symi .i64 43),
 .bin .leq (.symi .i64 43) (.int .i64 140737488355328),
 .bin .lss (.int .i64 0) (.symi .i64 43),
 .fn 384 .u8 [.syms 42],
 .sop (.row [.some .u8]) [.symi .u8 51],
 .sop .cat [.syms 42,.syms 52],
 .bin .add (.symi .i64 43) (.int .i64 1),
 .bin .leq (.int .i64 0) (.symi .i64 54),
 .bin .leq (.symi .i64 54) (.int .i64 140737488355328),
 .bin .add (.symi .i64 8) (.int .i64 1)]
def Qt7:LT:=Go.Wbp.fT 15 Qlv (.n (.n (.n (.n (.n (.n .e 15523167 23 .e) 47668770 29 .e) 48106073 54 (.n (.n .e 77644597 15 .e) 84863043 34 .e)) 131324965 47 (.n (.n (.n .e 133516500 51 .e) 159058854 39 .e) 214243975 30 (.n .e 238743867 38 .e))) 274616096 18 (.n (.n (.n (.n .e 276789873 53 .e) 287512380 55 .e) 309505655 37 (.n (.n .e 315797930 32 .e) 337288639 28 .e)) 340322767 26 (.n (.n (.n .e 452791295 41 .e) 512013011 17 .e) 542408004 19 (.n .e 542408006 20 .e)))) 542408008 21 (.n (.n (.n (.n (.n .e 542408010 22 .e) 571815642 44 .e) 577329895 31 (.n (.n .e 593280031 35 .e) 599375197 46 .e)) 617702467 40 (.n (.n (.n .e 619791796 24 .e) 641716776 42 .e) 714250989 27 (.n .e 728450781 33 .e))) 754670891 36 (.n (.n (.n (.n .e 774588289 49 .e) 791932397 45 .e) 796103090 25 (.n (.n .e 805590323 50 .e) 805590330 48 .e)) 808062776 57 (.n (.n (.n .e 811849795 56 .e) 818846991 43 .e) 1000838516 52 (.n .e 1064024238 16 .e)))))
def Qbbo:Sw:=.node 15 (.node 16 (.node 17 (.node 18 (.node 28 (.node 29 (.node 35 (.node 36 (.node 45 (.node 46 (.node 47 (.node 48 (.node 49 (.node 50 (.node 55 (.node 56 (.run (.leaf .normal Qje [(0,0),(1,0),(2,0),(14,0)] [(14,.symi .i64 54),(1,.symi .i64 1),(1,.symi .i64 1),(8,.symi .i64 57),(6,.syms 6),(7,.symi .i64 7),(0,.symi .u32 0),(1,.symi .i64 1),(2,.symi .i64 2),(3,.symi .u64 3),(4,.symi .u64 4),(5,.symi .i64 5),(9,.symi .u64 19),(10,.symi .u64 20),(11,.symi .i64 21),(12,.symi .u8 22),(13,.syms 53),(14,.symi .i64 54)] [])) (.dead)) (.dead)) (.dead)) (.dead)) (.dead)) (.dead)) (.dead)) (.dead)) (.dead)) (.dead)) (.dead)) (.dead)) (.dead)) (.dead)) (.dead)) (.run (.leaf (.exit 2) Qut [(0,0),(1,0),(2,0),(3,0)] [(14,.symi .i64 14),(1,.symi .i64 1),(6,.syms 6),(7,.symi .i64 7),(0,.symi .u32 0),(1,.symi .i64 1),(2,.symi .i64 2),(3,.symi .u64 3),(4,.symi .u64 4),(5,.symi .i64 5),(9,.symi .u64 9),(10,.symi .u64 10),(11,.symi .i64 11),(12,.symi .u8 12),(13,.syms 13),(14,.symi .i64 14)] []))
def Q1d:KdT:=.n (.n (.n (.n (.n (.n .e none .e) none (.n .e none .e)) (some .i64) (.n (.n .e (some .i64) .e) (some .u8) (.n .e none .e))) (some .u64) (.n (.n (.n .e none .e) (some .u64) (.n .e (some .u8) .e)) (some .i64) (.n (.n .e (some .i64) .e) (some .u64) .e))) (some .i64) (.n (.n (.n (.n .e (some .i64) .e) none (.n .e none .e)) (some .u64) (.n (.n .e none .e) none (.n .e (some .i64) .e))) (some .i64) (.n (.n (.n .e none .e) (some .i64) (.n .e none .e)) none (.n (.n .e none .e) none .e)))) (some .u32) (.n (.n (.n (.n (.n .e (some .i64) .e) none (.n .e none .e)) (some .i64) (.n (.n .e (some .i64) .e) none (.n .e none .e))) (some .u64) (.n (.n (.n .e none .e) (some .u64) (.n .e none .e)) (some .u8) (.n (.n .e none .e) none .e))) (some .i64) (.n (.n (.n (.n .e (some .u64) .e) none (.n .e none .e)) (some .u64) (.n (.n .e none .e) (some .i64) .e)) none (.n (.n (.n .e none .e) (some .u8) (.n .e (some .i64) .e)) (some .i64) (.n (.n .e none .e) none .e))))
noncomputable def Q1e:Ing:={m:=15,ins:=Qpu,G:=Qlv,T:=Qt7,tab:=Qa,lsts:=Qt,kb:=58,kt:=Q1d}
noncomputable def Qfv:Ing:={m:=15,ins:=Qpu,G:=Qlv,T:=Qt7,tab:=Qa,lsts:=Qt,kb:=58,kt:=Q1d,mh:=Qbo (kdX Q1e) [sf9,sf20]}
theorem Q1f:okLT 15 Qlv Qt7=true:=by kernel_rfl
theorem Qbbq:okG Qlv 15=true:=by kernel_rfl
theorem Qbbp (F:List Fact):Hooks Tryd.prog (cxOf Qfv F) where
 val:=fun f args v h=>by simp only [Qfv,cxOf,Qc8,reduceCtorEq] at h
 mem:=fun f args hp v hp' h=>by
  replace h:(Qbo (kdX Q1e) [sf9,sf20]) (symS (Qq Qfv F)) f args hp=some (v,hp'):=h
  exact Qf4 (X:=Qfv) (tbl:=[sf9,sf20]) (inv:=fun _=>True) (fun e he=>by
   simp only [List.mem_cons,List.not_mem_nil,or_false] at he
   rcases he with rfl|rfl
   ·exact p9.c9
   ·exact c20
   ) Q1f rfl (fun _ _ _ _=>trivial) F f args hp v hp' h
 ovl:=fun f k h=>by simp only [Qfv,cxOf,reduceCtorEq] at h
 atm:=fun k b h=>by simp only [Qfv,cxOf,List.not_mem_nil] at h
theorem Qbbr:SegOk Tryd.prog Qa 68 ([Qu8 8 (Qc Tryd.f15)]) Qje Qfv Qbbo where
 lt:=Q1f
 ok:=Qbbq
 hook:=Qbbp
 n0:=rfl
 id:=by kernel_rfl
 reck:=by kernel_rfl
 tab:=rfl
 cuts:=rfl
 kt:=by kernel_rfl
def Qlw:List SDef:=[.bin .leq (.int .i64 0) (.symi .i64 14),
 .bin .leq (.symi .i64 14) (.int .i64 900000),
 .sop (.row [.some .u8]) [.int .u8 255],
 .sop .cat [.syms 13,.syms 17],
 .bin .add (.symi .i64 14) (.int .i64 1),
 .conv .u64 (.symi .i64 2),
 .bin .leq (.int .i64 0) (.symi .i64 19),
 .bin .leq (.symi .i64 19) (.int .i64 1000000),
 .sop (.fs 192) [.symi .u64 20],
 .sop .cat [.syms 18,.syms 23],
 .fn 193 .i64 [.symi .u64 20],
 .bin .add (.symi .i64 19) (.symi .i64 25),
 .bin .sub (.symi .u64 3) (.symi .u64 9),
 .bin .leq (.int .i64 0) (.symi .i64 26),
 .bin .leq (.symi .i64 26) (.int .i64 1000000),
 .sop (.fs 192) [.symi .u64 27],
 .sop .cat [.syms 24,.syms 30],
 .fn 193 .i64 [.symi .u64 27],
 .bin .add (.symi .i64 26) (.symi .i64 32),
 .bin .sub (.symi .u64 4) (.symi .u64 10),
 .bin .leq (.int .i64 0) (.symi .i64 33),
 .bin .leq (.symi .i64 33) (.int .i64 1000000),
 .sop (.fs 192) [.symi .u64 34],
 .sop .cat [.syms 31,.syms 37],
 .fn 193 .i64 [.symi .u64 34],
 .bin .add (.symi .i64 33) (.symi .i64 39),
 .conv .u8 (.symi .i64 5),
 .sop (.row [.some .u8]) [.symi .u8 41],
 .sop .cat [.syms 38,.syms 42],
 .bin .add (.symi .i64 40) (.int .i64 1),
 .sop .len [.syms 43],
 .bin .leq (.symi .i64 45) (.int .i64 1000000),
 .bin .leq (.symi .i64 19) (.int .i64 140737488355328),
 .bin .leq (.int .i64 0) (.symi .i64 44),
 .bin .leq (.symi .i64 44) (.int .i64 140737488355328),
 .bin .lss (.int .i64 0) (.symi .i64 44),
 .fn 384 .u8 [.syms 43],
 .sop (.row [.some .u8]) [.symi .u8 51],
 .sop .cat [.syms 43,.syms 52],
 .bin .add (.symi .i64 44) (.int .i64 1),
 .bin .leq (.int .i64 0) (.symi .i64 54),
 .bin .leq (.symi .i64 54) (.int .i64 140737488355328),
 .bin .lss (.int .i64 0) (.symi .i64 54)]
def Qt8:LT:=Go.Wbp.fT 15 Qlw (.n (.n (.n (.n (.n (.n .e 218345 17 .e) 47668770 29 .e) 75202074 50 (.n (.n .e 75202081 48 .e) 81297247 21 .e)) 118982295 23 (.n (.n (.n .e 149106376 54 .e) 159058854 39 .e) 171987968 27 (.n .e 206000950 20 .e))) 214243975 30 (.n (.n (.n (.n .e 238743867 38 .e) 264521347 51 .e) 274616096 16 (.n (.n .e 287512373 57 .e) 287512380 55 .e)) 309505655 37 (.n (.n (.n .e 315797930 32 .e) 337288639 28 .e) 340322767 19 (.n .e 404575333 42 .e)))) 410323716 31 (.n (.n (.n (.n (.n .e 414408476 22 .e) 443796052 53 .e) 450199190 43 (.n (.n .e 472537006 25 .e) 498064671 47 .e)) 512013011 15 (.n (.n (.n .e 515001877 41 .e) 593280031 35 .e) 616341849 34 (.n .e 617702467 40 .e))) 728450781 33 (.n (.n (.n (.n .e 738821821 45 .e) 748909744 24 .e) 754670891 36 (.n (.n .e 811849795 56 .e) 818846991 44 .e)) 839199095 26 (.n (.n (.n .e 875588592 49 .e) 892932700 46 .e) 1000838516 52 (.n .e 1062984365 18 .e)))))
def Qbbs:Sw:=.node 15 (.node 16 (.node 21 (.node 22 (.node 28 (.node 29 (.node 35 (.node 36 (.node 46 (.node 47 (.node 48 (.node 49 (.node 50 (.node 55 (.node 56 (.node 57 (.run (.leaf .ret Q2p [(0,0)] [(8,.syms 53),(1,.symi .i64 1),(6,.syms 6),(7,.symi .i64 7)] [])) (.dead)) (.dead)) (.dead)) (.dead)) (.dead)) (.dead)) (.dead)) (.dead)) (.dead)) (.dead)) (.dead)) (.dead)) (.dead)) (.dead)) (.dead)) (.dead)
def Q1g:KdT:=.n (.n (.n (.n (.n (.n .e none .e) none (.n .e none .e)) (some .i64) (.n (.n .e (some .i64) .e) none (.n .e none .e))) (some .u64) (.n (.n (.n .e none .e) (some .i64) (.n .e (some .u8) .e)) (some .i64) (.n (.n .e none .e) (some .u64) .e))) (some .i64) (.n (.n (.n (.n .e (some .i64) .e) none (.n .e none .e)) (some .u64) (.n (.n .e (some .u8) .e) (some .i64) (.n .e none .e))) (some .i64) (.n (.n (.n .e none .e) none (.n .e none .e)) none (.n (.n .e none .e) none .e)))) (some .u32) (.n (.n (.n (.n (.n .e (some .i64) .e) none (.n .e none .e)) none (.n (.n .e (some .i64) .e) none (.n .e none .e))) (some .u64) (.n (.n (.n .e none .e) (some .u64) (.n .e none .e)) (some .u8) (.n (.n .e (some .i64) .e) none .e))) (some .i64) (.n (.n (.n (.n .e (some .u64) .e) none (.n .e none .e)) (some .u64) (.n (.n .e none .e) (some .i64) .e)) none (.n (.n (.n .e none .e) none (.n .e (some .i64) .e)) (some .i64) (.n (.n .e none .e) none .e))))
noncomputable def Q1h:Ing:={m:=15,ins:=Qur,G:=Qlw,T:=Qt8,tab:=Qa,lsts:=Qt,kb:=58,kt:=Q1g}
noncomputable def Qhr:Ing:={m:=15,ins:=Qur,G:=Qlw,T:=Qt8,tab:=Qa,lsts:=Qt,kb:=58,kt:=Q1g,mh:=Qbo (kdX Q1h) [sf9,sf20]}
theorem Q1i:okLT 15 Qlw Qt8=true:=by kernel_rfl
theorem Qbbu:okG Qlw 15=true:=by kernel_rfl
theorem Qbbt (F:List Fact):Hooks Tryd.prog (cxOf Qhr F) where
 val:=fun f args v h=>by simp only [Qhr,cxOf,Qc8,reduceCtorEq] at h
 mem:=fun f args hp v hp' h=>by
  replace h:(Qbo (kdX Q1h) [sf9,sf20]) (symS (Qq Qhr F)) f args hp=some (v,hp'):=h
  exact Qf4 (X:=Qhr) (tbl:=[sf9,sf20]) (inv:=fun _=>True) (fun e he=>by
   simp only [List.mem_cons,List.not_mem_nil,or_false] at he
   rcases he with rfl|rfl
   ·exact p9.c9
   ·exact c20
   ) Q1i rfl (fun _ _ _ _=>trivial) F f args hp v hp' h
 ovl:=fun f k h=>by simp only [Qhr,cxOf,reduceCtorEq] at h
 atm:=fun k b h=>by simp only [Qhr,cxOf,List.not_mem_nil] at h
theorem Qbbv:SegOk Tryd.prog Qa 68 ((Qe (Qc Tryd.f15)).drop 9) Qut Qhr Qbbs where
 lt:=Q1i
 ok:=Qbbu
 hook:=Qbbt
 n0:=rfl
 id:=by kernel_rfl
 reck:=by kernel_rfl
 tab:=rfl
 cuts:=rfl
 kt:=by kernel_rfl
structure M15 (g:Sig) (C:ByteArray) (n N i:Nat) (σ:Sig):Prop where
 s:σ.sval 6=C
 n0:σ.ival 1=n
 nN:σ.ival 7=N
 v0:σ.ival 0=g.ival 0
 v2:σ.ival 2=g.ival 2
 v3:σ.ival 3=g.ival 3
 v4:σ.ival 4=g.ival 4
 v5:σ.ival 5=g.ival 5
 r:σ.ival 9=(Qm zeE C i).r
 b:σ.ival 10=(Qm zeE C i).b
 k:σ.ival 11=(Qm zeE C i).k
 v:σ.ival 12=(Qm zeE C i).v
 c:σ.sval 13=bs (encI (g.ival 0) C i)
 m:σ.ival 14=((encI (g.ival 0) C i).length:Nat)
 le:n<=N
 hi:i<=n
 sz:N<=1000000
 s1:n<=1000
 xe:σ.ext=g.ext
theorem M15.agree {g:Sig} {C:ByteArray} {n N i:Nat} {σ τ:Sig} (ag:Agree 15 σ τ) (h:M15 g C n N i σ):M15 g C n N i τ:=
 ⟨by rw [<-(ag.val 6 (by decide)).2.2];exact h.s,by rw [<-(ag.val 1 (by decide)).1];exact h.n0,by rw [<-(ag.val 7 (by decide)).1];exact h.nN,by rw [<-(ag.val 0 (by decide)).1];exact h.v0,by rw [<-(ag.val 2 (by decide)).1];exact h.v2,by rw [<-(ag.val 3 (by decide)).1];exact h.v3,by rw [<-(ag.val 4 (by decide)).1];exact h.v4,by rw [<-(ag.val 5 (by decide)).1];exact h.v5,by rw [<-(ag.val 9 (by decide)).1];exact h.r,by rw [<-(ag.val 10 (by decide)).1];exact h.b,by rw [<-(ag.val 11 (by decide)).1];exact h.k,by rw [<-(ag.val 12 (by decide)).1];exact h.v,by rw [<-(ag.val 13 (by decide)).2.2];exact h.c,by rw [<-(ag.val 14 (by decide)).1];exact h.m,h.le,h.hi,h.sz,h.s1,by rw [<-ag.ext];exact h.xe⟩
structure J15 (g:Sig) (C:ByteArray) (n N i:Nat) (σ:Sig):Prop where
 m:M15 g C n N i σ
 i0:σ.ival 8=i
theorem J15.agree {g:Sig} {C:ByteArray} {n N i:Nat} {σ τ:Sig} (ag:Agree 15 σ τ) (h:J15 g C n N i σ):J15 g C n N i τ:=
 ⟨h.m.agree ag,by rw [<-(ag.val 8 (by decide)).1];exact h.i0⟩
def L15:Asg:=[(8,.syms 8),(6,.syms 6),(7,.symi .i64 7)]
abbrev Z15 (g:Inj) (w:World):Exit->Act->World->Prop:=bodyPost Tryd.prog Tryd.f15 (MemR Qa sf15 g w)
theorem Qjp {C D E:ByteArray} {P:List Int} {x b:Int} {n m:Int} (hc:C=bs P) (hn:n=(P.length:Int)) (hd:D=bs [b%256]) (hb:b%256=x) (he:E=C++D) (hm:m=IntKind.i64.wrap (n+1)) (hl:P.length<=900000):E=bs (P++[x])/\m=((P++[x]).length:Int):=by
 rw [Qh] at hm
 rw [he,hc,hd,Qc0,hb]
 refine ⟨rfl,?_⟩
 simp only [List.length_append,List.length_cons,List.length_nil]
 omega
theorem Qmi {τ:Sig} (ht:τ.tab=Qa) {C D E:ByteArray} {P:List Int} {x y l:Int} {n m:Int} (hc:C=bs P) (hn:n=(P.length:Int)) (hd:D=decS (τ.tab 192 [y])) (hy:y=x%18446744073709551616) (he:E=C++D) (hk:l=IntKind.i64.wrap (τ.tab 193 [y])) (hm:m=IntKind.i64.wrap (n+l)) (hl:P.length<=900000):E=bs (P++pbL x)/\m=((P++pbL x).length:Int):=by
 have hp:=Qd6 x
 rw [ht,lg_pb,hy,Q4v] at hd
 rw [ht,lg_pl,hy,Q4v,Qh] at hk
 rw [Qh] at hm
 rw [he,hc,hd,Qc0]
 refine ⟨rfl,?_⟩
 rw [List.length_append]
 omega
theorem bs3 {a b c d:Int}:bs [80,76,1]++bs [a]++bs [b]++bs [c]++bs [d]=bs [80,76,1,a,b,c,d]:=by
 rw [Qc0,Qc0,Qc0,Qc0]
 rfl
set_option maxHeartbeats 1000000 in
theorem c15:SymFOk Tryd.prog Qa (fun _=>True) sf15:=
 Qel Tryd.func15 rfl (n:=68) rfl (by decide) (by decide) rfl rfl (by kernel_rfl) (fun g w hg _ hE hI hpc hH=>by
  have q0:=hpc (.bin .leq (.int .i64 0) (.symi .i64 1)) (by simp [sf15,lgQ])
  have q1:=hpc (.bin .leq (.symi .i64 1) (.symi .i64 7)) (by simp [sf15,lgQ])
  have q2:=hpc (.bin .leq (.symi .i64 7) (.int .i64 1000000)) (by simp [sf15,lgQ])
  have q3:=hpc (.bin .leq (.symi .i64 1) (.int .i64 1000)) (by simp [sf15,lgQ])
  have q4:=hpc (.fnb 448 lgF) (by simp [sf15,lgQ])
  simp only [Qb,den,binS,intA,if_true,Option.some.injEq,AVal.bool.injEq,decide_eq_true_eq] at q0 q1 q2 q3
  obtain ⟨n,hgn⟩: ∃n:Nat,g.sig.ival 1=n:=⟨(g.sig.ival 1).toNat,by omega⟩
  obtain ⟨N,hgN⟩: ∃n:Nat,g.sig.ival 7=n:=⟨(g.sig.ival 7).toNat,by omega⟩
  have g8:g.sig.sval 8=bs (encG (lgG g.sig n)):=by
   have h:g.sig.sval 8=decS (g.sig.tab 512 [g.sig.ival 0,encB (g.sig.sval 6),g.sig.ival 1,g.sig.ival 2,g.sig.ival 3,g.sig.ival 4,g.sig.ival 5]):=eqFs (hE.at 0 _ rfl rfl)
   rw [h,hg,hgn,Quz]
   rfl
  have hlast:Qf Tryd.prog Qa 68 (Qbh g w sf15.pre.length) (Z15 g w) ((Qe (Qc Tryd.f15)).drop 9) Qut 15 Qur (M15 g.sig (g.sig.sval 6) n N n):=by
   refine Qf.last mixed Qbbv ⟨rfl,rfl⟩ (fun σ τ ag h=>h.agree ag) (fun τ h=>Qbe) (fun τ e ht hi hj=> ?_) (pin0 (by kernel_rfl))
   refine Q6 ?_
   have hs1:=hj.s1
   have hlen:=Qn7 (g.sig.ival 0) (g.sig.sval 6) n
   have hm:=hj.m
   have s17:τ.sval 17=bs [255%256]:=Qev (e.at 2 _ rfl rfl) rfl
   have s18:τ.sval 18=τ.sval 13++τ.sval 17:=Qu (e.at 3 _ rfl rfl) rfl rfl
   have i19:τ.ival 19=IntKind.i64.wrap (τ.ival 14+1):=eqI (e.at 4 _ rfl rfl) rfl
   have i20:τ.ival 20=IntKind.u64.wrap (τ.ival 2):=eqI (e.at 5 _ rfl rfl) rfl
   have s23:τ.sval 23=decS (τ.tab 192 [τ.ival 20]):=eqFs (e.at 8 _ rfl rfl)
   have s24:τ.sval 24=τ.sval 18++τ.sval 23:=Qu (e.at 9 _ rfl rfl) rfl rfl
   have i25:τ.ival 25=IntKind.i64.wrap (τ.tab 193 [τ.ival 20]):=eqFn (e.at 10 _ rfl rfl)
   have i26:τ.ival 26=IntKind.i64.wrap (τ.ival 19+τ.ival 25):=eqI (e.at 11 _ rfl rfl) rfl
   have i27:τ.ival 27=IntKind.u64.wrap (τ.ival 3-τ.ival 9):=eqI (e.at 12 _ rfl rfl) rfl
   have s30:τ.sval 30=decS (τ.tab 192 [τ.ival 27]):=eqFs (e.at 15 _ rfl rfl)
   have s31:τ.sval 31=τ.sval 24++τ.sval 30:=Qu (e.at 16 _ rfl rfl) rfl rfl
   have i32:τ.ival 32=IntKind.i64.wrap (τ.tab 193 [τ.ival 27]):=eqFn (e.at 17 _ rfl rfl)
   have i33:τ.ival 33=IntKind.i64.wrap (τ.ival 26+τ.ival 32):=eqI (e.at 18 _ rfl rfl) rfl
   have i34:τ.ival 34=IntKind.u64.wrap (τ.ival 4-τ.ival 10):=eqI (e.at 19 _ rfl rfl) rfl
   have s37:τ.sval 37=decS (τ.tab 192 [τ.ival 34]):=eqFs (e.at 22 _ rfl rfl)
   have s38:τ.sval 38=τ.sval 31++τ.sval 37:=Qu (e.at 23 _ rfl rfl) rfl rfl
   have i39:τ.ival 39=IntKind.i64.wrap (τ.tab 193 [τ.ival 34]):=eqFn (e.at 24 _ rfl rfl)
   have i40:τ.ival 40=IntKind.i64.wrap (τ.ival 33+τ.ival 39):=eqI (e.at 25 _ rfl rfl) rfl
   have i41:τ.ival 41=IntKind.u8.wrap (τ.ival 5):=eqI (e.at 26 _ rfl rfl) rfl
   have s42:τ.sval 42=bs [τ.ival 41%256]:=Qev (e.at 27 _ rfl rfl) rfl
   have s43:τ.sval 43=τ.sval 38++τ.sval 42:=Qu (e.at 28 _ rfl rfl) rfl rfl
   have i44:τ.ival 44=IntKind.i64.wrap (τ.ival 40+1):=eqI (e.at 29 _ rfl rfl) rfl
   have i45:τ.ival 45=((τ.sval 43).size:Nat):=Qbm (e.at 30 _ rfl rfl)
   have i51:τ.ival 51=IntKind.u8.wrap (τ.tab 384 [encB (τ.sval 43)]):=eqFn (e.at 36 _ rfl rfl)
   have s52:τ.sval 52=bs [τ.ival 51%256]:=Qev (e.at 37 _ rfl rfl) rfl
   have s53:τ.sval 53=τ.sval 43++τ.sval 52:=Qu (e.at 38 _ rfl rfl) rfl rfl
   have i54:τ.ival 54=IntKind.i64.wrap (τ.ival 44+1):=eqI (e.at 39 _ rfl rfl) rfl
   have b15:τ.bval 15=decide ((0:Int)<=τ.ival 14):=eqB (e.at 0 _ rfl rfl) rfl
   have b16:τ.bval 16=decide (τ.ival 14<=900000):=eqB (e.at 1 _ rfl rfl) rfl
   have b21:τ.bval 21=decide ((0:Int)<=τ.ival 19):=eqB (e.at 6 _ rfl rfl) rfl
   have b22:τ.bval 22=decide (τ.ival 19<=1000000):=eqB (e.at 7 _ rfl rfl) rfl
   have b28:τ.bval 28=decide ((0:Int)<=τ.ival 26):=eqB (e.at 13 _ rfl rfl) rfl
   have b29:τ.bval 29=decide (τ.ival 26<=1000000):=eqB (e.at 14 _ rfl rfl) rfl
   have b35:τ.bval 35=decide ((0:Int)<=τ.ival 33):=eqB (e.at 20 _ rfl rfl) rfl
   have b36:τ.bval 36=decide (τ.ival 33<=1000000):=eqB (e.at 21 _ rfl rfl) rfl
   have b46:τ.bval 46=decide (τ.ival 45<=1000000):=eqB (e.at 31 _ rfl rfl) rfl
   have b47:τ.bval 47=decide (τ.ival 19<=140737488355328):=eqB (e.at 32 _ rfl rfl) rfl
   have b48:τ.bval 48=decide ((0:Int)<=τ.ival 44):=eqB (e.at 33 _ rfl rfl) rfl
   have b49:τ.bval 49=decide (τ.ival 44<=140737488355328):=eqB (e.at 34 _ rfl rfl) rfl
   have b50:τ.bval 50=decide ((0:Int)<τ.ival 44):=eqB (e.at 35 _ rfl rfl) rfl
   have b55:τ.bval 55=decide ((0:Int)<=τ.ival 54):=eqB (e.at 40 _ rfl rfl) rfl
   have b56:τ.bval 56=decide (τ.ival 54<=140737488355328):=eqB (e.at 41 _ rfl rfl) rfl
   have b57:τ.bval 57=decide ((0:Int)<τ.ival 54):=eqB (e.at 42 _ rfl rfl) rfl
   have tr: ∀{P:Prop} {b:Bool} [Decidable P],b=decide P->b=false->P->False:=fun hb hf hp=>by rw [hb,decide_eq_false_iff_not] at hf;exact hf hp
   obtain ⟨c1,m1⟩:=Qjp hj.c hm s17 (show (255:Int)%256=255 by decide) s18 i19 (by omega)
   have l1:(encI (g.sig.ival 0) (g.sig.sval 6) n++[255]).length<=7+19*n+1:=by simp only [List.length_append,List.length_cons,List.length_nil];omega
   have p1:=Qd6 (g.sig.ival 2)
   have p2:=Qd6 (g.sig.ival 3-(Qm zeE (g.sig.sval 6) n).r)
   have p3:=Qd6 (g.sig.ival 4-(Qm zeE (g.sig.sval 6) n).b)
   rw [Qj,hj.v2] at i20
   rw [Qj,hj.v3,hj.r] at i27
   rw [Qj,hj.v4,hj.b] at i34
   obtain ⟨c2,m2⟩:=Qmi ht c1 m1 s23 i20 s24 i25 i26 (by omega)
   have l2:=Qgy (encI (g.sig.ival 0) (g.sig.sval 6) n++[255]) (pbL (g.sig.ival 2))
   obtain ⟨c3,m3⟩:=Qmi ht c2 m2 s30 i27 s31 i32 i33 (by omega)
   have l3:=Qgy (encI (g.sig.ival 0) (g.sig.sval 6) n++[255]++pbL (g.sig.ival 2)) (pbL (g.sig.ival 3-(Qm zeE (g.sig.sval 6) n).r))
   obtain ⟨c4,m4⟩:=Qmi ht c3 m3 s37 i34 s38 i39 i40 (by omega)
   have l4:=Qgy (encI (g.sig.ival 0) (g.sig.sval 6) n++[255]++pbL (g.sig.ival 2)++pbL (g.sig.ival 3-(Qm zeE (g.sig.sval 6) n).r)) (pbL (g.sig.ival 4-(Qm zeE (g.sig.sval 6) n).b))
   rw [wr_u8,hj.v5] at i41
   obtain ⟨c5,m5⟩:=Qjp c4 m4 s42 (show τ.ival 41%256=g.sig.ival 5%256 by omega) s43 i44 (by omega)
   have eP:encI (g.sig.ival 0) (g.sig.sval 6) n++[255]++pbL (g.sig.ival 2)++pbL (g.sig.ival 3-(Qm zeE (g.sig.sval 6) n).r)++pbL (g.sig.ival 4-(Qm zeE (g.sig.sval 6) n).b)++[g.sig.ival 5%256]=encI (g.sig.ival 0) (g.sig.sval 6) n++finB (Qm zeE (g.sig.sval 6) n) (lgG g.sig n):=by
    simp only [finB,lgG,List.append_assoc]
   rw [eP] at c5 m5
   have hby:=(Qy2 (g.sig.ival 0) (g.sig.sval 6) n).app (Qzo (Qm zeE (g.sig.sval 6) n) (lgG g.sig n))
   have hfl:=Qzp (Qm zeE (g.sig.sval 6) n) (lgG g.sig n)
   have l5:=Qgy (encI (g.sig.ival 0) (g.sig.sval 6) n) (finB (Qm zeE (g.sig.sval 6) n) (lgG g.sig n))
   have hsum:=Qhb (encI (g.sig.ival 0) (g.sig.sval 6) n++finB (Qm zeE (g.sig.sval 6) n) (lgG g.sig n))
   rw [c5,Qc1] at i45
   rw [ht,c5,Qma,Qrh hby,wr_u8] at i51
   obtain ⟨c6,m6⟩:=Qjp c5 m5 s52 (show τ.ival 51%256=sumL (encI (g.sig.ival 0) (g.sig.sval 6) n++finB (Qm zeE (g.sig.sval 6) n) (lgG g.sig n)) by omega) s53 i54 (by omega)
   have l6:=Qgy (encI (g.sig.ival 0) (g.sig.sval 6) n++finB (Qm zeE (g.sig.sval 6) n) (lgG g.sig n)) [sumL (encI (g.sig.ival 0) (g.sig.sval 6) n++finB (Qm zeE (g.sig.sval 6) n) (lgG g.sig n))]
   rw [List.length_singleton] at l6
   have fin:EndZ Qa 68 (Qbh g w sf15.pre.length) (Z15 g w) .ret Q2p (asgS τ ([(8,.syms 53),(1,.symi .i64 1),(6,.syms 6),(7,.symi .i64 7)]++[])):=by
    refine Qeu (M:=9) (l:=L15) (vs:=[.syms 8,.int .i64 0]) (by kernel_rfl) rfl rfl hH hg rfl rfl rfl (by kernel_rfl) (by kernel_rfl) ⟨?_,congrArg AVal.str hj.s,congrArg (AVal.int .i64) (hj.nN.trans hgN.symm),trivial⟩ (by decide) (extS hj.xe) (.inl rfl)
    show AVal.str (τ.sval 53)=AVal.str (g.sig.sval 8)
    rw [c6,g8]
    show _=AVal.str (bs (encG ⟨g.sig.ival 0,lstE (g.sig.sval 6) n,g.sig.ival 2,g.sig.ival 3,g.sig.ival 4,g.sig.ival 5⟩))
    rw [Q9d]
    rfl
   exact ⟨fun f15=>⟨fun f16=>⟨fun f21=>⟨fun f22=>⟨fun f28=>⟨fun f29=>⟨fun f35=>⟨fun f36=>⟨fun f46=>⟨fun f47=>⟨fun f48=>⟨fun f49=>⟨fun f50=>⟨fun f55=>⟨fun f56=>⟨fun f57=>fin,fun f=>tr b57 f (by omega)⟩,fun f=>tr b56 f (by omega)⟩,fun f=>tr b55 f (by omega)⟩,fun f=>tr b50 f (by omega)⟩,fun f=>tr b49 f (by omega)⟩,fun f=>tr b48 f (by omega)⟩,fun f=>tr b47 f (by omega)⟩,fun f=>tr b46 f (by omega)⟩,fun f=>tr b36 f (by omega)⟩,fun f=>tr b35 f (by omega)⟩,fun f=>tr b29 f (by omega)⟩,fun f=>tr b28 f (by omega)⟩,fun f=>tr b22 f (by omega)⟩,fun f=>tr b21 f (by omega)⟩,fun f=>tr b16 f (by omega)⟩,fun f=>tr b15 f (by omega)⟩
  rw [show Qe (Qc Tryd.f15)=(Qe (Qc Tryd.f15)).take 8++(.block 2 (.loop (Qu8 8 (Qc Tryd.f15)))::(Qe (Qc Tryd.f15)).drop 9) from rfl]
  have hloop:Qf Tryd.prog Qa 68 (Qbh g w sf15.pre.length) (Z15 g w) (.block 2 (.loop (Qu8 8 (Qc Tryd.f15)))::(Qe (Qc Tryd.f15)).drop 9) Qje 15 Qpu (fun σ=> ∃i,J15 g.sig (g.sig.sval 6) n N i σ):=by
   refine Qf.loop (μ:=fun σ=>(σ.ival 1-σ.ival 8).toNat) mixed Qbbr ⟨rfl,rfl⟩ (fun σ τ ag h=>let ⟨i,hi⟩:=h;⟨i,hi.agree ag⟩) (fun σ τ ag=>by rw [(ag.val 1 (by decide)).1,(ag.val 8 (by decide)).1]) (fun τ h=>Qbe) hlast (fun τ e ht hi hj=> ?_) (pin0 (by kernel_rfl))
   obtain ⟨i,⟨hj,hi0⟩⟩:=hj
   refine Q6 ?_
   have hn0:=hj.n0
   have hnN:=hj.nN
   have hle:=hj.le
   have hhi:=hj.hi
   have hsz:=hj.sz
   have hs1:=hj.s1
   have hlen:=Qn7 (g.sig.ival 0) (g.sig.sval 6) i
   have hm:=hj.m
   have b15:τ.bval 15=decide (τ.ival 8<τ.ival 1):=eqB (e.at 0 _ rfl rfl) rfl
   have b16:τ.bval 16=decide (τ.ival 8<τ.ival 7):=eqB (e.at 1 _ rfl rfl) rfl
   have b17:τ.bval 17=decide ((0:Int)<=τ.ival 14):=eqB (e.at 2 _ rfl rfl) rfl
   have b18:τ.bval 18=decide (τ.ival 14<=900000):=eqB (e.at 3 _ rfl rfl) rfl
   have i19:τ.ival 19=(rowE (τ.sval 6) (τ.ival 8:Int).toNat).r:=Qb0 (e.at 4 _ rfl rfl) rfl
   have i20:τ.ival 20=(rowE (τ.sval 6) (τ.ival 8:Int).toNat).b:=Qb0 (e.at 5 _ rfl rfl) rfl
   have i21:τ.ival 21=(rowE (τ.sval 6) (τ.ival 8:Int).toNat).k:=Qb0 (e.at 6 _ rfl rfl) rfl
   have i22:τ.ival 22=(rowE (τ.sval 6) (τ.ival 8:Int).toNat).v:=Qb0 (e.at 7 _ rfl rfl) rfl
   have i23:τ.ival 23=IntKind.u8.wrap (τ.ival 21):=eqI (e.at 8 _ rfl rfl) rfl
   have s24:τ.sval 24=bs [τ.ival 23%256]:=Qev (e.at 9 _ rfl rfl) rfl
   have s25:τ.sval 25=τ.sval 13++τ.sval 24:=Qu (e.at 10 _ rfl rfl) rfl rfl
   have i26:τ.ival 26=IntKind.i64.wrap (τ.ival 14+1):=eqI (e.at 11 _ rfl rfl) rfl
   have i27:τ.ival 27=IntKind.u64.wrap (τ.ival 19-τ.ival 9):=eqI (e.at 12 _ rfl rfl) rfl
   have b28:τ.bval 28=decide ((0:Int)<=τ.ival 26):=eqB (e.at 13 _ rfl rfl) rfl
   have b29:τ.bval 29=decide (τ.ival 26<=1000000):=eqB (e.at 14 _ rfl rfl) rfl
   have s30:τ.sval 30=decS (τ.tab 192 [τ.ival 27]):=eqFs (e.at 15 _ rfl rfl)
   have s31:τ.sval 31=τ.sval 25++τ.sval 30:=Qu (e.at 16 _ rfl rfl) rfl rfl
   have i32:τ.ival 32=IntKind.i64.wrap (τ.tab 193 [τ.ival 27]):=eqFn (e.at 17 _ rfl rfl)
   have i33:τ.ival 33=IntKind.i64.wrap (τ.ival 26+τ.ival 32):=eqI (e.at 18 _ rfl rfl) rfl
   have i34:τ.ival 34=IntKind.u64.wrap (τ.ival 20-τ.ival 10):=eqI (e.at 19 _ rfl rfl) rfl
   have b35:τ.bval 35=decide ((0:Int)<=τ.ival 33):=eqB (e.at 20 _ rfl rfl) rfl
   have b36:τ.bval 36=decide (τ.ival 33<=1000000):=eqB (e.at 21 _ rfl rfl) rfl
   have s37:τ.sval 37=decS (τ.tab 192 [τ.ival 34]):=eqFs (e.at 22 _ rfl rfl)
   have s38:τ.sval 38=τ.sval 31++τ.sval 37:=Qu (e.at 23 _ rfl rfl) rfl rfl
   have i39:τ.ival 39=IntKind.i64.wrap (τ.tab 193 [τ.ival 34]):=eqFn (e.at 24 _ rfl rfl)
   have i40:τ.ival 40=IntKind.i64.wrap (τ.ival 33+τ.ival 39):=eqI (e.at 25 _ rfl rfl) rfl
   have s41:τ.sval 41=bs [τ.ival 22%256]:=Qev (e.at 26 _ rfl rfl) rfl
   have s42:τ.sval 42=τ.sval 38++τ.sval 41:=Qu (e.at 27 _ rfl rfl) rfl rfl
   have i43:τ.ival 43=IntKind.i64.wrap (τ.ival 40+1):=eqI (e.at 28 _ rfl rfl) rfl
   have i44:τ.ival 44=((τ.sval 42).size:Nat):=Qbm (e.at 29 _ rfl rfl)
   have b45:τ.bval 45=decide (τ.ival 44<=1000000):=eqB (e.at 30 _ rfl rfl) rfl
   have b46:τ.bval 46=decide ((0:Int)<=τ.ival 8):=eqB (e.at 31 _ rfl rfl) rfl
   have b47:τ.bval 47=decide (τ.ival 26<=140737488355328):=eqB (e.at 32 _ rfl rfl) rfl
   have b48:τ.bval 48=decide ((0:Int)<=τ.ival 43):=eqB (e.at 33 _ rfl rfl) rfl
   have b49:τ.bval 49=decide (τ.ival 43<=140737488355328):=eqB (e.at 34 _ rfl rfl) rfl
   have b50:τ.bval 50=decide ((0:Int)<τ.ival 43):=eqB (e.at 35 _ rfl rfl) rfl
   have i51:τ.ival 51=IntKind.u8.wrap (τ.tab 384 [encB (τ.sval 42)]):=eqFn (e.at 36 _ rfl rfl)
   have s52:τ.sval 52=bs [τ.ival 51%256]:=Qev (e.at 37 _ rfl rfl) rfl
   have s53:τ.sval 53=τ.sval 42++τ.sval 52:=Qu (e.at 38 _ rfl rfl) rfl rfl
   have i54:τ.ival 54=IntKind.i64.wrap (τ.ival 43+1):=eqI (e.at 39 _ rfl rfl) rfl
   have b55:τ.bval 55=decide ((0:Int)<=τ.ival 54):=eqB (e.at 40 _ rfl rfl) rfl
   have b56:τ.bval 56=decide (τ.ival 54<=140737488355328):=eqB (e.at 41 _ rfl rfl) rfl
   have i57:τ.ival 57=IntKind.i64.wrap (τ.ival 8+1):=eqI (e.at 42 _ rfl rfl) rfl
   have tr: ∀{P:Prop} {b:Bool} [Decidable P],b=decide P->b=false->P->False:=fun hb hf hp=>by rw [hb,decide_eq_false_iff_not] at hf;exact hf hp
   refine ⟨fun f15=> ?_,fun f15=> ?_⟩
   ·rw [b15,decide_eq_true_eq] at f15
    have hlt:i<n:=by omega
    rw [hj.s,hi0,Int.toNat_natCast] at i19 i20 i21 i22
    have p2:=Qd6 ((rowE (g.sig.sval 6) i).r-(Qm zeE (g.sig.sval 6) i).r)
    have p3:=Qd6 ((rowE (g.sig.sval 6) i).b-(Qm zeE (g.sig.sval 6) i).b)
    rw [wr_u8,i21] at i23
    rw [Qj,i19,hj.r] at i27
    rw [Qj,i20,hj.b] at i34
    obtain ⟨c1,m1⟩:=Qjp hj.c hm s24 (show τ.ival 23%256=(rowE (g.sig.sval 6) i).k%256 by omega) s25 i26 (by omega)
    have l1:(encI (g.sig.ival 0) (g.sig.sval 6) i++[(rowE (g.sig.sval 6) i).k%256]).length<=7+19*i+1:=by simp only [List.length_append,List.length_cons,List.length_nil];omega
    obtain ⟨c2,m2⟩:=Qmi ht c1 m1 s30 i27 s31 i32 i33 (by omega)
    have l2:=Qgy (encI (g.sig.ival 0) (g.sig.sval 6) i++[(rowE (g.sig.sval 6) i).k%256]) (pbL ((rowE (g.sig.sval 6) i).r-(Qm zeE (g.sig.sval 6) i).r))
    obtain ⟨c3,m3⟩:=Qmi ht c2 m2 s37 i34 s38 i39 i40 (by omega)
    have l3:=Qgy (encI (g.sig.ival 0) (g.sig.sval 6) i++[(rowE (g.sig.sval 6) i).k%256]++pbL ((rowE (g.sig.sval 6) i).r-(Qm zeE (g.sig.sval 6) i).r)) (pbL ((rowE (g.sig.sval 6) i).b-(Qm zeE (g.sig.sval 6) i).b))
    obtain ⟨c4,m4⟩:=Qjp c3 m3 s41 (show τ.ival 22%256=(rowE (g.sig.sval 6) i).v%256 by rw [i22]) s42 i43 (by omega)
    have eP:encI (g.sig.ival 0) (g.sig.sval 6) i++[(rowE (g.sig.sval 6) i).k%256]++pbL ((rowE (g.sig.sval 6) i).r-(Qm zeE (g.sig.sval 6) i).r)++pbL ((rowE (g.sig.sval 6) i).b-(Qm zeE (g.sig.sval 6) i).b)++[(rowE (g.sig.sval 6) i).v%256]=encI (g.sig.ival 0) (g.sig.sval 6) i++entB (Qm zeE (g.sig.sval 6) i) (rowE (g.sig.sval 6) i):=by
     simp only [entB,List.append_assoc]
    rw [eP] at c4 m4
    have hby:=(Qy2 (g.sig.ival 0) (g.sig.sval 6) i).app (Qza (Qm zeE (g.sig.sval 6) i) (rowE (g.sig.sval 6) i))
    have hel:=Qs7 (Qm zeE (g.sig.sval 6) i) (rowE (g.sig.sval 6) i)
    have l5:=Qgy (encI (g.sig.ival 0) (g.sig.sval 6) i) (entB (Qm zeE (g.sig.sval 6) i) (rowE (g.sig.sval 6) i))
    have hsum:=Qhb (encI (g.sig.ival 0) (g.sig.sval 6) i++entB (Qm zeE (g.sig.sval 6) i) (rowE (g.sig.sval 6) i))
    rw [c4,Qc1] at i44
    rw [ht,c4,Qma,Qrh hby,wr_u8] at i51
    obtain ⟨c5,m5⟩:=Qjp c4 m4 s52 (show τ.ival 51%256=sumL (encI (g.sig.ival 0) (g.sig.sval 6) i++entB (Qm zeE (g.sig.sval 6) i) (rowE (g.sig.sval 6) i)) by omega) s53 i54 (by omega)
    rw [<-Qs2] at c5 m5
    have m5':=m5
    rw [Qs2,List.length_append] at m5'
    simp only [List.length_cons,List.length_nil] at m5'
    rw [Qh] at i57
    have fin:(SEx.normal=.normal/\Qje=Qje/\Q4 (asgS τ ([(14,.symi .i64 54),(1,.symi .i64 1),(1,.symi .i64 1),(8,.symi .i64 57),(6,.syms 6),(7,.symi .i64 7),(0,.symi .u32 0),(1,.symi .i64 1),(2,.symi .i64 2),(3,.symi .u64 3),(4,.symi .u64 4),(5,.symi .i64 5),(9,.symi .u64 19),(10,.symi .u64 20),(11,.symi .i64 21),(12,.symi .u8 22),(13,.syms 53),(14,.symi .i64 54)]++[])) 15 Qpu/\(∃i,J15 g.sig (g.sig.sval 6) n N i (asgS τ ([(14,.symi .i64 54),(1,.symi .i64 1),(1,.symi .i64 1),(8,.symi .i64 57),(6,.syms 6),(7,.symi .i64 7),(0,.symi .u32 0),(1,.symi .i64 1),(2,.symi .i64 2),(3,.symi .u64 3),(4,.symi .u64 4),(5,.symi .i64 5),(9,.symi .u64 19),(10,.symi .u64 20),(11,.symi .i64 21),(12,.symi .u8 22),(13,.syms 53),(14,.symi .i64 54)]++[])))/\(asgS τ ([(14,.symi .i64 54),(1,.symi .i64 1),(1,.symi .i64 1),(8,.symi .i64 57),(6,.syms 6),(7,.symi .i64 7),(0,.symi .u32 0),(1,.symi .i64 1),(2,.symi .i64 2),(3,.symi .u64 3),(4,.symi .u64 4),(5,.symi .i64 5),(9,.symi .u64 19),(10,.symi .u64 20),(11,.symi .i64 21),(12,.symi .u8 22),(13,.syms 53),(14,.symi .i64 54)]++[])).tab=Qa/\((asgS τ ([(14,.symi .i64 54),(1,.symi .i64 1),(1,.symi .i64 1),(8,.symi .i64 57),(6,.syms 6),(7,.symi .i64 7),(0,.symi .u32 0),(1,.symi .i64 1),(2,.symi .i64 2),(3,.symi .u64 3),(4,.symi .u64 4),(5,.symi .i64 5),(9,.symi .u64 19),(10,.symi .u64 20),(11,.symi .i64 21),(12,.symi .u8 22),(13,.syms 53),(14,.symi .i64 54)]++[])).ival 1-(asgS τ ([(14,.symi .i64 54),(1,.symi .i64 1),(1,.symi .i64 1),(8,.symi .i64 57),(6,.syms 6),(7,.symi .i64 7),(0,.symi .u32 0),(1,.symi .i64 1),(2,.symi .i64 2),(3,.symi .u64 3),(4,.symi .u64 4),(5,.symi .i64 5),(9,.symi .u64 19),(10,.symi .u64 20),(11,.symi .i64 21),(12,.symi .u8 22),(13,.syms 53),(14,.symi .i64 54)]++[])).ival 8).toNat<(τ.ival 1-τ.ival 8).toNat):=by
     refine ⟨rfl,rfl,Qbi (X:=Qfv) e hi (by kernel_rfl) (by kernel_rfl),⟨i+1,⟨⟨hj.s,hj.n0,hj.nN,hj.v0,hj.v2,hj.v3,hj.v4,hj.v5,i19,i20,i21,i22,c5,m5,hle,hlt,hsz,hs1,extS hj.xe⟩,?_⟩⟩,tabS ht,?_⟩
     ·show τ.ival 57=_
      omega
     ·show (τ.ival 1-τ.ival 57).toNat<(τ.ival 1-τ.ival 8).toNat
      omega
    exact ⟨fun f16=>⟨fun f17=>⟨fun f18=>⟨fun f28=>⟨fun f29=>⟨fun f35=>⟨fun f36=>⟨fun f45=>⟨fun f46=>⟨fun f47=>⟨fun f48=>⟨fun f49=>⟨fun f50=>⟨fun f55=>⟨fun f56=> .inl fin,fun f=>tr b56 f (by omega)⟩,fun f=>tr b55 f (by omega)⟩,fun f=>tr b50 f (by omega)⟩,fun f=>tr b49 f (by omega)⟩,fun f=>tr b48 f (by omega)⟩,fun f=>tr b47 f (by omega)⟩,fun f=>tr b46 f (by omega)⟩,fun f=>tr b45 f (by omega)⟩,fun f=>tr b36 f (by omega)⟩,fun f=>tr b35 f (by omega)⟩,fun f=>tr b29 f (by omega)⟩,fun f=>tr b28 f (by omega)⟩,fun f=>tr b18 f (by omega)⟩,fun f=>tr b17 f (by omega)⟩,fun f=>tr b16 f (by omega)⟩
   ·rw [b15,decide_eq_false_iff_not] at f15
    obtain rfl:i=n:=by omega
    refine .inr (.inl ⟨rfl,rfl,Qbi (X:=Qfv) e hi (by kernel_rfl) (by kernel_rfl),⟨hj.s,hj.n0,hj.nN,hj.v0,hj.v2,hj.v3,hj.v4,hj.v5,hj.r,hj.b,hj.k,hj.v,hj.c,hj.m,hle,hhi,hsz,hs1,extS hj.xe⟩,tabS ht⟩)
  refine Qf.seg mixed Qbbn ⟨rfl,rfl⟩ (fun σ τ (ag:Agree 8 σ τ) (h:Agree 8 g.sig σ)=>h.trans' ag) (fun τ h=>Qbe) hloop (fun τ e ht hi ag=> ?_) (pin0 (by kernel_rfl))
  refine Q6 ?_
  have a:=fun i h=>(ag.val i h).1.symm
  have a0:=a 0 (by decide)
  have a1:=a 1 (by decide)
  have a2:=a 2 (by decide)
  have a3:=a 3 (by decide)
  have a4:=a 4 (by decide)
  have a5:=a 5 (by decide)
  have a7:=a 7 (by decide)
  have a6:τ.sval 6=g.sig.sval 6:=(ag.val 6 (by decide)).2.2.symm
  have w0:=hi 0 .u32 (by decide) rfl
  rw [Qem] at w0
  have b8:τ.bval 8=decide ((0:Int)<=τ.ival 1):=eqB (e.at 0 _ rfl rfl) rfl
  have b9:τ.bval 9=decide (τ.ival 1<=τ.ival 7):=eqB (e.at 1 _ rfl rfl) rfl
  have b10:τ.bval 10=decide (τ.ival 7<=1000000):=eqB (e.at 2 _ rfl rfl) rfl
  have b11:τ.bval 11= !(τ.tab 448 [τ.ival 0,encB (τ.sval 6),τ.ival 1,τ.ival 2,τ.ival 3,τ.ival 4,τ.ival 5]==0):=Qd0 (e.at 3 _ rfl rfl)
  have i12:τ.ival 12=τ.ival 0/16777216:=(eqI (x:=(τ.ival 0:Int).fdiv (2^(min (24:Int).toNat IntKind.u32.bits))) (e.at 4 _ rfl rfl) rfl).trans (by rw [show (2:Int)^(min (24:Int).toNat IntKind.u32.bits)=16777216 by decide];exact Qbg (by decide))
  have i13:τ.ival 13=IntKind.u8.wrap (τ.ival 12):=eqI (e.at 5 _ rfl rfl) rfl
  have s14:τ.sval 14=bs [80,76,1]:=(Qbu (e.at 6 _ rfl rfl)).trans rfl
  have s15:τ.sval 15=bs [τ.ival 13%256]:=Qev (e.at 7 _ rfl rfl) rfl
  have s16:τ.sval 16=τ.sval 14++τ.sval 15:=Qu (e.at 8 _ rfl rfl) rfl rfl
  have i17:τ.ival 17=τ.ival 0/65536:=(eqI (x:=(τ.ival 0:Int).fdiv (2^(min (16:Int).toNat IntKind.u32.bits))) (e.at 9 _ rfl rfl) rfl).trans (by rw [show (2:Int)^(min (16:Int).toNat IntKind.u32.bits)=65536 by decide];exact Qbg (by decide))
  have i18:τ.ival 18=IntKind.u8.wrap (τ.ival 17):=eqI (e.at 10 _ rfl rfl) rfl
  have s19:τ.sval 19=bs [τ.ival 18%256]:=Qev (e.at 11 _ rfl rfl) rfl
  have s20:τ.sval 20=τ.sval 16++τ.sval 19:=Qu (e.at 12 _ rfl rfl) rfl rfl
  have i21:τ.ival 21=τ.ival 0/256:=(eqI (x:=(τ.ival 0:Int).fdiv (2^(min (8:Int).toNat IntKind.u32.bits))) (e.at 13 _ rfl rfl) rfl).trans (by rw [show (2:Int)^(min (8:Int).toNat IntKind.u32.bits)=256 by decide];exact Qbg (by decide))
  have i22:τ.ival 22=IntKind.u8.wrap (τ.ival 21):=eqI (e.at 14 _ rfl rfl) rfl
  have s23:τ.sval 23=bs [τ.ival 22%256]:=Qev (e.at 15 _ rfl rfl) rfl
  have s24:τ.sval 24=τ.sval 20++τ.sval 23:=Qu (e.at 16 _ rfl rfl) rfl rfl
  have i25:τ.ival 25=τ.ival 0/1:=(eqI (x:=(τ.ival 0:Int).fdiv (2^(min (0:Int).toNat IntKind.u32.bits))) (e.at 17 _ rfl rfl) rfl).trans (by rw [show (2:Int)^(min (0:Int).toNat IntKind.u32.bits)=1 by decide];exact Qbg (by decide))
  have i26:τ.ival 26=IntKind.u8.wrap (τ.ival 25):=eqI (e.at 18 _ rfl rfl) rfl
  have s27:τ.sval 27=bs [τ.ival 26%256]:=Qev (e.at 19 _ rfl rfl) rfl
  have s28:τ.sval 28=τ.sval 24++τ.sval 27:=Qu (e.at 20 _ rfl rfl) rfl rfl
  have tr: ∀{P:Prop} {b:Bool} [Decidable P],b=decide P->b=false->P->False:=fun hb hf hp=>by rw [hb,decide_eq_false_iff_not] at hf;exact hf hp
  rw [wr_u8] at i13 i18 i22 i26
  have hq:(!(g.sig.tab 448 [g.sig.ival 0,encB (g.sig.sval 6),g.sig.ival 1,g.sig.ival 2,g.sig.ival 3,g.sig.ival 4,g.sig.ival 5]==0))=true:=by
   simp only [lgF,Qb,List.map,den,numS,Option.some.injEq,AVal.bool.injEq] at q4
   exact q4
  have f11:τ.bval 11=true:=by rw [b11,a0,a1,a2,a3,a4,a5,a6,ht,<-hg];exact hq
  have hb:τ.sval 28=bs (encI (g.sig.ival 0) (g.sig.sval 6) 0):=by
   rw [s28,s24,s20,s16,s14,s15,s19,s23,s27,bs3]
   show _=bs (head (g.sig.ival 0))
   unfold head
   rw [show τ.ival 13%256=g.sig.ival 0/16777216%256 by omega,show τ.ival 18%256=g.sig.ival 0/65536%256 by omega,show τ.ival 22%256=g.sig.ival 0/256%256 by omega,show τ.ival 26%256=g.sig.ival 0%256 by omega]
  exact ⟨fun f8=>⟨fun f9=>⟨fun f10=>⟨fun f11=> .inl ⟨rfl,rfl,Qbi (X:=Qgz) e hi (by kernel_rfl) (by kernel_rfl),⟨0,⟨⟨a6,a1.trans hgn,a7.trans hgN,a0,a2,a3,a4,a5,rfl,rfl,rfl,rfl,hb,rfl,by omega,Nat.zero_le _,by omega,by omega,extS ag.ext.symm⟩,rfl⟩⟩,tabS ht⟩,fun f=>by rw [f11] at f;cases f⟩,fun f=>tr b10 f (by omega)⟩,fun f=>tr b9 f (by omega)⟩,fun f=>tr b8 f (by omega)⟩)
end Go.Proofs.YtelimhjceiamcaaDoor.lg
