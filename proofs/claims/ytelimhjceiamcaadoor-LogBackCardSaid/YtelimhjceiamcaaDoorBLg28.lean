/-
 Contract of wire.P, over a list.
 No conditions.
-/
import Derived.Test.YtelimhjceiamcaaDoorBLgn
set_option maxRecDepth 100000
namespace Go.Proofs.YtelimhjceiamcaaDoor.lg
open Go.Ev Go.RowKit Go.Wbp Go.Lgp
open Go.Proofs.YtelimhjceiamcaaDoor.lgn (mixed sf48 Qda)
set_option linter.unusedVariables false
set_option linter.unusedSimpArgs false
def Qt:List (Nat×List (Option IntKind)):=[(5,[some .u8]),(61,cl4),(67,cl4),(33,cl4d)]
def bl (s n:Nat):Blk:=.lst (.syms s) (.symi .i64 n) [some .u8] 5
def wbK9:List (Option IntKind):=[some .u64,some .i64,none]
def wbS9:Shape:=⟨argT 0 [.lsl 0 1 false (.int .i64 0) (.symi .i64 1),.symi .u64 0],[bl 2 1]⟩
def wbE9:Shape:=⟨[(20,.lsl 0 1 false (.int .i64 0) (.symi .i64 1)),(4,.lsl 1 1 true (.int .i64 0) (.symi .i64 6))],[.gone,bl 4 6]⟩
def sf9:SymF:=
 {f:=28,m:=3,ins:=wbK9,args:=[.lsl 0 1 false (.int .i64 0) (.symi .i64 1),.symi .u64 0],pre:=[bl 2 1],pcs:=[.bin .leq (.int .i64 0) (.symi .i64 1),.bin .leq (.symi .i64 1) (.int .i64 1000000)],
  G:=[.sop (.fs 192) [.symi .u64 0],.sop .cat [.syms 2,.syms 3],.fn 193 .i64 [.symi .u64 0],.bin .add (.symi .i64 1) (.symi .i64 5)],v:=.lsl 1 1 true (.int .i64 0) (.symi .i64 6),post:=[.gone,bl 4 6]}
namespace p9
theorem Qbu {σ:Sig} {i:Nat} {a:AVal} {n:Int} (h:Qb σ (.sop (.row [.some .u8]) [a])=some (den σ (.syms i))) (ha:den σ a=.int .u8 n) (h0:0<=n) (h1:n<256):σ.sval i=bs [n]:=by
 simp only [Qb,List.map,ha] at h
 simp only [den,sopA,rowB,encK,csz,beB,List.nil_append,List.append_nil,Option.some.injEq,AVal.str.injEq] at h
 rw [<-h]
 simp only [bs,List.map_cons,List.map_nil]
 congr 3
 have:(n%((2^(8*1):Nat):Int)).toNat%256=n.toNat:=by omega
 rw [this]
theorem Q7g {n:Int} (h0:0<=n) (h1:n<18446744073709551616):IntKind.u64.wrap ((BitVec.ofInt IntKind.u64.bits n&&&BitVec.ofInt IntKind.u64.bits 4611686018427387903).toNat:Int)=n%4611686018427387904:=by
 show IntKind.u64.wrap ((BitVec.ofInt 64 n&&&BitVec.ofInt 64 4611686018427387903:BitVec 64).toNat:Int)=_
 rw [Qj,BitVec.toNat_and,BitVec.toNat_ofInt,BitVec.toNat_ofInt]
 have e1:((4611686018427387903:Int)%(2^64:Nat)).toNat=2^62-1:=by decide
 rw [e1,Nat.and_two_pow_sub_one_eq_mod]
 omega
theorem Qqn {x c:Int} (i s:Nat) (hc:c=((2^i*s:Nat):Int)) (h0:0<=x) (h1:x<((2^i:Nat):Int)) (h64:2^i*s+2^i<=18446744073709551616):IntKind.u64.wrap ((BitVec.ofInt IntKind.u64.bits x|||BitVec.ofInt IntKind.u64.bits c).toNat:Int)=x+c:=by
 show IntKind.u64.wrap ((BitVec.ofInt 64 x|||BitVec.ofInt 64 c:BitVec 64).toNat:Int)=_
 rw [Qj,BitVec.toNat_or,BitVec.toNat_ofInt,BitVec.toNat_ofInt]
 have e1:(x%(2^64:Nat)).toNat=x.toNat:=by omega
 have e2:(c%(2^64:Nat)).toNat=2^i*s:=by omega
 rw [e1,e2,Nat.or_comm,<-Nat.two_pow_add_eq_or_of_lt (by omega:x.toNat<2^i)]
 omega
def wb9G:List SDef:=[.bin .and (.symi .u64 0) (.int .u64 4611686018427387903),
 .bin .shr (.symi .u64 3) (.int .i64 6),
 .bin .gtr (.symi .u64 4) (.int .u64 0),
 .bin .shr (.symi .u64 3) (.int .i64 14),
 .bin .gtr (.symi .u64 6) (.int .u64 0),
 .bin .shr (.symi .u64 3) (.int .i64 30),
 .bin .gtr (.symi .u64 8) (.int .u64 0),
 .bin .or (.symi .u64 3) (.int .u64 13835058055282163712),
 .bin .leq (.int .i64 0) (.symi .i64 1),
 .bin .leq (.symi .i64 1) (.symi .i64 1),
 .bin .shr (.symi .u64 10) (.int .i64 56),
 .conv .u8 (.symi .u64 13),
 .sop (.row [.some .u8]) [.symi .u8 14],
 .sop .cat [.syms 2,.syms 15],
 .bin .add (.symi .i64 1) (.int .i64 1),
 .bin .leq (.int .i64 0) (.symi .i64 17),
 .bin .leq (.symi .i64 17) (.int .i64 140737488355328),
 .bin .shr (.symi .u64 10) (.int .i64 48),
 .conv .u8 (.symi .u64 20),
 .sop (.row [.some .u8]) [.symi .u8 21],
 .sop .cat [.syms 16,.syms 22],
 .bin .add (.symi .i64 17) (.int .i64 1),
 .bin .leq (.int .i64 0) (.symi .i64 24),
 .bin .leq (.symi .i64 24) (.int .i64 140737488355328),
 .bin .shr (.symi .u64 10) (.int .i64 40),
 .conv .u8 (.symi .u64 27),
 .sop (.row [.some .u8]) [.symi .u8 28],
 .sop .cat [.syms 23,.syms 29],
 .bin .add (.symi .i64 24) (.int .i64 1),
 .bin .leq (.int .i64 0) (.symi .i64 31),
 .bin .leq (.symi .i64 31) (.int .i64 140737488355328),
 .bin .shr (.symi .u64 10) (.int .i64 32),
 .conv .u8 (.symi .u64 34),
 .sop (.row [.some .u8]) [.symi .u8 35],
 .sop .cat [.syms 30,.syms 36],
 .bin .add (.symi .i64 31) (.int .i64 1),
 .bin .leq (.int .i64 0) (.symi .i64 38),
 .bin .leq (.symi .i64 38) (.int .i64 140737488355328),
 .bin .shr (.symi .u64 10) (.int .i64 24),
 .conv .u8 (.symi .u64 41),
 .sop (.row [.some .u8]) [.symi .u8 42],
 .sop .cat [.syms 37,.syms 43],
 .bin .add (.symi .i64 38) (.int .i64 1),
 .bin .leq (.int .i64 0) (.symi .i64 45),
 .bin .leq (.symi .i64 45) (.int .i64 140737488355328),
 .bin .shr (.symi .u64 10) (.int .i64 16),
 .conv .u8 (.symi .u64 48),
 .sop (.row [.some .u8]) [.symi .u8 49],
 .sop .cat [.syms 44,.syms 50],
 .bin .add (.symi .i64 45) (.int .i64 1),
 .bin .leq (.int .i64 0) (.symi .i64 52),
 .bin .leq (.symi .i64 52) (.int .i64 140737488355328),
 .bin .shr (.symi .u64 10) (.int .i64 8),
 .conv .u8 (.symi .u64 55),
 .sop (.row [.some .u8]) [.symi .u8 56],
 .sop .cat [.syms 51,.syms 57],
 .bin .add (.symi .i64 52) (.int .i64 1),
 .bin .leq (.int .i64 0) (.symi .i64 59),
 .bin .leq (.symi .i64 59) (.int .i64 140737488355328),
 .bin .shr (.symi .u64 10) (.int .i64 0),
 .conv .u8 (.symi .u64 62),
 .sop (.row [.some .u8]) [.symi .u8 63],
 .sop .cat [.syms 58,.syms 64],
 .bin .add (.symi .i64 59) (.int .i64 1),
 .bin .leq (.int .i64 0) (.symi .i64 66),
 .bin .leq (.symi .i64 66) (.int .i64 140737488355328),
 .bin .or (.symi .u64 3) (.int .u64 2147483648),
 .bin .shr (.symi .u64 69) (.int .i64 24),
 .conv .u8 (.symi .u64 70),
 .sop (.row [.some .u8]) [.symi .u8 71],
 .sop .cat [.syms 2,.syms 72],
 .bin .shr (.symi .u64 69) (.int .i64 16),
 .conv .u8 (.symi .u64 74),
 .sop (.row [.some .u8]) [.symi .u8 75],
 .sop .cat [.syms 73,.syms 76],
 .bin .shr (.symi .u64 69) (.int .i64 8),
 .conv .u8 (.symi .u64 78),
 .sop (.row [.some .u8]) [.symi .u8 79],
 .sop .cat [.syms 77,.syms 80],
 .bin .shr (.symi .u64 69) (.int .i64 0),
 .conv .u8 (.symi .u64 82),
 .sop (.row [.some .u8]) [.symi .u8 83],
 .sop .cat [.syms 81,.syms 84],
 .bin .or (.symi .u64 3) (.int .u64 16384),
 .bin .shr (.symi .u64 86) (.int .i64 8),
 .conv .u8 (.symi .u64 87),
 .sop (.row [.some .u8]) [.symi .u8 88],
 .sop .cat [.syms 2,.syms 89],
 .bin .shr (.symi .u64 86) (.int .i64 0),
 .conv .u8 (.symi .u64 91),
 .sop (.row [.some .u8]) [.symi .u8 92],
 .sop .cat [.syms 90,.syms 93],
 .bin .or (.symi .u64 3) (.int .u64 0),
 .bin .shr (.symi .u64 95) (.int .i64 0),
 .conv .u8 (.symi .u64 96),
 .sop (.row [.some .u8]) [.symi .u8 97],
 .sop .cat [.syms 2,.syms 98]]
def wb9T:LT:=Go.Wbp.fT 3 wb9G (.n (.n (.n (.n (.n (.n (.n .e 1761577 3 .e) 45881228 72 (.n .e 49042881 86 .e)) 91675425 44 (.n (.n .e 92926946 98 .e) 96101822 91 .e)) 96502102 87 (.n (.n (.n .e 101060655 17 .e) 105830409 75 .e) 112788008 67 (.n (.n .e 162564267 39 .e) 190529114 15 .e))) 224353553 97 (.n (.n (.n (.n .e 243109483 61 .e) 250106679 52 .e) 263255274 37 (.n (.n .e 265262522 14 .e) 269586774 40 .e)) 276583970 31 (.n (.n (.n .e 280785357 35 .e) 285790794 22 .e) 296064065 19 (.n (.n .e 296308192 56 .e) 302711058 69 .e)))) 303011268 95 (.n (.n (.n (.n (.n .e 303311499 4 .e) 303711779 6 .e) 304512339 8 (.n (.n .e 308143409 80 .e) 308415048 10 .e)) 331666268 93 (.n (.n (.n .e 343383805 11 .e) 371092599 88 .e) 381052474 29 (.n (.n .e 404011634 5 .e) 418555659 46 .e))) 434835123 30 (.n (.n (.n (.n .e 440865439 94 .e) 444384310 12 .e) 468331918 18 (.n (.n .e 469035782 90 .e) 476314154 36 .e)) 503609263 73 (.n (.n (.n .e 517831645 79 .e) 526580325 82 .e) 526980605 78 (.n (.n .e 527380885 74 .e) 527781165 70 .e))))) 571575834 43 (.n (.n (.n (.n (.n (.n .e 590369094 66 .e) 606012240 7 (.n .e 606414972 23 .e)) 609849189 54 (.n (.n .e 616846385 45 .e) 633525021 28 .e)) 636326480 33 (.n (.n (.n .e 643323676 24 .e) 649047856 49 .e) 650677705 65 (.n (.n .e 661468102 85 .e) 666837514 50 .e))) 674547051 53 (.n (.n (.n (.n .e 682693395 16 .e) 713883232 76 .e) 724323310 25 (.n (.n .e 737406091 89 .e) 759513730 81 .e)) 762099194 57 (.n (.n (.n .e 767571000 71 .e) 783093835 92 .e) 808012846 9 (.n (.n .e 822257554 58 .e) 857360874 64 .e)))) 857559358 77 (.n (.n (.n (.n (.n .e 892861162 99 .e) 929832881 83 .e) 930538443 60 (.n (.n .e 950111604 68 .e) 957108800 59 .e)) 976145413 84 (.n (.n (.n .e 976588895 47 .e) 980314702 32 .e) 983586091 38 (.n (.n .e 986264685 21 .e) 993837403 51 .e))) 1001787520 42 (.n (.n (.n (.n .e 1003066186 26 .e) 1005104549 96 .e) 1010013410 62 (.n (.n .e 1010413690 55 .e) 1010813970 48 .e)) 1011214250 41 (.n (.n (.n .e 1011614530 34 .e) 1012014810 27 .e) 1012415090 20 (.n (.n .e 1012815370 13 .e) 1017310355 63 .e))))))
def wb9W:Sw:=.node 5 (.node 7 (.node 9 (.run (.node 11 (.node 12 (.node 18 (.node 19 (.node 25 (.node 26 (.node 32 (.node 33 (.node 39 (.node 40 (.node 46 (.node 47 (.node 53 (.node 54 (.node 60 (.node 61 (.node 67 (.node 68 (.leaf .ret wbE9 [(0,0),(16,0)] [(1,.symi .i64 1),(6,.symi .i64 66),(4,.syms 65),(6,.symi .i64 66)] []) (.dead)) (.dead)) (.dead)) (.dead)) (.dead)) (.dead)) (.dead)) (.dead)) (.dead)) (.dead)) (.dead)) (.dead)) (.dead)) (.dead)) (.dead)) (.dead)) (.dead)) (.dead))) (.run (.node 11 (.node 12 (.node 18 (.node 19 (.node 25 (.node 26 (.node 32 (.node 33 (.node 39 (.node 40 (.leaf .ret wbE9 [(0,0),(8,0)] [(1,.symi .i64 1),(6,.symi .i64 38),(4,.syms 85),(6,.symi .i64 38)] []) (.dead)) (.dead)) (.dead)) (.dead)) (.dead)) (.dead)) (.dead)) (.dead)) (.dead)) (.dead)))) (.run (.node 11 (.node 12 (.node 18 (.node 19 (.node 25 (.node 26 (.leaf .ret wbE9 [(0,0),(4,0)] [(1,.symi .i64 1),(6,.symi .i64 24),(4,.syms 94),(6,.symi .i64 24)] []) (.dead)) (.dead)) (.dead)) (.dead)) (.dead)) (.dead)))) (.run (.node 11 (.node 12 (.node 18 (.node 19 (.leaf .ret wbE9 [(0,0),(2,0)] [(1,.symi .i64 1),(6,.symi .i64 17),(4,.syms 99),(6,.symi .i64 17)] []) (.dead)) (.dead)) (.dead)) (.dead)))
def Qbjx:KdT:=.n (.n (.n (.n (.n (.n (.n .e (some .u8) .e) (some .i64) (.n .e (some .u64) .e)) none (.n (.n .e (some .u8) .e) none .e)) none (.n (.n (.n .e (some .u8) .e) none .e) none (.n (.n .e (some .u64) .e) (some .u64) .e))) (some .u64) (.n (.n (.n (.n .e none .e) (some .u8) (.n .e none .e)) none (.n (.n .e (some .u8) .e) none .e)) none (.n (.n (.n .e (some .u8) .e) none .e) (some .u64) (.n (.n .e (some .u64) .e) (some .i64) .e)))) (some .i64) (.n (.n (.n (.n (.n .e none .e) none (.n .e (some .u8) .e)) (some .i64) (.n (.n .e none .e) (some .u8) .e)) none (.n (.n (.n .e none .e) (some .u64) .e) none (.n (.n .e none .e) none .e))) none (.n (.n (.n (.n .e (some .u64) .e) none .e) (some .u8) (.n (.n .e none .e) none .e)) (some .u64) (.n (.n (.n .e none .e) (some .i64) .e) none (.n (.n .e none .e) none .e))))) (some .u64) (.n (.n (.n (.n (.n (.n .e none .e) none (.n .e (some .u64) .e)) none (.n (.n .e none .e) (some .u64) .e)) (some .u64) (.n (.n (.n .e none .e) none .e) (some .i64) (.n (.n .e (some .u8) .e) (some .u8) .e))) (some .u64) (.n (.n (.n (.n .e none .e) none .e) (some .u64) (.n (.n .e none .e) (some .i64) .e)) none (.n (.n (.n .e none .e) none .e) (some .u8) (.n (.n .e (some .u8) .e) none .e)))) none (.n (.n (.n (.n (.n .e (some .i64) .e) (some .u64) (.n .e none .e)) none (.n (.n .e (some .u64) .e) none .e)) (some .u64) (.n (.n (.n .e (some .u64) .e) (some .u8) .e) none (.n (.n .e none .e) none .e))) (some .u64) (.n (.n (.n (.n .e (some .u64) .e) (some .i64) .e) none (.n (.n .e (some .u64) .e) none .e)) (some .u8) (.n (.n (.n .e (some .u64) .e) none .e) none (.n (.n .e none .e) (some .u64) .e)))))
noncomputable def wb9X:Ing:={m:=3,ins:=wbK9,G:=wb9G,T:=wb9T,tab:=Qa,lsts:=Qt,kb:=100,kt:=Qbjx}
theorem Qbjz:okG wb9G 3=true:=by kernel_rfl
theorem Qbjy:okLT 3 wb9G wb9T=true:=by kernel_rfl
theorem Qbj0:SegOk Tryd.prog Qa 42 (Qe (Qc Tryd.f28)) wbS9 wb9X wb9W where
 lt:=Qbjy
 ok:=Qbjz
 hook:=fun F=>Qcb rfl F
 n0:=rfl
 id:=by kernel_rfl
 reck:=by kernel_rfl
 tab:=rfl
 cuts:=rfl
 kt:=by kernel_rfl
structure Pl (τ:Sig):Prop where
 n0:0<=τ.ival 0
 n1:τ.ival 0<18446744073709551616
 lo:0<=τ.ival 1
 hi:τ.ival 1<=1000000
theorem p3 {τ:Sig} (e:Eqs τ 3 wb9G) (h:Pl τ):τ.ival 3=τ.ival 0%4611686018427387904:=by
 have h3:τ.ival 3=IntKind.u64.wrap (BitVec.ofInt IntKind.u64.bits (τ.ival 0)&&&BitVec.ofInt IntKind.u64.bits (4611686018427387903)).toNat:=eqI (e.at 0 _ rfl rfl) rfl
 rw [h3];exact Q7g h.n0 h.n1
theorem p5 {τ:Sig} (e:Eqs τ 3 wb9G) (h:Pl τ):τ.bval 5=decide (τ.ival 0%4611686018427387904>=64):=by
 have a:τ.ival 4=((τ.ival 3:Int).fdiv (2^(min (6:Int).toNat IntKind.u64.bits))):=eqI (e.at 1 _ rfl rfl) rfl
 have b:τ.bval 5=decide (τ.ival 4>0):=eqB (e.at 2 _ rfl rfl) rfl
 have c:=p3 e h
 rw [show (2:Int)^(min (6:Int).toNat IntKind.u64.bits)=64 by decide,Qbg (by decide)] at a
 rw [b,decide_eq_decide]
 omega
theorem p7 {τ:Sig} (e:Eqs τ 3 wb9G) (h:Pl τ):τ.bval 7=decide (τ.ival 0%4611686018427387904>=16384):=by
 have a:τ.ival 6=((τ.ival 3:Int).fdiv (2^(min (14:Int).toNat IntKind.u64.bits))):=eqI (e.at 3 _ rfl rfl) rfl
 have b:τ.bval 7=decide (τ.ival 6>0):=eqB (e.at 4 _ rfl rfl) rfl
 have c:=p3 e h
 rw [show (2:Int)^(min (14:Int).toNat IntKind.u64.bits)=16384 by decide,Qbg (by decide)] at a
 rw [b,decide_eq_decide]
 omega
theorem p9 {τ:Sig} (e:Eqs τ 3 wb9G) (h:Pl τ):τ.bval 9=decide (τ.ival 0%4611686018427387904>=1073741824):=by
 have a:τ.ival 8=((τ.ival 3:Int).fdiv (2^(min (30:Int).toNat IntKind.u64.bits))):=eqI (e.at 5 _ rfl rfl) rfl
 have b:τ.bval 9=decide (τ.ival 8>0):=eqB (e.at 6 _ rfl rfl) rfl
 have c:=p3 e h
 rw [show (2:Int)^(min (30:Int).toNat IntKind.u64.bits)=1073741824 by decide,Qbg (by decide)] at a
 rw [b,decide_eq_decide]
 omega
theorem s17 {τ:Sig} (e:Eqs τ 3 wb9G) (h:Pl τ):τ.ival 17=τ.ival 1+1:=by
 have b:τ.ival 17=IntKind.i64.wrap (τ.ival 1+1):=eqI (e.at 14 _ rfl rfl) rfl
 have c:=h.lo
 have d:=h.hi
 rw [Qh] at b
 omega
theorem s24 {τ:Sig} (e:Eqs τ 3 wb9G) (h:Pl τ):τ.ival 24=τ.ival 1+2:=by
 have b:τ.ival 24=IntKind.i64.wrap (τ.ival 17+1):=eqI (e.at 21 _ rfl rfl) rfl
 have a:=s17 e h
 have c:=h.lo
 have d:=h.hi
 rw [Qh] at b
 omega
theorem s31 {τ:Sig} (e:Eqs τ 3 wb9G) (h:Pl τ):τ.ival 31=τ.ival 1+3:=by
 have b:τ.ival 31=IntKind.i64.wrap (τ.ival 24+1):=eqI (e.at 28 _ rfl rfl) rfl
 have a:=s24 e h
 have c:=h.lo
 have d:=h.hi
 rw [Qh] at b
 omega
theorem s38 {τ:Sig} (e:Eqs τ 3 wb9G) (h:Pl τ):τ.ival 38=τ.ival 1+4:=by
 have b:τ.ival 38=IntKind.i64.wrap (τ.ival 31+1):=eqI (e.at 35 _ rfl rfl) rfl
 have a:=s31 e h
 have c:=h.lo
 have d:=h.hi
 rw [Qh] at b
 omega
theorem s45 {τ:Sig} (e:Eqs τ 3 wb9G) (h:Pl τ):τ.ival 45=τ.ival 1+5:=by
 have b:τ.ival 45=IntKind.i64.wrap (τ.ival 38+1):=eqI (e.at 42 _ rfl rfl) rfl
 have a:=s38 e h
 have c:=h.lo
 have d:=h.hi
 rw [Qh] at b
 omega
theorem s52 {τ:Sig} (e:Eqs τ 3 wb9G) (h:Pl τ):τ.ival 52=τ.ival 1+6:=by
 have b:τ.ival 52=IntKind.i64.wrap (τ.ival 45+1):=eqI (e.at 49 _ rfl rfl) rfl
 have a:=s45 e h
 have c:=h.lo
 have d:=h.hi
 rw [Qh] at b
 omega
theorem s59 {τ:Sig} (e:Eqs τ 3 wb9G) (h:Pl τ):τ.ival 59=τ.ival 1+7:=by
 have b:τ.ival 59=IntKind.i64.wrap (τ.ival 52+1):=eqI (e.at 56 _ rfl rfl) rfl
 have a:=s52 e h
 have c:=h.lo
 have d:=h.hi
 rw [Qh] at b
 omega
theorem s66 {τ:Sig} (e:Eqs τ 3 wb9G) (h:Pl τ):τ.ival 66=τ.ival 1+8:=by
 have b:τ.ival 66=IntKind.i64.wrap (τ.ival 59+1):=eqI (e.at 63 _ rfl rfl) rfl
 have a:=s59 e h
 have c:=h.lo
 have d:=h.hi
 rw [Qh] at b
 omega
theorem t11 {τ:Sig} (e:Eqs τ 3 wb9G) (h:Pl τ) (f:τ.bval 11=false):False:=by
 have b:τ.bval 11=decide (0<=τ.ival 1):=eqB (e.at 8 _ rfl rfl) rfl
 have c:=h.lo
 have d:=h.hi
 rw [f] at b
 have:=of_decide_eq_false b.symm
 omega
theorem t12 {τ:Sig} (e:Eqs τ 3 wb9G) (h:Pl τ) (f:τ.bval 12=false):False:=by
 have b:τ.bval 12=decide (τ.ival 1<=τ.ival 1):=eqB (e.at 9 _ rfl rfl) rfl
 have c:=h.lo
 have d:=h.hi
 rw [f] at b
 have:=of_decide_eq_false b.symm
 omega
theorem t18 {τ:Sig} (e:Eqs τ 3 wb9G) (h:Pl τ) (f:τ.bval 18=false):False:=by
 have b:τ.bval 18=decide (0<=τ.ival 17):=eqB (e.at 15 _ rfl rfl) rfl
 have a17:=s17 e h
 have c:=h.lo
 have d:=h.hi
 rw [f] at b
 have:=of_decide_eq_false b.symm
 omega
theorem t19 {τ:Sig} (e:Eqs τ 3 wb9G) (h:Pl τ) (f:τ.bval 19=false):False:=by
 have b:τ.bval 19=decide (τ.ival 17<=140737488355328):=eqB (e.at 16 _ rfl rfl) rfl
 have a17:=s17 e h
 have c:=h.lo
 have d:=h.hi
 rw [f] at b
 have:=of_decide_eq_false b.symm
 omega
theorem t25 {τ:Sig} (e:Eqs τ 3 wb9G) (h:Pl τ) (f:τ.bval 25=false):False:=by
 have b:τ.bval 25=decide (0<=τ.ival 24):=eqB (e.at 22 _ rfl rfl) rfl
 have a24:=s24 e h
 have c:=h.lo
 have d:=h.hi
 rw [f] at b
 have:=of_decide_eq_false b.symm
 omega
theorem t26 {τ:Sig} (e:Eqs τ 3 wb9G) (h:Pl τ) (f:τ.bval 26=false):False:=by
 have b:τ.bval 26=decide (τ.ival 24<=140737488355328):=eqB (e.at 23 _ rfl rfl) rfl
 have a24:=s24 e h
 have c:=h.lo
 have d:=h.hi
 rw [f] at b
 have:=of_decide_eq_false b.symm
 omega
theorem t32 {τ:Sig} (e:Eqs τ 3 wb9G) (h:Pl τ) (f:τ.bval 32=false):False:=by
 have b:τ.bval 32=decide (0<=τ.ival 31):=eqB (e.at 29 _ rfl rfl) rfl
 have a31:=s31 e h
 have c:=h.lo
 have d:=h.hi
 rw [f] at b
 have:=of_decide_eq_false b.symm
 omega
theorem t33 {τ:Sig} (e:Eqs τ 3 wb9G) (h:Pl τ) (f:τ.bval 33=false):False:=by
 have b:τ.bval 33=decide (τ.ival 31<=140737488355328):=eqB (e.at 30 _ rfl rfl) rfl
 have a31:=s31 e h
 have c:=h.lo
 have d:=h.hi
 rw [f] at b
 have:=of_decide_eq_false b.symm
 omega
theorem t39 {τ:Sig} (e:Eqs τ 3 wb9G) (h:Pl τ) (f:τ.bval 39=false):False:=by
 have b:τ.bval 39=decide (0<=τ.ival 38):=eqB (e.at 36 _ rfl rfl) rfl
 have a38:=s38 e h
 have c:=h.lo
 have d:=h.hi
 rw [f] at b
 have:=of_decide_eq_false b.symm
 omega
theorem t40 {τ:Sig} (e:Eqs τ 3 wb9G) (h:Pl τ) (f:τ.bval 40=false):False:=by
 have b:τ.bval 40=decide (τ.ival 38<=140737488355328):=eqB (e.at 37 _ rfl rfl) rfl
 have a38:=s38 e h
 have c:=h.lo
 have d:=h.hi
 rw [f] at b
 have:=of_decide_eq_false b.symm
 omega
theorem t46 {τ:Sig} (e:Eqs τ 3 wb9G) (h:Pl τ) (f:τ.bval 46=false):False:=by
 have b:τ.bval 46=decide (0<=τ.ival 45):=eqB (e.at 43 _ rfl rfl) rfl
 have a45:=s45 e h
 have c:=h.lo
 have d:=h.hi
 rw [f] at b
 have:=of_decide_eq_false b.symm
 omega
theorem t47 {τ:Sig} (e:Eqs τ 3 wb9G) (h:Pl τ) (f:τ.bval 47=false):False:=by
 have b:τ.bval 47=decide (τ.ival 45<=140737488355328):=eqB (e.at 44 _ rfl rfl) rfl
 have a45:=s45 e h
 have c:=h.lo
 have d:=h.hi
 rw [f] at b
 have:=of_decide_eq_false b.symm
 omega
theorem t53 {τ:Sig} (e:Eqs τ 3 wb9G) (h:Pl τ) (f:τ.bval 53=false):False:=by
 have b:τ.bval 53=decide (0<=τ.ival 52):=eqB (e.at 50 _ rfl rfl) rfl
 have a52:=s52 e h
 have c:=h.lo
 have d:=h.hi
 rw [f] at b
 have:=of_decide_eq_false b.symm
 omega
theorem t54 {τ:Sig} (e:Eqs τ 3 wb9G) (h:Pl τ) (f:τ.bval 54=false):False:=by
 have b:τ.bval 54=decide (τ.ival 52<=140737488355328):=eqB (e.at 51 _ rfl rfl) rfl
 have a52:=s52 e h
 have c:=h.lo
 have d:=h.hi
 rw [f] at b
 have:=of_decide_eq_false b.symm
 omega
theorem t60 {τ:Sig} (e:Eqs τ 3 wb9G) (h:Pl τ) (f:τ.bval 60=false):False:=by
 have b:τ.bval 60=decide (0<=τ.ival 59):=eqB (e.at 57 _ rfl rfl) rfl
 have a59:=s59 e h
 have c:=h.lo
 have d:=h.hi
 rw [f] at b
 have:=of_decide_eq_false b.symm
 omega
theorem t61 {τ:Sig} (e:Eqs τ 3 wb9G) (h:Pl τ) (f:τ.bval 61=false):False:=by
 have b:τ.bval 61=decide (τ.ival 59<=140737488355328):=eqB (e.at 58 _ rfl rfl) rfl
 have a59:=s59 e h
 have c:=h.lo
 have d:=h.hi
 rw [f] at b
 have:=of_decide_eq_false b.symm
 omega
theorem t67 {τ:Sig} (e:Eqs τ 3 wb9G) (h:Pl τ) (f:τ.bval 67=false):False:=by
 have b:τ.bval 67=decide (0<=τ.ival 66):=eqB (e.at 64 _ rfl rfl) rfl
 have a66:=s66 e h
 have c:=h.lo
 have d:=h.hi
 rw [f] at b
 have:=of_decide_eq_false b.symm
 omega
theorem t68 {τ:Sig} (e:Eqs τ 3 wb9G) (h:Pl τ) (f:τ.bval 68=false):False:=by
 have b:τ.bval 68=decide (τ.ival 66<=140737488355328):=eqB (e.at 65 _ rfl rfl) rfl
 have a66:=s66 e h
 have c:=h.lo
 have d:=h.hi
 rw [f] at b
 have:=of_decide_eq_false b.symm
 omega
theorem o10 {τ:Sig} (e:Eqs τ 3 wb9G) (h:Pl τ) (h1:1073741824<=τ.ival 0%4611686018427387904) (h2:τ.ival 0%4611686018427387904<4611686018427387904):τ.ival 10=τ.ival 0%4611686018427387904+13835058055282163712:=by
 have b:τ.ival 10=IntKind.u64.wrap (BitVec.ofInt IntKind.u64.bits (τ.ival 3)|||BitVec.ofInt IntKind.u64.bits (13835058055282163712)).toNat:=eqI (e.at 7 _ rfl rfl) rfl
 rw [b,p3 e h]
 exact Qqn 62 3 (by decide) (by omega) (by omega) (by decide)
theorem c10 {τ:Sig} (e:Eqs τ 3 wb9G) (h:Pl τ) (h1:1073741824<=τ.ival 0%4611686018427387904) (h2:τ.ival 0%4611686018427387904<4611686018427387904):τ.sval 65=τ.sval 2++bs (pbL (τ.ival 0)):=by
 have a:=o10 e h h1 h2
 have u0:τ.ival 13=τ.ival 10/72057594037927936:=(eqI (x:=(τ.ival 10:Int).fdiv (2^(min (56:Int).toNat IntKind.u64.bits))) (e.at 10 _ rfl rfl) rfl).trans (by rw [show (2:Int)^(min (56:Int).toNat IntKind.u64.bits)=72057594037927936 by decide];exact Qbg (by decide))
 have v0:τ.ival 14=(τ.ival 0%4611686018427387904)/72057594037927936+192:=by
  have w:τ.ival 14=IntKind.u8.wrap (τ.ival 13):=eqI (e.at 11 _ rfl rfl) rfl
  rw [wr_u8] at w
  omega
 have r0:τ.sval 15=bs [(τ.ival 0%4611686018427387904)/72057594037927936+192]:=by rw [Qbu (n:=τ.ival 14) (e.at 12 _ rfl rfl) rfl (by omega) (by omega),v0]
 have k0:τ.sval 16=τ.sval 2++τ.sval 15:=Qu (e.at 13 _ rfl rfl) rfl rfl
 have u1:τ.ival 20=τ.ival 10/281474976710656:=(eqI (x:=(τ.ival 10:Int).fdiv (2^(min (48:Int).toNat IntKind.u64.bits))) (e.at 17 _ rfl rfl) rfl).trans (by rw [show (2:Int)^(min (48:Int).toNat IntKind.u64.bits)=281474976710656 by decide];exact Qbg (by decide))
 have v1:τ.ival 21=(τ.ival 0%4611686018427387904)/281474976710656%256:=by
  have w:τ.ival 21=IntKind.u8.wrap (τ.ival 20):=eqI (e.at 18 _ rfl rfl) rfl
  rw [wr_u8] at w
  omega
 have r1:τ.sval 22=bs [(τ.ival 0%4611686018427387904)/281474976710656%256]:=by rw [Qbu (n:=τ.ival 21) (e.at 19 _ rfl rfl) rfl (by omega) (by omega),v1]
 have k1:τ.sval 23=τ.sval 16++τ.sval 22:=Qu (e.at 20 _ rfl rfl) rfl rfl
 have u2:τ.ival 27=τ.ival 10/1099511627776:=(eqI (x:=(τ.ival 10:Int).fdiv (2^(min (40:Int).toNat IntKind.u64.bits))) (e.at 24 _ rfl rfl) rfl).trans (by rw [show (2:Int)^(min (40:Int).toNat IntKind.u64.bits)=1099511627776 by decide];exact Qbg (by decide))
 have v2:τ.ival 28=(τ.ival 0%4611686018427387904)/1099511627776%256:=by
  have w:τ.ival 28=IntKind.u8.wrap (τ.ival 27):=eqI (e.at 25 _ rfl rfl) rfl
  rw [wr_u8] at w
  omega
 have r2:τ.sval 29=bs [(τ.ival 0%4611686018427387904)/1099511627776%256]:=by rw [Qbu (n:=τ.ival 28) (e.at 26 _ rfl rfl) rfl (by omega) (by omega),v2]
 have k2:τ.sval 30=τ.sval 23++τ.sval 29:=Qu (e.at 27 _ rfl rfl) rfl rfl
 have u3:τ.ival 34=τ.ival 10/4294967296:=(eqI (x:=(τ.ival 10:Int).fdiv (2^(min (32:Int).toNat IntKind.u64.bits))) (e.at 31 _ rfl rfl) rfl).trans (by rw [show (2:Int)^(min (32:Int).toNat IntKind.u64.bits)=4294967296 by decide];exact Qbg (by decide))
 have v3:τ.ival 35=(τ.ival 0%4611686018427387904)/4294967296%256:=by
  have w:τ.ival 35=IntKind.u8.wrap (τ.ival 34):=eqI (e.at 32 _ rfl rfl) rfl
  rw [wr_u8] at w
  omega
 have r3:τ.sval 36=bs [(τ.ival 0%4611686018427387904)/4294967296%256]:=by rw [Qbu (n:=τ.ival 35) (e.at 33 _ rfl rfl) rfl (by omega) (by omega),v3]
 have k3:τ.sval 37=τ.sval 30++τ.sval 36:=Qu (e.at 34 _ rfl rfl) rfl rfl
 have u4:τ.ival 41=τ.ival 10/16777216:=(eqI (x:=(τ.ival 10:Int).fdiv (2^(min (24:Int).toNat IntKind.u64.bits))) (e.at 38 _ rfl rfl) rfl).trans (by rw [show (2:Int)^(min (24:Int).toNat IntKind.u64.bits)=16777216 by decide];exact Qbg (by decide))
 have v4:τ.ival 42=(τ.ival 0%4611686018427387904)/16777216%256:=by
  have w:τ.ival 42=IntKind.u8.wrap (τ.ival 41):=eqI (e.at 39 _ rfl rfl) rfl
  rw [wr_u8] at w
  omega
 have r4:τ.sval 43=bs [(τ.ival 0%4611686018427387904)/16777216%256]:=by rw [Qbu (n:=τ.ival 42) (e.at 40 _ rfl rfl) rfl (by omega) (by omega),v4]
 have k4:τ.sval 44=τ.sval 37++τ.sval 43:=Qu (e.at 41 _ rfl rfl) rfl rfl
 have u5:τ.ival 48=τ.ival 10/65536:=(eqI (x:=(τ.ival 10:Int).fdiv (2^(min (16:Int).toNat IntKind.u64.bits))) (e.at 45 _ rfl rfl) rfl).trans (by rw [show (2:Int)^(min (16:Int).toNat IntKind.u64.bits)=65536 by decide];exact Qbg (by decide))
 have v5:τ.ival 49=(τ.ival 0%4611686018427387904)/65536%256:=by
  have w:τ.ival 49=IntKind.u8.wrap (τ.ival 48):=eqI (e.at 46 _ rfl rfl) rfl
  rw [wr_u8] at w
  omega
 have r5:τ.sval 50=bs [(τ.ival 0%4611686018427387904)/65536%256]:=by rw [Qbu (n:=τ.ival 49) (e.at 47 _ rfl rfl) rfl (by omega) (by omega),v5]
 have k5:τ.sval 51=τ.sval 44++τ.sval 50:=Qu (e.at 48 _ rfl rfl) rfl rfl
 have u6:τ.ival 55=τ.ival 10/256:=(eqI (x:=(τ.ival 10:Int).fdiv (2^(min (8:Int).toNat IntKind.u64.bits))) (e.at 52 _ rfl rfl) rfl).trans (by rw [show (2:Int)^(min (8:Int).toNat IntKind.u64.bits)=256 by decide];exact Qbg (by decide))
 have v6:τ.ival 56=(τ.ival 0%4611686018427387904)/256%256:=by
  have w:τ.ival 56=IntKind.u8.wrap (τ.ival 55):=eqI (e.at 53 _ rfl rfl) rfl
  rw [wr_u8] at w
  omega
 have r6:τ.sval 57=bs [(τ.ival 0%4611686018427387904)/256%256]:=by rw [Qbu (n:=τ.ival 56) (e.at 54 _ rfl rfl) rfl (by omega) (by omega),v6]
 have k6:τ.sval 58=τ.sval 51++τ.sval 57:=Qu (e.at 55 _ rfl rfl) rfl rfl
 have u7:τ.ival 62=τ.ival 10/1:=(eqI (x:=(τ.ival 10:Int).fdiv (2^(min (0:Int).toNat IntKind.u64.bits))) (e.at 59 _ rfl rfl) rfl).trans (by rw [show (2:Int)^(min (0:Int).toNat IntKind.u64.bits)=1 by decide];exact Qbg (by decide))
 have v7:τ.ival 63=(τ.ival 0%4611686018427387904)%256:=by
  have w:τ.ival 63=IntKind.u8.wrap (τ.ival 62):=eqI (e.at 60 _ rfl rfl) rfl
  rw [wr_u8] at w
  omega
 have r7:τ.sval 64=bs [(τ.ival 0%4611686018427387904)%256]:=by rw [Qbu (n:=τ.ival 63) (e.at 61 _ rfl rfl) rfl (by omega) (by omega),v7]
 have k7:τ.sval 65=τ.sval 58++τ.sval 64:=Qu (e.at 62 _ rfl rfl) rfl rfl
 rw [k7,k6,k5,k4,k3,k2,k1,k0,r0,r1,r2,r3,r4,r5,r6,r7]
 try simp only [ByteArray.append_assoc,Qc0,List.cons_append,List.nil_append]
 unfold pbL pbM
 rw [if_neg (by omega),if_neg (by omega),if_neg (by omega)]
theorem l10 {τ:Sig} (h1:1073741824<=τ.ival 0%4611686018427387904) (h2:τ.ival 0%4611686018427387904<4611686018427387904):(pbL (τ.ival 0)).length=8:=by
 unfold pbL pbM
 rw [if_neg (by omega),if_neg (by omega),if_neg (by omega)]
 rfl
theorem o69 {τ:Sig} (e:Eqs τ 3 wb9G) (h:Pl τ) (h1:16384<=τ.ival 0%4611686018427387904) (h2:τ.ival 0%4611686018427387904<1073741824):τ.ival 69=τ.ival 0%4611686018427387904+2147483648:=by
 have b:τ.ival 69=IntKind.u64.wrap (BitVec.ofInt IntKind.u64.bits (τ.ival 3)|||BitVec.ofInt IntKind.u64.bits (2147483648)).toNat:=eqI (e.at 66 _ rfl rfl) rfl
 rw [b,p3 e h]
 exact Qqn 30 2 (by decide) (by omega) (by omega) (by decide)
theorem c69 {τ:Sig} (e:Eqs τ 3 wb9G) (h:Pl τ) (h1:16384<=τ.ival 0%4611686018427387904) (h2:τ.ival 0%4611686018427387904<1073741824):τ.sval 85=τ.sval 2++bs (pbL (τ.ival 0)):=by
 have a:=o69 e h h1 h2
 have u0:τ.ival 70=τ.ival 69/16777216:=(eqI (x:=(τ.ival 69:Int).fdiv (2^(min (24:Int).toNat IntKind.u64.bits))) (e.at 67 _ rfl rfl) rfl).trans (by rw [show (2:Int)^(min (24:Int).toNat IntKind.u64.bits)=16777216 by decide];exact Qbg (by decide))
 have v0:τ.ival 71=(τ.ival 0%4611686018427387904)/16777216+128:=by
  have w:τ.ival 71=IntKind.u8.wrap (τ.ival 70):=eqI (e.at 68 _ rfl rfl) rfl
  rw [wr_u8] at w
  omega
 have r0:τ.sval 72=bs [(τ.ival 0%4611686018427387904)/16777216+128]:=by rw [Qbu (n:=τ.ival 71) (e.at 69 _ rfl rfl) rfl (by omega) (by omega),v0]
 have k0:τ.sval 73=τ.sval 2++τ.sval 72:=Qu (e.at 70 _ rfl rfl) rfl rfl
 have u1:τ.ival 74=τ.ival 69/65536:=(eqI (x:=(τ.ival 69:Int).fdiv (2^(min (16:Int).toNat IntKind.u64.bits))) (e.at 71 _ rfl rfl) rfl).trans (by rw [show (2:Int)^(min (16:Int).toNat IntKind.u64.bits)=65536 by decide];exact Qbg (by decide))
 have v1:τ.ival 75=(τ.ival 0%4611686018427387904)/65536%256:=by
  have w:τ.ival 75=IntKind.u8.wrap (τ.ival 74):=eqI (e.at 72 _ rfl rfl) rfl
  rw [wr_u8] at w
  omega
 have r1:τ.sval 76=bs [(τ.ival 0%4611686018427387904)/65536%256]:=by rw [Qbu (n:=τ.ival 75) (e.at 73 _ rfl rfl) rfl (by omega) (by omega),v1]
 have k1:τ.sval 77=τ.sval 73++τ.sval 76:=Qu (e.at 74 _ rfl rfl) rfl rfl
 have u2:τ.ival 78=τ.ival 69/256:=(eqI (x:=(τ.ival 69:Int).fdiv (2^(min (8:Int).toNat IntKind.u64.bits))) (e.at 75 _ rfl rfl) rfl).trans (by rw [show (2:Int)^(min (8:Int).toNat IntKind.u64.bits)=256 by decide];exact Qbg (by decide))
 have v2:τ.ival 79=(τ.ival 0%4611686018427387904)/256%256:=by
  have w:τ.ival 79=IntKind.u8.wrap (τ.ival 78):=eqI (e.at 76 _ rfl rfl) rfl
  rw [wr_u8] at w
  omega
 have r2:τ.sval 80=bs [(τ.ival 0%4611686018427387904)/256%256]:=by rw [Qbu (n:=τ.ival 79) (e.at 77 _ rfl rfl) rfl (by omega) (by omega),v2]
 have k2:τ.sval 81=τ.sval 77++τ.sval 80:=Qu (e.at 78 _ rfl rfl) rfl rfl
 have u3:τ.ival 82=τ.ival 69/1:=(eqI (x:=(τ.ival 69:Int).fdiv (2^(min (0:Int).toNat IntKind.u64.bits))) (e.at 79 _ rfl rfl) rfl).trans (by rw [show (2:Int)^(min (0:Int).toNat IntKind.u64.bits)=1 by decide];exact Qbg (by decide))
 have v3:τ.ival 83=(τ.ival 0%4611686018427387904)%256:=by
  have w:τ.ival 83=IntKind.u8.wrap (τ.ival 82):=eqI (e.at 80 _ rfl rfl) rfl
  rw [wr_u8] at w
  omega
 have r3:τ.sval 84=bs [(τ.ival 0%4611686018427387904)%256]:=by rw [Qbu (n:=τ.ival 83) (e.at 81 _ rfl rfl) rfl (by omega) (by omega),v3]
 have k3:τ.sval 85=τ.sval 81++τ.sval 84:=Qu (e.at 82 _ rfl rfl) rfl rfl
 rw [k3,k2,k1,k0,r0,r1,r2,r3]
 try simp only [ByteArray.append_assoc,Qc0,List.cons_append,List.nil_append]
 unfold pbL pbM
 repeat (first|rw [if_pos (by omega)]|rw [if_neg (by omega)])
theorem l69 {τ:Sig} (h1:16384<=τ.ival 0%4611686018427387904) (h2:τ.ival 0%4611686018427387904<1073741824):(pbL (τ.ival 0)).length=4:=by
 unfold pbL pbM
 repeat (first|rw [if_pos (by omega)]|rw [if_neg (by omega)])
 rfl
theorem o86 {τ:Sig} (e:Eqs τ 3 wb9G) (h:Pl τ) (h1:64<=τ.ival 0%4611686018427387904) (h2:τ.ival 0%4611686018427387904<16384):τ.ival 86=τ.ival 0%4611686018427387904+16384:=by
 have b:τ.ival 86=IntKind.u64.wrap (BitVec.ofInt IntKind.u64.bits (τ.ival 3)|||BitVec.ofInt IntKind.u64.bits (16384)).toNat:=eqI (e.at 83 _ rfl rfl) rfl
 rw [b,p3 e h]
 exact Qqn 14 1 (by decide) (by omega) (by omega) (by decide)
theorem c86 {τ:Sig} (e:Eqs τ 3 wb9G) (h:Pl τ) (h1:64<=τ.ival 0%4611686018427387904) (h2:τ.ival 0%4611686018427387904<16384):τ.sval 94=τ.sval 2++bs (pbL (τ.ival 0)):=by
 have a:=o86 e h h1 h2
 have u0:τ.ival 87=τ.ival 86/256:=(eqI (x:=(τ.ival 86:Int).fdiv (2^(min (8:Int).toNat IntKind.u64.bits))) (e.at 84 _ rfl rfl) rfl).trans (by rw [show (2:Int)^(min (8:Int).toNat IntKind.u64.bits)=256 by decide];exact Qbg (by decide))
 have v0:τ.ival 88=(τ.ival 0%4611686018427387904)/256+64:=by
  have w:τ.ival 88=IntKind.u8.wrap (τ.ival 87):=eqI (e.at 85 _ rfl rfl) rfl
  rw [wr_u8] at w
  omega
 have r0:τ.sval 89=bs [(τ.ival 0%4611686018427387904)/256+64]:=by rw [Qbu (n:=τ.ival 88) (e.at 86 _ rfl rfl) rfl (by omega) (by omega),v0]
 have k0:τ.sval 90=τ.sval 2++τ.sval 89:=Qu (e.at 87 _ rfl rfl) rfl rfl
 have u1:τ.ival 91=τ.ival 86/1:=(eqI (x:=(τ.ival 86:Int).fdiv (2^(min (0:Int).toNat IntKind.u64.bits))) (e.at 88 _ rfl rfl) rfl).trans (by rw [show (2:Int)^(min (0:Int).toNat IntKind.u64.bits)=1 by decide];exact Qbg (by decide))
 have v1:τ.ival 92=(τ.ival 0%4611686018427387904)%256:=by
  have w:τ.ival 92=IntKind.u8.wrap (τ.ival 91):=eqI (e.at 89 _ rfl rfl) rfl
  rw [wr_u8] at w
  omega
 have r1:τ.sval 93=bs [(τ.ival 0%4611686018427387904)%256]:=by rw [Qbu (n:=τ.ival 92) (e.at 90 _ rfl rfl) rfl (by omega) (by omega),v1]
 have k1:τ.sval 94=τ.sval 90++τ.sval 93:=Qu (e.at 91 _ rfl rfl) rfl rfl
 rw [k1,k0,r0,r1]
 try simp only [ByteArray.append_assoc,Qc0,List.cons_append,List.nil_append]
 unfold pbL pbM
 repeat (first|rw [if_pos (by omega)]|rw [if_neg (by omega)])
theorem l86 {τ:Sig} (h1:64<=τ.ival 0%4611686018427387904) (h2:τ.ival 0%4611686018427387904<16384):(pbL (τ.ival 0)).length=2:=by
 unfold pbL pbM
 repeat (first|rw [if_pos (by omega)]|rw [if_neg (by omega)])
 rfl
theorem o95 {τ:Sig} (e:Eqs τ 3 wb9G) (h:Pl τ) (h1:0<=τ.ival 0%4611686018427387904) (h2:τ.ival 0%4611686018427387904<64):τ.ival 95=τ.ival 0%4611686018427387904+0:=by
 have b:τ.ival 95=IntKind.u64.wrap (BitVec.ofInt IntKind.u64.bits (τ.ival 3)|||BitVec.ofInt IntKind.u64.bits (0)).toNat:=eqI (e.at 92 _ rfl rfl) rfl
 rw [b,p3 e h]
 exact Qqn 6 0 (by decide) (by omega) (by omega) (by decide)
theorem c95 {τ:Sig} (e:Eqs τ 3 wb9G) (h:Pl τ) (h1:0<=τ.ival 0%4611686018427387904) (h2:τ.ival 0%4611686018427387904<64):τ.sval 99=τ.sval 2++bs (pbL (τ.ival 0)):=by
 have a:=o95 e h h1 h2
 have u0:τ.ival 96=τ.ival 95/1:=(eqI (x:=(τ.ival 95:Int).fdiv (2^(min (0:Int).toNat IntKind.u64.bits))) (e.at 93 _ rfl rfl) rfl).trans (by rw [show (2:Int)^(min (0:Int).toNat IntKind.u64.bits)=1 by decide];exact Qbg (by decide))
 have v0:τ.ival 97=τ.ival 0%4611686018427387904:=by
  have w:τ.ival 97=IntKind.u8.wrap (τ.ival 96):=eqI (e.at 94 _ rfl rfl) rfl
  rw [wr_u8] at w
  omega
 have r0:τ.sval 98=bs [τ.ival 0%4611686018427387904]:=by rw [Qbu (n:=τ.ival 97) (e.at 95 _ rfl rfl) rfl (by omega) (by omega),v0]
 have k0:τ.sval 99=τ.sval 2++τ.sval 98:=Qu (e.at 96 _ rfl rfl) rfl rfl
 rw [k0,r0]
 try simp only [ByteArray.append_assoc,Qc0,List.cons_append,List.nil_append]
 unfold pbL pbM
 repeat (first|rw [if_pos (by omega)]|rw [if_neg (by omega)])
theorem l95 {τ:Sig} (h1:0<=τ.ival 0%4611686018427387904) (h2:τ.ival 0%4611686018427387904<64):(pbL (τ.ival 0)).length=1:=by
 unfold pbL pbM
 repeat (first|rw [if_pos (by omega)]|rw [if_neg (by omega)])
 rfl
theorem E9 {g:Inj} {w:World} {τ:Sig} {l:Asg} {hH:HRel (cx0 Qa) g sf9.pre w} {hg:g.sig.tab=Qa} (h:Qin (asgS τ l) g.sig [(6,.symi .i64 6),(4,.syms 4),(6,.symi .i64 6)]) (hx:τ.ext=g.sig.ext):
  EndZ Qa 42 (Qbh g w sf9.pre.length) (bodyPost Tryd.prog Tryd.f28 (MemR Qa sf9 g w)) .ret wbE9 (asgS τ l):=
 Qeu (M:=7) (l:=[(6,.symi .i64 6),(4,.syms 4),(6,.symi .i64 6)]) (vs:=[.lsl 1 1 true (.int .i64 0) (.symi .i64 6)]) (by kernel_rfl) rfl rfl hH hg rfl rfl rfl (by kernel_rfl) (by kernel_rfl) h (by decide) hx (.inl rfl)
set_option maxHeartbeats 0 in
theorem c9:SymFOk Tryd.prog Qa (fun _=>True) sf9:=
  Qel Tryd.func28 rfl (n:=42) rfl (by decide) (by decide) rfl rfl (by kernel_rfl) (fun g w hg _ hE hI hpc hH=>by
    refine Qf.last mixed Qbj0 ⟨rfl,rfl⟩ (fun σ τ ag h=>h.trans' ag) (fun τ h=>Qbe) (fun τ e ht hi ag=> ?_) (pin0 (by kernel_rfl))
    . have hx:τ.ext=g.sig.ext:=ag.ext.symm
      have q0:=hpc (.bin .leq (.int .i64 0) (.symi .i64 1)) (by simp [sf9])
      have q1:=hpc (.bin .leq (.symi .i64 1) (.int .i64 1000000)) (by simp [sf9])
      simp only [Qb,den,binS,intA,if_true,Option.some.injEq,AVal.bool.injEq,decide_eq_true_eq] at q0 q1
      have i0:=hi 0 .u64 (by decide) rfl
      rw [Qj] at i0
      have a0:=(ag.val 0 (by decide)).1
      have a1:=(ag.val 1 (by decide)).1
      have a2:=(ag.val 2 (by decide)).2.2
      have hp:Pl τ:=⟨by omega,by omega,by omega,by omega⟩
      have g3:g.sig.sval 3=bs (pbL (τ.ival 0)):=by
        have h3:g.sig.sval 3=decS (g.sig.tab 192 [g.sig.ival 0]):=eqFs (hE.at 0 _ rfl rfl)
        rw [hg,lg_pb,a0] at h3;exact h3
      have g4:g.sig.sval 4=τ.sval 2++bs (pbL (τ.ival 0)):=by
        have h4:g.sig.sval 4=g.sig.sval 2++g.sig.sval 3:=Qu (hE.at 1 _ rfl rfl) rfl rfl
        rw [a2,g3] at h4;exact h4
      have g6:g.sig.ival 6=τ.ival 1+((pbL (τ.ival 0)).length:Int):=by
        have h5:g.sig.ival 5=IntKind.i64.wrap (g.sig.tab 193 [g.sig.ival 0]):=eqI (hE.at 2 _ rfl rfl) rfl
        have h6:g.sig.ival 6=IntKind.i64.wrap (g.sig.ival 1+g.sig.ival 5):=eqI (hE.at 3 _ rfl rfl) rfl
        have hl:=Qd6 (τ.ival 0)
        rw [hg,lg_pl,a0,Qh] at h5
        rw [Qh] at h6
        omega
      refine Q6 ?_
      exact ⟨fun f0=>⟨fun f1=>⟨fun f2=>⟨fun f3=>⟨fun f4=>⟨fun f5=>⟨fun f6=>⟨fun f7=>⟨fun f8=>⟨fun f9=>⟨fun f10=>⟨fun f11=>⟨fun f12=>⟨fun f13=>⟨fun f14=>⟨fun f15=>⟨fun f16=>⟨fun f17=>⟨fun f18=>⟨fun f19=>⟨fun f20=>(by have g5:=p5 e hp;rw [f0] at g5;have g5:=of_decide_eq_true g5.symm;have g7:=p7 e hp;rw [f1] at g7;have g7:=of_decide_eq_true g7.symm;have g9:=p9 e hp;rw [f2] at g9;have g9:=of_decide_eq_true g9.symm;have cc:=c10 e hp (by omega) (by omega);have ll:=l10 (τ:=τ) (by omega) (by omega);have ss:=s66 e hp;exact E9 (hH:=hH) (hg:=hg) ⟨(show AVal.int .i64 (τ.ival 66)=.int .i64 (g.sig.ival 6) by rw [g6,ss,ll];rfl),(show AVal.str (τ.sval 65)=.str (g.sig.sval 4) by rw [g4,cc]),(show AVal.int .i64 (τ.ival 66)=.int .i64 (g.sig.ival 6) by rw [g6,ss,ll];rfl),trivial⟩ hx),
 fun f20=>(by exact t68 e hp f20)⟩,
 fun f19=>(by exact t67 e hp f19)⟩,
 fun f18=>(by exact t61 e hp f18)⟩,
 fun f17=>(by exact t60 e hp f17)⟩,
 fun f16=>(by exact t54 e hp f16)⟩,
 fun f15=>(by exact t53 e hp f15)⟩,
 fun f14=>(by exact t47 e hp f14)⟩,
 fun f13=>(by exact t46 e hp f13)⟩,
 fun f12=>(by exact t40 e hp f12)⟩,
 fun f11=>(by exact t39 e hp f11)⟩,
 fun f10=>(by exact t33 e hp f10)⟩,
 fun f9=>(by exact t32 e hp f9)⟩,
 fun f8=>(by exact t26 e hp f8)⟩,
 fun f7=>(by exact t25 e hp f7)⟩,
 fun f6=>(by exact t19 e hp f6)⟩,
 fun f5=>(by exact t18 e hp f5)⟩,
 fun f4=>(by exact t12 e hp f4)⟩,
 fun f3=>(by exact t11 e hp f3)⟩,
 fun f2=>⟨fun f3=>⟨fun f4=>⟨fun f5=>⟨fun f6=>⟨fun f7=>⟨fun f8=>⟨fun f9=>⟨fun f10=>⟨fun f11=>⟨fun f12=>(by have g5:=p5 e hp;rw [f0] at g5;have g5:=of_decide_eq_true g5.symm;have g7:=p7 e hp;rw [f1] at g7;have g7:=of_decide_eq_true g7.symm;have g9:=p9 e hp;rw [f2] at g9;have g9:=of_decide_eq_false g9.symm;have cc:=c69 e hp (by omega) (by omega);have ll:=l69 (τ:=τ) (by omega) (by omega);have ss:=s38 e hp;exact E9 (hH:=hH) (hg:=hg) ⟨(show AVal.int .i64 (τ.ival 38)=.int .i64 (g.sig.ival 6) by rw [g6,ss,ll];rfl),(show AVal.str (τ.sval 85)=.str (g.sig.sval 4) by rw [g4,cc]),(show AVal.int .i64 (τ.ival 38)=.int .i64 (g.sig.ival 6) by rw [g6,ss,ll];rfl),trivial⟩ hx),
 fun f12=>(by exact t40 e hp f12)⟩,
 fun f11=>(by exact t39 e hp f11)⟩,
 fun f10=>(by exact t33 e hp f10)⟩,
 fun f9=>(by exact t32 e hp f9)⟩,
 fun f8=>(by exact t26 e hp f8)⟩,
 fun f7=>(by exact t25 e hp f7)⟩,
 fun f6=>(by exact t19 e hp f6)⟩,
 fun f5=>(by exact t18 e hp f5)⟩,
 fun f4=>(by exact t12 e hp f4)⟩,
 fun f3=>(by exact t11 e hp f3)⟩⟩,
 fun f1=>⟨fun f2=>⟨fun f3=>⟨fun f4=>⟨fun f5=>⟨fun f6=>⟨fun f7=>(by have g5:=p5 e hp;rw [f0] at g5;have g5:=of_decide_eq_true g5.symm;have g7:=p7 e hp;rw [f1] at g7;have g7:=of_decide_eq_false g7.symm;have cc:=c86 e hp (by omega) (by omega);have ll:=l86 (τ:=τ) (by omega) (by omega);have ss:=s24 e hp;exact E9 (hH:=hH) (hg:=hg) ⟨(show AVal.int .i64 (τ.ival 24)=.int .i64 (g.sig.ival 6) by rw [g6,ss,ll];rfl),(show AVal.str (τ.sval 94)=.str (g.sig.sval 4) by rw [g4,cc]),(show AVal.int .i64 (τ.ival 24)=.int .i64 (g.sig.ival 6) by rw [g6,ss,ll];rfl),trivial⟩ hx),
 fun f7=>(by exact t26 e hp f7)⟩,
 fun f6=>(by exact t25 e hp f6)⟩,
 fun f5=>(by exact t19 e hp f5)⟩,
 fun f4=>(by exact t18 e hp f4)⟩,
 fun f3=>(by exact t12 e hp f3)⟩,
 fun f2=>(by exact t11 e hp f2)⟩⟩,
 fun f0=>⟨fun f1=>⟨fun f2=>⟨fun f3=>⟨fun f4=>(by have g5:=p5 e hp;rw [f0] at g5;have g5:=of_decide_eq_false g5.symm;have cc:=c95 e hp (by omega) (by omega);have ll:=l95 (τ:=τ) (by omega) (by omega);have ss:=s17 e hp;exact E9 (hH:=hH) (hg:=hg) ⟨(show AVal.int .i64 (τ.ival 17)=.int .i64 (g.sig.ival 6) by rw [g6,ss,ll];rfl),(show AVal.str (τ.sval 99)=.str (g.sig.sval 4) by rw [g4,cc]),(show AVal.int .i64 (τ.ival 17)=.int .i64 (g.sig.ival 6) by rw [g6,ss,ll];rfl),trivial⟩ hx),
 fun f4=>(by exact t19 e hp f4)⟩,
 fun f3=>(by exact t18 e hp f3)⟩,
 fun f2=>(by exact t12 e hp f2)⟩,
 fun f1=>(by exact t11 e hp f1)⟩⟩)
end p9
end Go.Proofs.YtelimhjceiamcaaDoor.lg
