/-
 Contract of Thing.laid: its bytes behind others.
 No conditions.
-/
import Derived.Test.YtapfkgenachpgaaDoorWb9
namespace Go.Proofs.YtapfkgenachpgaaDoor.wb
open Go.Ev Go.RowKit Go.Wbp
open Go.Proofs.YtapfkgenachpgaaDoor.wn (mixed sf48 wnTbl)
set_option linter.unusedVariables false
set_option linter.unusedSimpArgs false
set_option maxRecDepth 100000 in
def wb25G:List SDef:=[.bin .leq (.int .i64 0) (.symi .i64 3),
 .bin .leq (.symi .i64 3) (.int .i64 1000000),
 .bin .rem (.symi .u8 0) (.int .u8 6),
 .bin .eql (.symi .u8 7) (.int .u8 0),
 .bin .eql (.symi .u8 7) (.int .u8 1),
 .bin .eql (.symi .u8 7) (.int .u8 2),
 .bin .eql (.symi .u8 7) (.int .u8 3),
 .bin .eql (.symi .u8 7) (.int .u8 4),
 .bin .rem (.symi .u64 1) (.int .u64 4611686018427387904),
 .sop (.fs 192) [.symi .u64 13],
 .sop .cat [.syms 4,.syms 14],
 .fn 193 .i64 [.symi .u64 13],
 .bin .add (.symi .i64 3) (.symi .i64 16),
 .conv .i64 (.symi .u64 1),
 .bin .shr (.symi .i64 18) (.int .u64 2),
 .conv .u64 (.symi .i64 19),
 .bin .shl (.symi .u64 20) (.int .u64 1),
 .bin .shr (.symi .i64 19) (.int .u64 63),
 .conv .u64 (.symi .i64 22),
 .bin .xor (.symi .u64 21) (.symi .u64 23),
 .sop (.fs 192) [.symi .u64 24],
 .sop .cat [.syms 4,.syms 25],
 .fn 193 .i64 [.symi .u64 24],
 .bin .add (.symi .i64 3) (.symi .i64 27),
 .conv .u8 (.symi .u64 1),
 .sop (.row [.some .u8]) [.symi .u8 29],
 .sop .cat [.syms 4,.syms 30],
 .bin .add (.symi .i64 3) (.int .i64 1),
 .bin .leq (.int .i64 0) (.symi .i64 32),
 .bin .leq (.symi .i64 32) (.int .i64 140737488355328),
 .bin .rem (.symi .u64 1) (.int .u64 2),
 .bin .eql (.symi .u64 35) (.int .u64 1),
 .bin .leq (.symi .i64 3) (.symi .i64 3),
 .sop (.row [.some .u8]) [.int .u8 1],
 .sop .cat [.syms 4,.syms 38],
 .sop (.row [.some .u8]) [.int .u8 0],
 .sop .cat [.syms 4,.syms 40],
 .ite (.symb 36) (.int .u8 1) (.int .u8 0),
 .ite (.symb 36) (.syms 39) (.syms 41),
 .sop .len [.syms 2],
 .low [.symi .i64 44,.int .i64 99],
 .bin .leq (.int .i64 0) (.symi .i64 45),
 .bin .leq (.symi .i64 45) (.symi .i64 44),
 .sop .sub [.syms 2,.int .i64 0,.symi .i64 45],
 .sop .len [.syms 48],
 .conv .u64 (.symi .i64 49),
 .sop (.fs 192) [.symi .u64 50],
 .sop .cat [.syms 4,.syms 51],
 .fn 193 .i64 [.symi .u64 50],
 .bin .add (.symi .i64 3) (.symi .i64 53),
 .sop .cat [.syms 52,.syms 48],
 .bin .leq (.symi .i64 49) (.int .i64 9223372036854775807),
 .bin .add (.symi .i64 54) (.symi .i64 49),
 .bin .leq (.int .i64 0) (.symi .i64 57),
 .bin .leq (.symi .i64 57) (.int .i64 140737488355328),
 .bin .rem (.symi .u64 1) (.int .u64 1000),
 .sop (.fs 192) [.symi .u64 60],
 .sop .cat [.syms 4,.syms 61],
 .fn 193 .i64 [.symi .u64 60],
 .bin .add (.symi .i64 3) (.symi .i64 63)]
set_option maxRecDepth 100000 in
def wb25T:LT:=.n (.n (.n (.n (.n (.n (.e) 5420 40 (.sop (.row [.some .u8]) [.int .u8 0]) (.e)) 6255 38 (.sop (.row [.some .u8]) [.int .u8 1]) (.n (.e) 310555 7 (.bin .rem (.symi .u8 0) (.int .u8 6)) (.e))) 23720615 14 (.sop (.fs 192) [.symi .u64 13]) (.n (.n (.e) 41108877 59 (.bin .leq (.symi .i64 57) (.int .i64 140737488355328)) (.e)) 101110718 35 (.bin .rem (.symi .u64 1) (.int .u64 2)) (.n (.e) 102811908 13 (.bin .rem (.symi .u64 1) (.int .u64 4611686018427387904)) (.e)))) 103000641 29 (.conv .u8 (.symi .u64 1)) (.n (.n (.n (.e) 103000641 18 (.conv .i64 (.symi .u64 1)) (.e)) 107581488 53 (.fn 193 .i64 [.symi .u64 50]) (.n (.e) 118523476 23 (.conv .u64 (.symi .i64 22)) (.e))) 134481512 15 (.sop .cat [.syms 4,.syms 14]) (.n (.n (.e) 151045648 60 (.bin .rem (.symi .u64 1) (.int .u64 1000)) (.e)) 175271720 26 (.sop .cat [.syms 4,.syms 25]) (.n (.e) 243831287 58 (.bin .leq (.int .i64 0) (.symi .i64 57)) (.e))))) 247159815 54 (.bin .add (.symi .i64 3) (.symi .i64 53)) (.n (.n (.n (.n (.e) 249926453 33 (.bin .leq (.int .i64 0) (.symi .i64 32)) (.e)) 259350245 37 (.bin .leq (.symi .i64 3) (.symi .i64 3)) (.n (.e) 288613347 48 (.sop .sub [.syms 2,.int .i64 0,.symi .i64 45]) (.e))) 291425617 31 (.sop .cat [.syms 4,.syms 30]) (.n (.n (.e) 303061261 32 (.bin .add (.symi .i64 3) (.int .i64 1)) (.e)) 313845553 36 (.bin .eql (.symi .u64 35) (.int .u64 1)) (.n (.e) 325248610 47 (.bin .leq (.symi .i64 45) (.symi .i64 44)) (.e)))) 334019444 44 (.sop .len [.syms 2]) (.n (.n (.n (.e) 343843591 63 (.fn 193 .i64 [.symi .u64 60]) (.e)) 354492594 24 (.bin .xor (.symi .u64 21) (.symi .u64 23)) (.n (.e) 356551373 61 (.sop (.fs 192) [.symi .u64 60]) (.e))) 414795225 45 (.low [.symi .i64 44,.int .i64 99]) (.n (.n (.e) 418555659 46 (.bin .leq (.int .i64 0) (.symi .i64 45)) (.e)) 427979353 17 (.bin .add (.symi .i64 3) (.symi .i64 16)) (.e))))) 459470114 64 (.bin .add (.symi .i64 3) (.symi .i64 63)) (.n (.n (.n (.n (.n (.e) 500110889 49 (.sop .len [.syms 48]) (.e)) 523733411 41 (.sop .cat [.syms 4,.syms 40]) (.n (.e) 548052975 30 (.sop (.row [.some .u8]) [.symi .u8 29]) (.e))) 564523619 52 (.sop .cat [.syms 4,.syms 51]) (.n (.n (.e) 565438353 55 (.sop .cat [.syms 52,.syms 48]) (.e)) 629276082 16 (.fn 193 .i64 [.symi .u64 13]) (.n (.e) 657610439 56 (.bin .leq (.symi .i64 49) (.int .i64 9223372036854775807)) (.e)))) 707012515 8 (.bin .eql (.symi .u8 7) (.int .u8 0)) (.n (.n (.n (.e) 707062550 9 (.bin .eql (.symi .u8 7) (.int .u8 1)) (.e)) 707112585 10 (.bin .eql (.symi .u8 7) (.int .u8 2)) (.n (.e) 707162620 11 (.bin .eql (.symi .u8 7) (.int .u8 3)) (.e))) 707212655 12 (.bin .eql (.symi .u8 7) (.int .u8 4)) (.n (.n (.e) 709199903 42 (.ite (.symb 36) (.int .u8 1) (.int .u8 0)) (.e)) 737326783 34 (.bin .leq (.symi .i64 32) (.int .i64 140737488355328)) (.e)))) 744374077 19 (.bin .shr (.symi .i64 18) (.int .u64 2)) (.n (.n (.n (.n (.e) 752048165 50 (.conv .u64 (.symi .i64 49)) (.e)) 786984299 25 (.sop (.fs 192) [.symi .u64 24]) (.n (.e) 796831413 62 (.sop .cat [.syms 4,.syms 61]) (.e))) 803535475 57 (.bin .add (.symi .i64 54) (.symi .i64 49)) (.n (.n (.e) 834030017 51 (.sop (.fs 192) [.symi .u64 50]) (.e)) 848426515 22 (.bin .shr (.symi .i64 19) (.int .u64 63)) (.n (.e) 883264376 20 (.conv .u64 (.symi .i64 19)) (.e)))) 900486135 43 (.ite (.symb 36) (.syms 39) (.syms 41)) (.n (.n (.n (.e) 906768583 39 (.sop .cat [.syms 4,.syms 38]) (.e)) 945887282 6 (.bin .leq (.symi .i64 3) (.int .i64 1000000)) (.n (.e) 946324641 21 (.bin .shl (.symi .u64 20) (.int .u64 1)) (.e))) 983643230 28 (.bin .add (.symi .i64 3) (.symi .i64 27)) (.n (.n (.e) 996538578 27 (.fn 193 .i64 [.symi .u64 24]) (.e)) 1030090961 5 (.bin .leq (.int .i64 0) (.symi .i64 3)) (.e)))))
set_option maxRecDepth 100000 in
def wb25W:Sw:=.node 5 (.node 6 (.node 8 (.run (.leaf .ret wbE25 [(0,0),(2,0)] [(3,.symi .i64 3),(8,.symi .i64 17),(6,.syms 15),(8,.symi .i64 17)] [])) (.node 9 (.run (.leaf .ret wbE25 [(0,0),(2,0)] [(3,.symi .i64 3),(8,.symi .i64 28),(6,.syms 26),(8,.symi .i64 28)] [])) (.node 10 (.node 33 (.node 34 (.run (.leaf .ret wbE25 [(0,0),(3,0)] [(3,.symi .i64 3),(8,.symi .i64 32),(6,.syms 31),(8,.symi .i64 32)] [])) (.dead)) (.dead)) (.node 11 (.node 37 (.node 33 (.node 34 (.run (.leaf .ret wbE25 [(0,0),(3,0)] [(3,.symi .i64 3),(8,.symi .i64 32),(6,.syms 43),(8,.symi .i64 32)] [])) (.dead)) (.dead)) (.dead)) (.node 12 (.node 46 (.node 47 (.node 56 (.node 58 (.node 59 (.run (.leaf .ret wbE25 [(0,0),(3,0)] [(3,.symi .i64 3),(8,.symi .i64 57),(6,.syms 55),(8,.symi .i64 57)] [])) (.dead)) (.dead)) (.dead)) (.dead)) (.dead)) (.run (.leaf .ret wbE25 [(0,0),(2,0)] [(3,.symi .i64 3),(8,.symi .i64 64),(6,.syms 62),(8,.symi .i64 64)] []))))))) (.dead)) (.dead)
def wb25Kd:KdT:=.n (.n (.n (.n (.n (.n (.n .e (some .i64) .e) none .e) none (.n .e none .e)) (some .u8) (.n (.n .e none .e) (some .u64) (.n .e none .e))) (some .i64) (.n (.n (.n .e (some .u64) .e) (some .i64) (.n .e none .e)) none (.n (.n .e none .e) (some .i64) (.n .e none .e)))) (some .u64) (.n (.n (.n (.n .e none .e) (some .i64) (.n .e none .e)) none (.n (.n .e none .e) none (.n .e (some .i64) .e))) none (.n (.n (.n .e none .e) (some .u64) (.n .e (some .i64) .e)) (some .u64) (.n (.n .e none .e) (some .u8) (.n .e none .e))))) (some .u8) (.n (.n (.n (.n (.n (.n .e (some .i64) .e) (some .i64) .e) (some .i64) (.n .e none .e)) none (.n (.n .e none .e) (some .u64) (.n .e none .e))) none (.n (.n (.n .e none .e) (some .u64) (.n .e none .e)) none (.n (.n .e none .e) (some .i64) (.n .e (some .u64) .e)))) none (.n (.n (.n (.n .e none .e) (some .i64) (.n .e (some .u64) .e)) none (.n (.n .e (some .u8) .e) none (.n .e none .e))) none (.n (.n (.n .e none .e) (some .i64) (.n .e (some .i64) .e)) none (.n (.n .e none .e) none (.n .e none .e)))))
noncomputable def wb25Y:Ing:={m:=5,ins:=wbK25,G:=wb25G,T:=wb25T,tab:=wnTab,lsts:=wbLst,kb:=65,kt:=wb25Kd}
noncomputable def wb25X:Ing:={m:=5,ins:=wbK25,G:=wb25G,T:=wb25T,tab:=wnTab,lsts:=wbLst,kb:=65,kt:=wb25Kd,mh:=symMf (kdX wb25Y) [sf9]}
theorem wb25_lt:okLT 5 wb25G wb25T=true:=by kernel_rfl
theorem wb25_ok:okG wb25G 5=true:=by kernel_rfl
theorem wb25_hooks (F:List Fact):Hooks Tryd.prog (cxOf wb25X F) where
 val:=fun f args v h=>by simp only [wb25X,cxOf,noHook,reduceCtorEq] at h
 mem:=fun f args hp v hp' h=>by
  replace h:(symMf (kdX wb25Y) [sf9]) (symS (baseOf wb25X F)) f args hp=some (v,hp'):=h
  exact mem_symF (X:=wb25X) (tbl:=[sf9]) (inv:=fun _=>True) (fun e he=>by
   simp only [List.mem_cons,List.not_mem_nil,or_false] at he
   rcases he with rfl
   ·exact p9.c9) wb25_lt rfl (fun _ _ _ _=>trivial) F f args hp v hp' h
 ovl:=fun f k h=>by simp only [wb25X,cxOf,reduceCtorEq] at h
 atm:=fun k b h=>by simp only [wb25X,cxOf,List.not_mem_nil] at h
theorem wb25_seg:SegOk Tryd.prog wnTab 55 (flatC (bodyOf Tryd.f25)) wbS25 wb25X wb25W where
 lt:=wb25_lt
 ok:=wb25_ok
 hook:=wb25_hooks
 n0:=rfl
 id:=by kernel_rfl
 reck:=by kernel_rfl
 tab:=rfl
 cuts:=rfl
 kt:=by kernel_rfl
structure P25 (τ:Sig):Prop where
 k0:0≤τ.ival 0
 k1:τ.ival 0<256
 n0:0≤τ.ival 1
 n1:τ.ival 1<18446744073709551616
 lo:0≤τ.ival 3
 hi:τ.ival 3≤1000000
 ht:τ.tab=wnTab
def Q25 (τ:Sig) (c n:Nat):Prop:=τ.sval c=τ.sval 4++bs (thL (τ.ival 0) (τ.ival 1) (τ.sval 2))∧τ.ival n=τ.ival 3+((thL (τ.ival 0) (τ.ival 1) (τ.sval 2)).length:Int)
theorem kd25 {τ:Sig} (e:Eqs τ 5 wb25G) (h:P25 τ) (j:Nat) (hj:j<5):τ.bval (8+j)=(τ.ival 0%6==(j:Int)):=by
 have i7:τ.ival 7=(τ.ival 0).tmod (6):=eqI (e.at 2 _ rfl rfl) rfl
 have b8:τ.bval 8=((τ.ival 7:Int)==0):=eqB (e.at 3 _ rfl rfl) rfl
 have b9:τ.bval 9=((τ.ival 7:Int)==1):=eqB (e.at 4 _ rfl rfl) rfl
 have b10:τ.bval 10=((τ.ival 7:Int)==2):=eqB (e.at 5 _ rfl rfl) rfl
 have b11:τ.bval 11=((τ.ival 7:Int)==3):=eqB (e.at 6 _ rfl rfl) rfl
 have b12:τ.bval 12=((τ.ival 7:Int)==4):=eqB (e.at 7 _ rfl rfl) rfl
 rw [tmod_pos _ h.k0] at i7
 rw [i7] at b8 b9 b10 b11 b12
 obtain rfl|rfl|rfl|rfl|rfl:j=0∨j=1∨j=2∨j=3∨j=4:=by omega
 ·exact b8
 ·exact b9
 ·exact b10
 ·exact b11
 ·exact b12
theorem num25 {τ:Sig} (h:P25 τ) {m a c l n:Nat} {M:Int} (hm:τ.ival m=M) (ha:τ.sval a=decS (τ.tab 192 [τ.ival m])) (hc:τ.sval c=τ.sval 4++τ.sval a) (hl:τ.ival l=IntKind.i64.wrap (τ.tab 193 [τ.ival m])) (hn:τ.ival n=IntKind.i64.wrap (τ.ival 3+τ.ival l)):
  τ.sval c=τ.sval 4++bs (pbL M)∧τ.ival n=τ.ival 3+((pbL M).length:Int):=by
 have:=pbL_len M
 have:=h.lo
 have:=h.hi
 rw [h.ht,tab_pb,hm] at ha
 rw [h.ht,tab_pl,hm,wr_i64] at hl
 rw [wr_i64] at hn
 exact ⟨by rw [hc,ha],by omega⟩
theorem k25_0 {τ:Sig} (e:Eqs τ 5 wb25G) (h:P25 τ) (f:τ.ival 0%6=0):Q25 τ 15 17:=by
 have i13:τ.ival 13=(τ.ival 1).tmod (4611686018427387904):=eqI (e.at 8 _ rfl rfl) rfl
 have s14:τ.sval 14=decS (τ.tab 192 [τ.ival 13]):=eqFs (e.at 9 _ rfl rfl)
 have s15:τ.sval 15=τ.sval 4++τ.sval 14:=eqCat (e.at 10 _ rfl rfl) rfl rfl
 have i16:τ.ival 16=IntKind.i64.wrap (τ.tab 193 [τ.ival 13]):=eqFn (e.at 11 _ rfl rfl)
 have i17:τ.ival 17=IntKind.i64.wrap (τ.ival 3+τ.ival 16):=eqI (e.at 12 _ rfl rfl) rfl
 rw [tmod_pos _ h.n0] at i13
 unfold Q25
 rw [thL0 f,←pbL_mod]
 exact num25 h i13 s14 s15 i16 i17
theorem k25_1 {τ:Sig} (e:Eqs τ 5 wb25G) (h:P25 τ) (f:τ.ival 0%6=1):Q25 τ 26 28:=by
 have i18:τ.ival 18=IntKind.i64.wrap (τ.ival 1):=eqI (e.at 13 _ rfl rfl) rfl
 have i19:τ.ival 19=τ.ival 18/4:=(eqI (x:=(τ.ival 18:Int).fdiv (2^(min (2:Int).toNat IntKind.i64.bits))) (e.at 14 _ rfl rfl) rfl).trans (by rw [show (2:Int)^(min (2:Int).toNat IntKind.i64.bits)=4 by decide];exact fdiv_pow (by decide))
 have i20:τ.ival 20=IntKind.u64.wrap (τ.ival 19):=eqI (e.at 15 _ rfl rfl) rfl
 have i21:τ.ival 21=IntKind.u64.wrap (τ.ival 20*2):=(eqI (x:=IntKind.u64.wrap (τ.ival 20*2^(min (1:Int).toNat IntKind.u64.bits))) (e.at 16 _ rfl rfl) rfl).trans (by rw [show (2:Int)^(min (1:Int).toNat IntKind.u64.bits)=2 by decide])
 have i22:τ.ival 22=τ.ival 19/9223372036854775808:=(eqI (x:=(τ.ival 19:Int).fdiv (2^(min (63:Int).toNat IntKind.i64.bits))) (e.at 17 _ rfl rfl) rfl).trans (by rw [show (2:Int)^(min (63:Int).toNat IntKind.i64.bits)=9223372036854775808 by decide];exact fdiv_pow (by decide))
 have i23:τ.ival 23=IntKind.u64.wrap (τ.ival 22):=eqI (e.at 18 _ rfl rfl) rfl
 have i24:τ.ival 24=IntKind.u64.wrap (BitVec.ofInt IntKind.u64.bits (τ.ival 21)^^^BitVec.ofInt IntKind.u64.bits (τ.ival 23)).toNat:=eqI (e.at 19 _ rfl rfl) rfl
 have s25:τ.sval 25=decS (τ.tab 192 [τ.ival 24]):=eqFs (e.at 20 _ rfl rfl)
 have s26:τ.sval 26=τ.sval 4++τ.sval 25:=eqCat (e.at 21 _ rfl rfl) rfl rfl
 have i27:τ.ival 27=IntKind.i64.wrap (τ.tab 193 [τ.ival 24]):=eqFn (e.at 22 _ rfl rfl)
 have i28:τ.ival 28=IntKind.i64.wrap (τ.ival 3+τ.ival 27):=eqI (e.at 23 _ rfl rfl) rfl
 have hw:=whole_in (τ.ival 1)
 have i19':τ.ival 19=whole (τ.ival 1):=by rw [i19,i18];rfl
 rw [wr_u64] at i20 i21 i23
 unfold Q25
 rw [thL1 f]
 refine num25 h ?_ s25 s26 i27 i28
 have:=zig_xor (c:=whole (τ.ival 1)) (by omega) (by omega) (by rw [i20,i19']) i21 (by rw [i22,i19']) i23 i24
 rw [this]
 rfl
theorem k25_2 {τ:Sig} (e:Eqs τ 5 wb25G) (h:P25 τ) (f:τ.ival 0%6=2):Q25 τ 31 32:=by
 have i29:τ.ival 29=IntKind.u8.wrap (τ.ival 1):=eqI (e.at 24 _ rfl rfl) rfl
 have s30:τ.sval 30=bs [τ.ival 29%256]:=eqRow1 (e.at 25 _ rfl rfl) rfl
 have s31:τ.sval 31=τ.sval 4++τ.sval 30:=eqCat (e.at 26 _ rfl rfl) rfl rfl
 have i32:τ.ival 32=IntKind.i64.wrap (τ.ival 3+1):=eqI (e.at 27 _ rfl rfl) rfl
 have:=h.lo
 have:=h.hi
 rw [wr_i64] at i32
 rw [wr_u8] at i29
 unfold Q25
 rw [thL2 f]
 refine ⟨?_,by rw [List.length_singleton];omega⟩
 rw [s31,s30,i29,Int.emod_emod_of_dvd _ (by decide)]
theorem k25_3 {τ:Sig} (e:Eqs τ 5 wb25G) (h:P25 τ) (f:τ.ival 0%6=3):Q25 τ 43 32:=by
 have i32:τ.ival 32=IntKind.i64.wrap (τ.ival 3+1):=eqI (e.at 27 _ rfl rfl) rfl
 have i35:τ.ival 35=(τ.ival 1).tmod (2):=eqI (e.at 30 _ rfl rfl) rfl
 have b36:τ.bval 36=((τ.ival 35:Int)==1):=eqB (e.at 31 _ rfl rfl) rfl
 have s38:τ.sval 38=bs [1%256]:=eqRow1 (e.at 33 _ rfl rfl) rfl
 have s39:τ.sval 39=τ.sval 4++τ.sval 38:=eqCat (e.at 34 _ rfl rfl) rfl rfl
 have s40:τ.sval 40=bs [0%256]:=eqRow1 (e.at 35 _ rfl rfl) rfl
 have s41:τ.sval 41=τ.sval 4++τ.sval 40:=eqCat (e.at 36 _ rfl rfl) rfl rfl
 have s43:τ.sval 43=(bif τ.bval 36 then τ.sval 39 else τ.sval 41):=eqIteS (e.at 38 _ rfl rfl) rfl rfl rfl
 have:=h.lo
 have:=h.hi
 have:=h.n0
 rw [wr_i64] at i32
 rw [tmod_pos _ h.n0] at i35
 unfold Q25
 rw [thL3 f]
 refine ⟨?_,by rw [List.length_singleton];omega⟩
 rw [s43]
 by_cases c:τ.ival 1%2=1
 ·have:τ.bval 36=true:=by rw [b36,i35,c];rfl
  rw [this]
  simp only [cond_true]
  rw [s39,s38,c,show (1:Int)%256=1 by decide]
 ·have c0:τ.ival 1%2=0:=by omega
  have:τ.bval 36=false:=by rw [b36,i35,c0];rfl
  rw [this]
  simp only [cond_false]
  rw [s41,s40,c0,show (0:Int)%256=0 by decide]
theorem k25_4 {τ:Sig} (e:Eqs τ 5 wb25G) (h:P25 τ) (f:τ.ival 0%6=4):Q25 τ 55 57∧τ.ival 45=min (τ.ival 44) 99∧τ.ival 49≤99∧0≤τ.ival 49:=by
 have i44:τ.ival 44=((τ.sval 2).size:Nat):=eqLen (e.at 39 _ rfl rfl)
 have i45:τ.ival 45=(if 99<τ.ival 44 then 99 else τ.ival 44):=eqI (e.at 40 _ rfl rfl) rfl
 have s48:τ.sval 48=(τ.sval 2).extract (0:Int).toNat (τ.ival 45:Int).toNat:=eqSub (e.at 43 _ rfl rfl) rfl rfl
 have i49:τ.ival 49=((τ.sval 48).size:Nat):=eqLen (e.at 44 _ rfl rfl)
 have i50:τ.ival 50=IntKind.u64.wrap (τ.ival 49):=eqI (e.at 45 _ rfl rfl) rfl
 have s51:τ.sval 51=decS (τ.tab 192 [τ.ival 50]):=eqFs (e.at 46 _ rfl rfl)
 have s52:τ.sval 52=τ.sval 4++τ.sval 51:=eqCat (e.at 47 _ rfl rfl) rfl rfl
 have i53:τ.ival 53=IntKind.i64.wrap (τ.tab 193 [τ.ival 50]):=eqFn (e.at 48 _ rfl rfl)
 have i54:τ.ival 54=IntKind.i64.wrap (τ.ival 3+τ.ival 53):=eqI (e.at 49 _ rfl rfl) rfl
 have s55:τ.sval 55=τ.sval 52++τ.sval 48:=eqCat (e.at 50 _ rfl rfl) rfl rfl
 have i57:τ.ival 57=IntKind.i64.wrap (τ.ival 54+τ.ival 49):=eqI (e.at 52 _ rfl rfl) rfl
 have hlo:=h.lo
 have hhi:=h.hi
 have e45:τ.ival 45=min (τ.ival 44) 99:=by rw [i45];split<;>omega
 have e48:τ.sval 48=txt (τ.sval 2):=by
  rw [s48,e45,i44]
  unfold txt
  congr 1
  omega
 have z:=txt_size (τ.sval 2)
 have e49:τ.ival 49=((txt (τ.sval 2)).size:Nat):=by rw [i49,e48]
 have e50:τ.ival 50=((txt (τ.sval 2)).size:Nat):=by rw [wr_u64] at i50;omega
 obtain ⟨n1,n2⟩:=num25 h e50 s51 s52 i53 i54
 unfold Q25
 rw [thL4 f]
 rw [wr_i64] at i57
 have:=pbL_len ((txt (τ.sval 2)).size:Nat)
 refine ⟨⟨?_,?_⟩,e45,by omega,by omega⟩
 ·rw [s55,n1,e48,←bs_append,bs_ints,ByteArray.append_assoc]
 ·rw [List.length_append,ints_length]
  omega
theorem k25_5 {τ:Sig} (e:Eqs τ 5 wb25G) (h:P25 τ) (f:τ.ival 0%6=5):Q25 τ 62 64:=by
 have i60:τ.ival 60=(τ.ival 1).tmod (1000):=eqI (e.at 55 _ rfl rfl) rfl
 have s61:τ.sval 61=decS (τ.tab 192 [τ.ival 60]):=eqFs (e.at 56 _ rfl rfl)
 have s62:τ.sval 62=τ.sval 4++τ.sval 61:=eqCat (e.at 57 _ rfl rfl) rfl rfl
 have i63:τ.ival 63=IntKind.i64.wrap (τ.tab 193 [τ.ival 60]):=eqFn (e.at 58 _ rfl rfl)
 have i64:τ.ival 64=IntKind.i64.wrap (τ.ival 3+τ.ival 63):=eqI (e.at 59 _ rfl rfl) rfl
 rw [tmod_pos _ h.n0] at i60
 unfold Q25
 rw [thL5 f]
 exact num25 h i60 s61 s62 i63 i64
def L25:Asg:=[(8,.symi .i64 8),(6,.syms 6),(8,.symi .i64 8)]
set_option maxHeartbeats 1000000 in
theorem c25:SymFOk Tryd.prog wnTab (fun _=>True) sf25:=
 symF_of_stage Tryd.func25 rfl (n:=55) rfl (by decide) (by decide) rfl rfl (by kernel_rfl) (fun g w hg _ hE hI hpc hH=>by
  refine Stage.last mixed wb25_seg ⟨rfl,rfl⟩ (fun σ τ (ag:Agree 5 σ τ) (h:Agree 5 g.sig σ)=>h.trans' ag) (fun τ h=>rows_nil) (fun τ e ht hi ag=> ?_) (pin0 (by kernel_rfl))
  refine segsPw_segs ?_
  have q0:=hpc (.bin .leq (.int .i64 0) (.symi .i64 3)) (by simp [sf25])
  have q1:=hpc (.bin .leq (.symi .i64 3) (.int .i64 1000000)) (by simp [sf25])
  simp only [evalS,den,binS,intA,if_true,Option.some.injEq,AVal.bool.injEq,decide_eq_true_eq] at q0 q1
  have a0:τ.ival 0=g.sig.ival 0:=(ag.val 0 (by decide)).1.symm
  have a1:τ.ival 1=g.sig.ival 1:=(ag.val 1 (by decide)).1.symm
  have a2:τ.sval 2=g.sig.sval 2:=(ag.val 2 (by decide)).2.2.symm
  have a3:τ.ival 3=g.sig.ival 3:=(ag.val 3 (by decide)).1.symm
  have a4:τ.sval 4=g.sig.sval 4:=(ag.val 4 (by decide)).2.2.symm
  have w0:=hi 0 .u8 (by decide) rfl
  have w1:=hi 1 .u64 (by decide) rfl
  rw [wr_u8] at w0
  rw [wr_u64] at w1
  have h:P25 τ:=⟨by omega,by omega,by omega,by omega,by omega,by omega,ht⟩
  have hl:=thL_len (τ.ival 0) (τ.ival 1) (τ.sval 2)
  have fin: ∀c n,Q25 τ c n→EndZ wnTab 55 (fraOf g w sf25.pre.length) (bodyPost Tryd.prog Tryd.f25 (MemR wnTab sf25 g w)) .ret wbE25 (asgS τ ([(3,.symi .i64 3),(8,.symi .i64 n),(6,.syms c),(8,.symi .i64 n)]++[])):=by
   intro c n hq
   have s5:g.sig.sval 5=decS (g.sig.tab 256 [g.sig.ival 0,g.sig.ival 1,encB (g.sig.sval 2)]):=eqFs (hE.at 0 _ rfl rfl)
   have s6:g.sig.sval 6=g.sig.sval 4++g.sig.sval 5:=eqCat (hE.at 1 _ rfl rfl) rfl rfl
   have i7:g.sig.ival 7=IntKind.i64.wrap (g.sig.tab 257 [g.sig.ival 0,g.sig.ival 1,encB (g.sig.sval 2)]):=eqFn (hE.at 2 _ rfl rfl)
   have i8:g.sig.ival 8=IntKind.i64.wrap (g.sig.ival 3+g.sig.ival 7):=eqI (hE.at 3 _ rfl rfl) rfl
   rw [hg,tab_th,←a0,←a1,←a2] at s5
   rw [hg,tab_tl,←a0,←a1,←a2,wr_i64] at i7
   rw [wr_i64,←a3] at i8
   have e8:τ.ival n=g.sig.ival 8:=by rw [hq.2];omega
   have e6:τ.sval c=g.sig.sval 6:=by rw [hq.1,s6,s5,a4]
   exact endZ_mem (M:=9) (l:=L25) (vs:=[.lsl 1 1 true (.int .i64 0) (.symi .i64 8)]) (by kernel_rfl) rfl rfl hH hg rfl rfl rfl (by kernel_rfl) (by kernel_rfl)
    ⟨congrArg (AVal.int .i64) e8,congrArg AVal.str e6,congrArg (AVal.int .i64) e8,trivial⟩ (by decide) ag.ext.symm (.inl rfl)
  have d0:=kd25 e h 0 (by decide)
  have d1:=kd25 e h 1 (by decide)
  have d2:=kd25 e h 2 (by decide)
  have d3:=kd25 e h 3 (by decide)
  have d4:=kd25 e h 4 (by decide)
  simp only [Nat.add_zero,Nat.reduceAdd] at d0 d1 d2 d3 d4
  have b5:τ.bval 5=decide ((0:Int)≤τ.ival 3):=eqB (e.at 0 _ rfl rfl) rfl
  have b6:τ.bval 6=decide (τ.ival 3≤1000000):=eqB (e.at 1 _ rfl rfl) rfl
  have b33:τ.bval 33=decide ((0:Int)≤τ.ival 32):=eqB (e.at 28 _ rfl rfl) rfl
  have b34:τ.bval 34=decide (τ.ival 32≤140737488355328):=eqB (e.at 29 _ rfl rfl) rfl
  have b37:τ.bval 37=decide (τ.ival 3≤τ.ival 3):=eqB (e.at 32 _ rfl rfl) rfl
  have b46:τ.bval 46=decide ((0:Int)≤τ.ival 45):=eqB (e.at 41 _ rfl rfl) rfl
  have b47:τ.bval 47=decide (τ.ival 45≤τ.ival 44):=eqB (e.at 42 _ rfl rfl) rfl
  have b56:τ.bval 56=decide (τ.ival 49≤9223372036854775807):=eqB (e.at 51 _ rfl rfl) rfl
  have b58:τ.bval 58=decide ((0:Int)≤τ.ival 57):=eqB (e.at 53 _ rfl rfl) rfl
  have b59:τ.bval 59=decide (τ.ival 57≤140737488355328):=eqB (e.at 54 _ rfl rfl) rfl
  have tr: ∀{P:Prop} {b:Bool} [Decidable P],b=decide P→b=false→P→False:=fun hb hf hp=>by rw [hb,decide_eq_false_iff_not] at hf;exact hf hp
  refine ⟨fun _=>⟨fun _=>⟨fun f8=> ?_,fun f8=>⟨fun f9=> ?_,fun f9=>⟨fun f10=> ?_,fun f10=>⟨fun f11=> ?_,fun f11=>⟨fun f12=> ?_,fun f12=> ?_⟩⟩⟩⟩⟩,fun f=>tr b6 f (by omega)⟩,fun f=>tr b5 f (by omega)⟩
  ·exact fin 15 17 (k25_0 e h (by rw [d0] at f8;simpa using f8))
  ·exact fin 26 28 (k25_1 e h (by rw [d1] at f9;simpa using f9))
  ·have k:=k25_2 e h (by rw [d2] at f10;simpa using f10)
   have k2:=k.2
   refine ⟨fun _=>⟨fun _=>fin 31 32 k,fun f=>tr b34 f (by omega)⟩,fun f=>tr b33 f (by omega)⟩
  ·have k:=k25_3 e h (by rw [d3] at f11;simpa using f11)
   have k2:=k.2
   refine ⟨fun _=>⟨fun _=>⟨fun _=>fin 43 32 k,fun f=>tr b34 f (by omega)⟩,fun f=>tr b33 f (by omega)⟩,fun f=>tr b37 f (by omega)⟩
  ·obtain ⟨k,k45,k49,k49'⟩:=k25_4 e h (by rw [d4] at f12;simpa using f12)
   have k2:=k.2
   have i44:τ.ival 44=((τ.sval 2).size:Nat):=eqLen (e.at 39 _ rfl rfl)
   refine ⟨fun _=>⟨fun _=>⟨fun _=>⟨fun _=>⟨fun _=>fin 55 57 k,fun f=>tr b59 f (by omega)⟩,fun f=>tr b58 f (by omega)⟩,fun f=>tr b56 f (by omega)⟩,fun f=>tr b47 f (by omega)⟩,fun f=>tr b46 f (by omega)⟩
  ·refine fin 62 64 (k25_5 e h ?_)
   rw [d0] at f8
   rw [d1] at f9
   rw [d2] at f10
   rw [d3] at f11
   rw [d4] at f12
   simp only [beq_eq_false_iff_ne,ne_eq] at f8 f9 f10 f11 f12
   omega)
end Go.Proofs.YtapfkgenachpgaaDoor.wb
