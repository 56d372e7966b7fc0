/-
 Contract of Thing.back: what was laid is read.
 No conditions.
-/
import Derived.Test.YtapfkgenachpgaaDoorWb9
namespace Go.Proofs.YtapfkgenachpgaaDoor.wb
open Go.Ev Go.RowKit Go.Wbp
open Go.Proofs.YtapfkgenachpgaaDoor.wn (mixed sf48 wnTbl)
set_option linter.unusedVariables false
set_option linter.unusedSimpArgs false
set_option maxRecDepth 100000 in
def wb26G:List SDef:=[.sop .len [.syms 4],
 .bin .leq (.int .i64 0) (.symi .i64 3),
 .bin .leq (.symi .i64 3) (.symi .i64 5),
 .bin .leq (.symi .i64 5) (.int .i64 1000000),
 .bin .rem (.symi .u8 0) (.int .u8 6),
 .bin .eql (.symi .u8 9) (.int .u8 0),
 .bin .eql (.symi .u8 9) (.int .u8 1),
 .bin .eql (.symi .u8 9) (.int .u8 2),
 .bin .eql (.symi .u8 9) (.int .u8 3),
 .bin .eql (.symi .u8 9) (.int .u8 4),
 .fn 130 .i64 [.syms 4,.symi .i64 3],
 .fn 128 .u64 [.syms 4,.symi .i64 3],
 .fn 129 .i64 [.syms 4,.symi .i64 3],
 .bin .add (.symi .i64 3) (.symi .i64 17),
 .bin .rem (.symi .u64 1) (.int .u64 4611686018427387904),
 .bin .eql (.symi .u64 16) (.symi .u64 19),
 .bin .shr (.symi .u64 16) (.int .u64 1),
 .conv .i64 (.symi .u64 21),
 .bin .and (.symi .u64 16) (.int .u64 1),
 .conv .i64 (.symi .u64 23),
 .un .neg (.symi .i64 24),
 .bin .xor (.symi .i64 22) (.symi .i64 25),
 .conv .i64 (.symi .u64 1),
 .bin .shr (.symi .i64 27) (.int .u64 2),
 .bin .eql (.symi .i64 26) (.symi .i64 28),
 .bin .sub (.symi .i64 5) (.symi .i64 3),
 .bin .eql (.symi .i64 30) (.int .i64 0),
 .bin .lss (.symi .i64 3) (.symi .i64 5),
 .sop .at [.syms 4,.symi .i64 3],
 .bin .add (.symi .i64 3) (.int .i64 1),
 .conv .u8 (.symi .u64 1),
 .bin .eql (.symi .u8 33) (.symi .u8 35),
 .bin .gtr (.symi .i64 30) (.int .i64 0),
 .bin .gtr (.symi .u8 33) (.int .u8 1),
 .bin .eql (.symi .u8 33) (.int .u8 1),
 .bin .rem (.symi .u64 1) (.int .u64 2),
 .bin .eql (.symi .u64 40) (.int .u64 1),
 .bin .eql (.symb 39) (.symb 41),
 .bin .gtr (.symi .u64 16) (.int .u64 99),
 .conv .i64 (.symi .u64 16),
 .bin .sub (.symi .i64 30) (.symi .i64 17),
 .bin .lss (.symi .i64 45) (.symi .i64 44),
 .bin .add (.symi .i64 18) (.symi .i64 44),
 .bin .leq (.int .i64 0) (.symi .i64 18),
 .bin .leq (.symi .i64 18) (.symi .i64 47),
 .bin .leq (.symi .i64 47) (.symi .i64 5),
 .sop .sub [.syms 4,.symi .i64 18,.symi .i64 47],
 .bin .add (.symi .i64 17) (.symi .i64 44),
 .bin .add (.symi .i64 3) (.symi .i64 52),
 .sop .len [.syms 2],
 .low [.symi .i64 54,.int .i64 99],
 .bin .leq (.int .i64 0) (.symi .i64 55),
 .bin .leq (.symi .i64 55) (.symi .i64 54),
 .sop .sub [.syms 2,.int .i64 0,.symi .i64 55],
 .bin .eql (.syms 51) (.syms 58),
 .bin .gtr (.symi .u64 16) (.int .u64 999),
 .bin .rem (.symi .u64 1) (.int .u64 1000),
 .conv .i64 (.symi .u64 61),
 .bin .eql (.symi .i64 44) (.symi .i64 62)]
set_option maxRecDepth 100000 in
def wb26T:LT:=.n (.n (.n (.n (.n (.n (.e) 310555 9 (.bin .rem (.symi .u8 0) (.int .u8 6)) (.e)) 15523167 22 (.conv .i64 (.symi .u64 21)) (.n (.e) 21361598 50 (.bin .leq (.symi .i64 47) (.symi .i64 5)) (.e))) 68458226 26 (.bin .xor (.symi .i64 22) (.symi .i64 25)) (.n (.n (.e) 74146061 8 (.bin .leq (.symi .i64 5) (.int .i64 1000000)) (.e)) 93121832 33 (.sop .at [.syms 4,.symi .i64 3]) (.n (.e) 101110718 40 (.bin .rem (.symi .u64 1) (.int .u64 2)) (.e)))) 102811908 19 (.bin .rem (.symi .u64 1) (.int .u64 4611686018427387904)) (.n (.n (.e) 103000641 27 (.conv .i64 (.symi .u64 1)) (.n (.n (.e) 103000641 35 (.conv .u8 (.symi .u64 1)) (.e)) 111844947 39 (.bin .eql (.symi .u8 33) (.int .u8 1)) (.e))) 111844975 38 (.bin .gtr (.symi .u8 33) (.int .u8 1)) (.n (.n (.e) 151045648 61 (.bin .rem (.symi .u64 1) (.int .u64 1000)) (.e)) 221523785 24 (.conv .i64 (.symi .u64 23)) (.e)))) 276523940 25 (.un .neg (.symi .i64 24)) (.n (.n (.n (.n (.e) 277115638 45 (.bin .sub (.symi .i64 30) (.symi .i64 17)) (.e)) 303061261 34 (.bin .add (.symi .i64 3) (.int .i64 1)) (.n (.e) 318030059 36 (.bin .eql (.symi .u8 33) (.symi .u8 35)) (.e))) 319533317 51 (.sop .sub [.syms 4,.symi .i64 18,.symi .i64 47]) (.n (.n (.e) 325248603 46 (.bin .lss (.symi .i64 45) (.symi .i64 44)) (.e)) 334019444 54 (.sop .len [.syms 2]) (.n (.e) 389481166 59 (.bin .eql (.syms 51) (.syms 58)) (.e)))) 411056608 55 (.low [.symi .i64 54,.int .i64 99]) (.n (.n (.n (.e) 428778373 29 (.bin .eql (.symi .i64 26) (.symi .i64 28)) (.e)) 461350760 30 (.bin .sub (.symi .i64 5) (.symi .i64 3)) (.n (.e) 473820112 57 (.bin .leq (.symi .i64 55) (.symi .i64 54)) (.e))) 542323408 23 (.bin .and (.symi .u64 16) (.int .u64 1)) (.n (.n (.e) 542323436 21 (.bin .shr (.symi .u64 16) (.int .u64 1)) (.e)) 547226908 43 (.bin .gtr (.symi .u64 16) (.int .u64 99)) (.e))))) 574263449 44 (.conv .i64 (.symi .u64 16)) (.n (.n (.n (.n (.n (.e) 579634977 28 (.bin .shr (.symi .i64 27) (.int .u64 2)) (.e)) 592258408 60 (.bin .gtr (.symi .u64 16) (.int .u64 999)) (.n (.e) 623560449 20 (.bin .eql (.symi .u64 16) (.symi .u64 19)) (.e))) 630865958 56 (.bin .leq (.int .i64 0) (.symi .i64 55)) (.n (.n (.e) 668031802 5 (.sop .len [.syms 4]) (.e)) 718465509 52 (.bin .add (.symi .i64 17) (.symi .i64 44)) (.n (.e) 771332931 18 (.bin .add (.symi .i64 3) (.symi .i64 17)) (.e)))) 775784817 49 (.bin .leq (.symi .i64 18) (.symi .i64 47)) (.n (.n (.n (.e) 811685496 48 (.bin .leq (.int .i64 0) (.symi .i64 18)) (.e)) 818847068 41 (.bin .eql (.symi .u64 40) (.int .u64 1)) (.n (.e) 819465812 47 (.bin .add (.symi .i64 18) (.symi .i64 44)) (.e))) 849136903 42 (.bin .eql (.symb 39) (.symb 41)) (.n (.n (.e) 882535830 31 (.bin .eql (.symi .i64 30) (.int .i64 0)) (.e)) 882535858 37 (.bin .gtr (.symi .i64 30) (.int .i64 0)) (.e)))) 896040906 16 (.fn 128 .u64 [.syms 4,.symi .i64 3]) (.n (.n (.n (.n (.e) 896040949 17 (.fn 129 .i64 [.syms 4,.symi .i64 3]) (.e)) 896040992 15 (.fn 130 .i64 [.syms 4,.symi .i64 3]) (.n (.e) 909013121 10 (.bin .eql (.symi .u8 9) (.int .u8 0)) (.e))) 909063156 11 (.bin .eql (.symi .u8 9) (.int .u8 1)) (.n (.n (.e) 909113191 12 (.bin .eql (.symi .u8 9) (.int .u8 2)) (.e)) 909163226 13 (.bin .eql (.symi .u8 9) (.int .u8 3)) (.n (.e) 909213261 14 (.bin .eql (.symi .u8 9) (.int .u8 4)) (.e)))) 914310046 62 (.conv .i64 (.symi .u64 61)) (.n (.n (.n (.e) 946057394 32 (.bin .lss (.symi .i64 3) (.symi .i64 5)) (.e)) 946057401 7 (.bin .leq (.symi .i64 3) (.symi .i64 5)) (.n (.e) 977548064 53 (.bin .add (.symi .i64 3) (.symi .i64 52)) (.e))) 993138419 58 (.sop .sub [.syms 2,.int .i64 0,.symi .i64 55]) (.n (.n (.e) 1030090961 6 (.bin .leq (.int .i64 0) (.symi .i64 3)) (.e)) 1035903555 63 (.bin .eql (.symi .i64 44) (.symi .i64 62)) (.e)))))
set_option maxRecDepth 100000 in
def wb26W:Sw:=.node 6 (.node 7 (.node 8 (.node 10 (.pick 15 0 (.node 20 (.run (.leaf .ret wbE26 [(0,0)] [(4,.syms 4),(6,.symi .i64 18)] [])) (.dead)) (.dead)) (.node 11 (.pick 15 0 (.node 29 (.run (.leaf .ret wbE26 [(0,0)] [(4,.syms 4),(6,.symi .i64 18)] [])) (.dead)) (.dead)) (.node 12 (.node 31 (.dead) (.node 32 (.node 36 (.run (.leaf .ret wbE26 [(0,0)] [(4,.syms 4),(6,.symi .i64 34)] [])) (.dead)) (.dead))) (.node 13 (.node 37 (.node 32 (.node 38 (.dead) (.node 31 (.dead) (.node 42 (.run (.leaf .ret wbE26 [(0,0)] [(4,.syms 4),(6,.symi .i64 34)] [])) (.dead)))) (.dead)) (.dead)) (.node 14 (.pick 15 0 (.node 43 (.dead) (.node 46 (.dead) (.node 48 (.node 49 (.node 50 (.node 56 (.node 57 (.node 59 (.run (.leaf .ret wbE26 [(0,0)] [(4,.syms 4),(6,.symi .i64 53)] [])) (.dead)) (.dead)) (.dead)) (.dead)) (.dead)) (.dead)))) (.dead)) (.pick 15 0 (.node 60 (.dead) (.node 63 (.run (.leaf .ret wbE26 [(0,0)] [(4,.syms 4),(6,.symi .i64 18)] [])) (.dead))) (.dead))))))) (.dead)) (.dead)) (.dead)
def wb26Kd:KdT:=.n (.n (.n (.n (.n (.n (.n .e none .e) none .e) (some .i64) (.n .e (some .i64) .e)) none (.n (.n .e none .e) (some .u64) (.n .e none .e))) (some .i64) (.n (.n (.n .e (some .u8) .e) (some .u64) (.n .e none .e)) none (.n (.n .e none .e) (some .i64) (.n .e none .e)))) (some .u64) (.n (.n (.n (.n .e (some .u8) .e) (some .i64) (.n .e none .e)) (some .u8) (.n (.n .e none .e) none (.n .e none .e))) none (.n (.n (.n .e none .e) (some .u64) (.n .e (some .i64) .e)) none (.n (.n .e (some .i64) .e) none (.n .e (some .u64) .e))))) (some .u8) (.n (.n (.n (.n (.n .e none .e) (some .u64) (.n .e none .e)) none (.n (.n .e (some .u64) .e) (some .i64) (.n .e none .e))) none (.n (.n (.n .e none .e) none (.n .e (some .i64) .e)) none (.n (.n .e (some .i64) .e) (some .i64) (.n .e none .e)))) none (.n (.n (.n (.n .e (some .i64) .e) (some .i64) (.n .e none .e)) none (.n (.n .e none .e) (some .i64) (.n .e none .e))) none (.n (.n (.n .e none .e) (some .i64) (.n .e none .e)) none (.n (.n .e none .e) (some .i64) (.n .e (some .i64) .e)))))
noncomputable def wb26Y:Ing:={m:=5,ins:=wbK26,G:=wb26G,T:=wb26T,tab:=wnTab,lsts:=wbLst,kb:=64,kt:=wb26Kd,hook:=tblHook (tabOf wnFs) wnTbl}
noncomputable def wb26X:Ing:={m:=5,ins:=wbK26,G:=wb26G,T:=wb26T,tab:=wnTab,lsts:=wbLst,kb:=64,kt:=wb26Kd,hook:=tblHook (tabOf wnFs) wnTbl,mh:=symMf (kdX wb26Y) [sf48]}
theorem wb26_lt:okLT 5 wb26G wb26T=true:=by kernel_rfl
theorem wb26_ok:okG wb26G 5=true:=by kernel_rfl
theorem wb26_hooks (F:List Fact):Hooks Tryd.prog (cxOf wb26X F) where
 val:=fun f args v h hp=>wn.wn_hooks (X:=wb26X) rfl rfl wb26_lt F f args v h hp
 mem:=fun f args hp v hp' h=>by
  replace h:(symMf (kdX wb26Y) [sf48]) (symS (baseOf wb26X F)) f args hp=some (v,hp'):=h
  exact mem_symF (X:=wb26X) (tbl:=[sf48]) (inv:=fun _=>True) (fun e he=>by
   simp only [List.mem_cons,List.not_mem_nil,or_false] at he
   rcases he with rfl
   ·exact wn.wn48_contract) wb26_lt rfl (fun _ _ _ _=>trivial) F f args hp v hp' h
 ovl:=fun f k h=>by simp only [wb26X,cxOf,reduceCtorEq] at h
 atm:=fun k b h=>by simp only [wb26X,cxOf,List.not_mem_nil] at h
theorem wb26_seg:SegOk Tryd.prog wnTab 61 (flatC (bodyOf Tryd.f26)) wbS26 wb26X wb26W where
 lt:=wb26_lt
 ok:=wb26_ok
 hook:=wb26_hooks
 n0:=rfl
 id:=by kernel_rfl
 reck:=by kernel_rfl
 tab:=rfl
 cuts:=rfl
 kt:=by kernel_rfl
structure P26 (τ:Sig):Prop where
 k0:0≤τ.ival 0
 k1:τ.ival 0<256
 n0:0≤τ.ival 1
 n1:τ.ival 1<18446744073709551616
 sz:(τ.sval 4).size≤1000000
 lo:0≤τ.ival 3
 hi:τ.ival 3≤(τ.sval 4).size
 ht:τ.tab=wnTab
theorem kd26 {τ:Sig} (e:Eqs τ 5 wb26G) (h:P26 τ) (j:Nat) (hj:j<5):τ.bval (10+j)=(τ.ival 0%6==(j:Int)):=by
 have i9:τ.ival 9=(τ.ival 0).tmod (6):=eqI (e.at 4 _ rfl rfl) rfl
 have b10:τ.bval 10=((τ.ival 9:Int)==0):=eqB (e.at 5 _ rfl rfl) rfl
 have b11:τ.bval 11=((τ.ival 9:Int)==1):=eqB (e.at 6 _ rfl rfl) rfl
 have b12:τ.bval 12=((τ.ival 9:Int)==2):=eqB (e.at 7 _ rfl rfl) rfl
 have b13:τ.bval 13=((τ.ival 9:Int)==3):=eqB (e.at 8 _ rfl rfl) rfl
 have b14:τ.bval 14=((τ.ival 9:Int)==4):=eqB (e.at 9 _ rfl rfl) rfl
 rw [tmod_pos _ h.k0] at i9
 rw [i9] at b10 b11 b12 b13 b14
 obtain rfl|rfl|rfl|rfl|rfl:j=0∨j=1∨j=2∨j=3∨j=4:=by omega
 ·exact b10
 ·exact b11
 ·exact b12
 ·exact b13
 ·exact b14
theorem num26 {τ:Sig} (e:Eqs τ 5 wb26G) (ht:τ.tab=wnTab) {v m c:Int} (h:numL (τ.sval 4) (τ.ival 3)=[v,m,c]) (hv:0≤v∧v<18446744073709551616) (hm:0≤m∧m≤8) (hc:0≤c∧c≤5) (ha:0≤τ.ival 3∧τ.ival 3≤1000000):
  τ.ival 16=v∧τ.ival 17=m∧τ.ival 15=c∧τ.ival 18=τ.ival 3+m:=by
 have i15:τ.ival 15=IntKind.i64.wrap (τ.tab 130 [encB (τ.sval 4),τ.ival 3]):=eqFn (e.at 10 _ rfl rfl)
 have i16:τ.ival 16=IntKind.u64.wrap (τ.tab 128 [encB (τ.sval 4),τ.ival 3]):=eqFn (e.at 11 _ rfl rfl)
 have i17:τ.ival 17=IntKind.i64.wrap (τ.tab 129 [encB (τ.sval 4),τ.ival 3]):=eqFn (e.at 12 _ rfl rfl)
 have i18:τ.ival 18=IntKind.i64.wrap (τ.ival 3+τ.ival 17):=eqI (e.at 13 _ rfl rfl) rfl
 rw [ht,show (128:Nat)=128+0 by rfl,wn.tab_num _ _ 0 (by decide),h,wr_u64] at i16
 rw [ht,show (129:Nat)=128+1 by rfl,wn.tab_num _ _ 1 (by decide),h,wr_i64] at i17
 rw [ht,show (130:Nat)=128+2 by rfl,wn.tab_num _ _ 2 (by decide),h,wr_i64] at i15
 simp only [List.getD_cons_zero,List.getD_cons_succ] at i15 i16 i17
 rw [wr_i64] at i18
 omega
theorem rd26 {τ:Sig} (e:Eqs τ 5 wb26G) (h:P26 τ) {M:Int} (hh:Has (τ.sval 4) (τ.ival 3) (pbL M)):τ.ival 16=M%4611686018427387904∧τ.ival 17=((pbL M).length:Int)∧τ.ival 15=0∧τ.ival 18=τ.ival 3+((pbL M).length:Int):=by
 have:=pbL_len M
 have:=h.sz
 have:=h.hi
 exact num26 e h.ht (num_read hh) (by omega) (by omega) (by decide) ⟨h.lo,by omega⟩
theorem i26 {τ:Sig} (e:Eqs τ 5 wb26G) (h:P26 τ) (h16:τ.ival 16=zz (τ.ival 1)):τ.ival 26=whole (τ.ival 1):=by
 have i21:τ.ival 21=τ.ival 16/2:=(eqI (x:=(τ.ival 16:Int).fdiv (2^(min (1:Int).toNat IntKind.u64.bits))) (e.at 16 _ rfl rfl) rfl).trans (by rw [show (2:Int)^(min (1:Int).toNat IntKind.u64.bits)=2 by decide];exact fdiv_pow (by decide))
 have i22:τ.ival 22=IntKind.i64.wrap (τ.ival 21):=eqI (e.at 17 _ rfl rfl) rfl
 have i23:τ.ival 23=IntKind.u64.wrap (BitVec.ofInt IntKind.u64.bits (τ.ival 16)&&&BitVec.ofInt IntKind.u64.bits (1)).toNat:=eqI (e.at 18 _ rfl rfl) rfl
 have i24:τ.ival 24=IntKind.i64.wrap (τ.ival 23):=eqI (e.at 19 _ rfl rfl) rfl
 have i25:τ.ival 25=IntKind.i64.wrap (0-τ.ival 24):=eqI (e.at 20 _ rfl rfl) rfl
 have i26:τ.ival 26=IntKind.i64.wrap (BitVec.ofInt IntKind.i64.bits (τ.ival 22)^^^BitVec.ofInt IntKind.i64.bits (τ.ival 25)).toNat:=eqI (e.at 21 _ rfl rfl) rfl
 have hw:=whole_in (τ.ival 1)
 have hz:=zz_in (τ.ival 1)
 rw [h16,and_one hz.1 (by omega)] at i23
 rw [h16] at i21
 rw [wr_i64] at i22 i24 i25
 unfold zz at i21 i23 hz
 rw [i26]
 by_cases c:0≤whole (τ.ival 1)
 ·rw [if_pos c] at i21 i23
  have e22:τ.ival 22=whole (τ.ival 1):=by omega
  have e25:τ.ival 25=0:=by omega
  rw [e22,e25,xor_zero_i c (by omega)]
 ·rw [if_neg c] at i21 i23
  have e22:τ.ival 22= -whole (τ.ival 1)-1:=by omega
  have e25:τ.ival 25= -1:=by omega
  rw [e22,e25,xor_neg_i (by omega) (by omega)]
  omega
def L26:Asg:=[(4,.syms 4),(6,.symi .i64 6)]
set_option maxHeartbeats 1000000 in
theorem c26:SymFOk Tryd.prog wnTab (fun _=>True) sf26:=
 symF_of_stage Tryd.func26 rfl (n:=61) rfl (by decide) (by decide) rfl rfl (by kernel_rfl) (fun g w hg _ hE hI hpc hH=>by
  refine Stage.last mixed wb26_seg ⟨rfl,rfl⟩ (fun σ τ (ag:Agree 5 σ τ) (h:Agree 5 g.sig σ)=>h.trans' ag) (fun τ h=>rows_nil) (fun τ e ht hi ag=> ?_) (pin0 (by kernel_rfl))
  refine segsPw_segs ?_
  have q0:=hpc (.fnb 320 [.symi .u8 0,.symi .u64 1,.syms 2,.syms 4,.symi .i64 3]) (by simp [sf26])
  have q0:(!(g.sig.tab 320 [g.sig.ival 0,g.sig.ival 1,encB (g.sig.sval 2),encB (g.sig.sval 4),g.sig.ival 3]==0))=true:=by
   simp only [evalS,List.map,den,numS,Option.some.injEq,AVal.bool.injEq] at q0
   exact q0
  rw [hg,tab_rd] at q0
  have a0:τ.ival 0=g.sig.ival 0:=(ag.val 0 (by decide)).1.symm
  have a1:τ.ival 1=g.sig.ival 1:=(ag.val 1 (by decide)).1.symm
  have a2:τ.sval 2=g.sig.sval 2:=(ag.val 2 (by decide)).2.2.symm
  have a3:τ.ival 3=g.sig.ival 3:=(ag.val 3 (by decide)).1.symm
  have a4:τ.sval 4=g.sig.sval 4:=(ag.val 4 (by decide)).2.2.symm
  rw [←a0,←a1,←a2,←a3,←a4] at q0
  obtain ⟨qs,qh⟩:=q0
  have w0:=hi 0 .u8 (by decide) rfl
  have w1:=hi 1 .u64 (by decide) rfl
  rw [wr_u8] at w0
  rw [wr_u64] at w1
  have hl:=thL_len (τ.ival 0) (τ.ival 1) (τ.sval 2)
  have h:P26 τ:=⟨by omega,by omega,by omega,by omega,qs,qh.1,by have:=qh.2.1;omega,ht⟩
  have hlo:=h.lo
  have hhi:=h.hi
  have hn0:=h.n0
  have hn1:=h.n1
  have fin: ∀n,τ.ival n=τ.ival 3+((thL (τ.ival 0) (τ.ival 1) (τ.sval 2)).length:Int)→EndZ wnTab 61 (fraOf g w sf26.pre.length) (bodyPost Tryd.prog Tryd.f26 (MemR wnTab sf26 g w)) .ret wbE26 (asgS τ ([(4,.syms 4),(6,.symi .i64 n)]++[])):=by
   intro n hq
   have i5:g.sig.ival 5=IntKind.i64.wrap (g.sig.tab 257 [g.sig.ival 0,g.sig.ival 1,encB (g.sig.sval 2)]):=eqFn (hE.at 0 _ rfl rfl)
   have i6:g.sig.ival 6=IntKind.i64.wrap (g.sig.ival 3+g.sig.ival 5):=eqI (hE.at 1 _ rfl rfl) rfl
   rw [hg,tab_tl,←a0,←a1,←a2,wr_i64] at i5
   rw [wr_i64,←a3] at i6
   have e6:τ.ival n=g.sig.ival 6:=by rw [hq];omega
   exact endZ_mem (M:=7) (l:=L26) (vs:=[.bool true]) (by kernel_rfl) rfl rfl hH hg rfl rfl rfl (by kernel_rfl) (by kernel_rfl)
    ⟨congrArg AVal.str a4,congrArg (AVal.int .i64) e6,trivial⟩ (by decide) ag.ext.symm (.inl rfl)
  have d0:=kd26 e h 0 (by decide)
  have d1:=kd26 e h 1 (by decide)
  have d2:=kd26 e h 2 (by decide)
  have d3:=kd26 e h 3 (by decide)
  have d4:=kd26 e h 4 (by decide)
  simp only [Nat.add_zero,Nat.reduceAdd] at d0 d1 d2 d3 d4
  have i5:τ.ival 5=((τ.sval 4).size:Nat):=eqLen (e.at 0 _ rfl rfl)
  have b6:τ.bval 6=decide ((0:Int)≤τ.ival 3):=eqB (e.at 1 _ rfl rfl) rfl
  have b7:τ.bval 7=decide (τ.ival 3≤τ.ival 5):=eqB (e.at 2 _ rfl rfl) rfl
  have b8:τ.bval 8=decide (τ.ival 5≤1000000):=eqB (e.at 3 _ rfl rfl) rfl
  have tr: ∀{P:Prop} {b:Bool} [Decidable P],b=decide P→b=false→P→False:=fun hb hf hp=>by rw [hb,decide_eq_false_iff_not] at hf;exact hf hp
  have trT: ∀{P:Prop} {b:Bool} [Decidable P],b=decide P→b=true→ ¬P→False:=fun hb hf hp=>by rw [hb,decide_eq_true_eq] at hf;exact hp hf
  have trE: ∀{x y:Int} {b:Bool},b=(x==y)→b=false→x=y→False:=fun hb hf hp=>by rw [hb,beq_eq_false_iff_ne] at hf;exact hf hp
  have trEt: ∀{x y:Int} {b:Bool},b=(x==y)→b=true→x≠y→False:=fun hb hf hp=>by rw [hb,beq_iff_eq] at hf;exact hp hf
  refine ⟨fun _=>⟨fun _=>⟨fun _=>⟨fun f10=> ?_,fun f10=>⟨fun f11=> ?_,fun f11=>⟨fun f12=> ?_,fun f12=>⟨fun f13=> ?_,fun f13=>⟨fun f14=> ?_,fun f14=> ?_⟩⟩⟩⟩⟩,fun f=>tr b8 f (by omega)⟩,fun f=>tr b7 f (by omega)⟩,fun f=>tr b6 f (by omega)⟩
  ·have k:τ.ival 0%6=0:=by rw [d0] at f10;simpa using f10
   rw [thL0 k] at qh fin
   obtain ⟨n16,n17,n15,n18⟩:=rd26 e h qh
   have i19:τ.ival 19=(τ.ival 1).tmod (4611686018427387904):=eqI (e.at 14 _ rfl rfl) rfl
   have b20:τ.bval 20=((τ.ival 16:Int)==τ.ival 19):=eqB (e.at 15 _ rfl rfl) rfl
   rw [tmod_pos _ h.n0] at i19
   exact ⟨fun _=>⟨fun _=>fin 18 n18,fun f=>trE b20 f (by omega)⟩,fun f=>absurd n15 f⟩
  ·have k:τ.ival 0%6=1:=by rw [d1] at f11;simpa using f11
   rw [thL1 k] at qh fin
   obtain ⟨n16,n17,n15,n18⟩:=rd26 e h qh
   have hz:=zz_in (τ.ival 1)
   have e26:=i26 e h (by rw [n16];exact Int.emod_eq_of_lt hz.1 hz.2)
   have i27:τ.ival 27=IntKind.i64.wrap (τ.ival 1):=eqI (e.at 22 _ rfl rfl) rfl
   have i28:τ.ival 28=τ.ival 27/4:=(eqI (x:=(τ.ival 27:Int).fdiv (2^(min (2:Int).toNat IntKind.i64.bits))) (e.at 23 _ rfl rfl) rfl).trans (by rw [show (2:Int)^(min (2:Int).toNat IntKind.i64.bits)=4 by decide];exact fdiv_pow (by decide))
   have b29:τ.bval 29=((τ.ival 26:Int)==τ.ival 28):=eqB (e.at 24 _ rfl rfl) rfl
   have e28:τ.ival 28=whole (τ.ival 1):=by rw [i28,i27];rfl
   exact ⟨fun _=>⟨fun _=>fin 18 n18,fun f=>trE b29 f (by omega)⟩,fun f=>absurd n15 f⟩
  ·have k:τ.ival 0%6=2:=by rw [d2] at f12;simpa using f12
   rw [thL2 k] at qh fin
   have h1:=qh.2.1
   have h2:=qh.2.2 0 (by simp)
   simp only [List.length_singleton,List.getD_cons_zero,Int.natCast_zero,Int.add_zero,Int.natCast_one] at h1 h2 fin
   have i30:τ.ival 30=IntKind.i64.wrap (τ.ival 5-τ.ival 3):=eqI (e.at 25 _ rfl rfl) rfl
   have b31:τ.bval 31=((τ.ival 30:Int)==0):=eqB (e.at 26 _ rfl rfl) rfl
   have b32:τ.bval 32=decide (τ.ival 3<τ.ival 5):=eqB (e.at 27 _ rfl rfl) rfl
   have i33:τ.ival 33=bAt (τ.sval 4) (τ.ival 3):=eqAt (e.at 28 _ rfl rfl) rfl
   have i34:τ.ival 34=IntKind.i64.wrap (τ.ival 3+1):=eqI (e.at 29 _ rfl rfl) rfl
   have i35:τ.ival 35=IntKind.u8.wrap (τ.ival 1):=eqI (e.at 30 _ rfl rfl) rfl
   have b36:τ.bval 36=((τ.ival 33:Int)==τ.ival 35):=eqB (e.at 31 _ rfl rfl) rfl
   rw [wr_i64] at i30 i34
   rw [wr_u8] at i35
   exact ⟨fun f=>trEt b31 f (by omega),fun _=>⟨fun _=>⟨fun _=>fin 34 (by omega),fun f=>trE b36 f (by omega)⟩,fun f=>tr b32 f (by omega)⟩⟩
  ·have k:τ.ival 0%6=3:=by rw [d3] at f13;simpa using f13
   rw [thL3 k] at qh fin
   have h1:=qh.2.1
   have h2:=qh.2.2 0 (by simp)
   simp only [List.length_singleton,List.getD_cons_zero,Int.natCast_zero,Int.add_zero,Int.natCast_one] at h1 h2 fin
   have i30:τ.ival 30=IntKind.i64.wrap (τ.ival 5-τ.ival 3):=eqI (e.at 25 _ rfl rfl) rfl
   have b31:τ.bval 31=((τ.ival 30:Int)==0):=eqB (e.at 26 _ rfl rfl) rfl
   have b32:τ.bval 32=decide (τ.ival 3<τ.ival 5):=eqB (e.at 27 _ rfl rfl) rfl
   have i33:τ.ival 33=bAt (τ.sval 4) (τ.ival 3):=eqAt (e.at 28 _ rfl rfl) rfl
   have i34:τ.ival 34=IntKind.i64.wrap (τ.ival 3+1):=eqI (e.at 29 _ rfl rfl) rfl
   have b37:τ.bval 37=decide (τ.ival 30>0):=eqB (e.at 32 _ rfl rfl) rfl
   have b38:τ.bval 38=decide (τ.ival 33>1):=eqB (e.at 33 _ rfl rfl) rfl
   have b39:τ.bval 39=((τ.ival 33:Int)==1):=eqB (e.at 34 _ rfl rfl) rfl
   have i40:τ.ival 40=(τ.ival 1).tmod (2):=eqI (e.at 35 _ rfl rfl) rfl
   have b41:τ.bval 41=((τ.ival 40:Int)==1):=eqB (e.at 36 _ rfl rfl) rfl
   have b42:τ.bval 42=((τ.bval 39:Bool)==τ.bval 41):=eqB (e.at 37 _ rfl rfl) rfl
   rw [wr_i64] at i30 i34
   rw [tmod_pos _ h.n0] at i40
   have e33:τ.ival 33=τ.ival 40:=by omega
   exact ⟨fun _=>⟨fun _=>⟨fun f=>trT b38 f (by omega),fun _=>⟨fun f=>trEt b31 f (by omega),fun _=>⟨fun _=>fin 34 (by omega),fun f=>by rw [b42,b39,b41,e33] at f;simp at f⟩⟩⟩,fun f=>tr b32 f (by omega)⟩,fun f=>tr b37 f (by omega)⟩
  ·have k:τ.ival 0%6=4:=by rw [d4] at f14;simpa using f14
   rw [thL4 k] at qh fin hl
   obtain ⟨n16,n17,n15,n18⟩:=rd26 e h qh.left
   have h2:=qh.right
   have h3:=has_txt h2
   have h4:=h2.2.1
   have z:=txt_size (τ.sval 2)
   rw [List.length_append,ints_length] at fin hl
   rw [ints_length] at h4
   have i30:τ.ival 30=IntKind.i64.wrap (τ.ival 5-τ.ival 3):=eqI (e.at 25 _ rfl rfl) rfl
   have b43:τ.bval 43=decide (τ.ival 16>99):=eqB (e.at 38 _ rfl rfl) rfl
   have i44:τ.ival 44=IntKind.i64.wrap (τ.ival 16):=eqI (e.at 39 _ rfl rfl) rfl
   have i45:τ.ival 45=IntKind.i64.wrap (τ.ival 30-τ.ival 17):=eqI (e.at 40 _ rfl rfl) rfl
   have b46:τ.bval 46=decide (τ.ival 45<τ.ival 44):=eqB (e.at 41 _ rfl rfl) rfl
   have i47:τ.ival 47=IntKind.i64.wrap (τ.ival 18+τ.ival 44):=eqI (e.at 42 _ rfl rfl) rfl
   have b48:τ.bval 48=decide ((0:Int)≤τ.ival 18):=eqB (e.at 43 _ rfl rfl) rfl
   have b49:τ.bval 49=decide (τ.ival 18≤τ.ival 47):=eqB (e.at 44 _ rfl rfl) rfl
   have b50:τ.bval 50=decide (τ.ival 47≤τ.ival 5):=eqB (e.at 45 _ rfl rfl) rfl
   have s51:τ.sval 51=(τ.sval 4).extract (τ.ival 18:Int).toNat (τ.ival 47:Int).toNat:=eqSub (e.at 46 _ rfl rfl) rfl rfl
   have i52:τ.ival 52=IntKind.i64.wrap (τ.ival 17+τ.ival 44):=eqI (e.at 47 _ rfl rfl) rfl
   have i53:τ.ival 53=IntKind.i64.wrap (τ.ival 3+τ.ival 52):=eqI (e.at 48 _ rfl rfl) rfl
   have i54:τ.ival 54=((τ.sval 2).size:Nat):=eqLen (e.at 49 _ rfl rfl)
   have i55:τ.ival 55=(if 99<τ.ival 54 then 99 else τ.ival 54):=eqI (e.at 50 _ rfl rfl) rfl
   have b56:τ.bval 56=decide ((0:Int)≤τ.ival 55):=eqB (e.at 51 _ rfl rfl) rfl
   have b57:τ.bval 57=decide (τ.ival 55≤τ.ival 54):=eqB (e.at 52 _ rfl rfl) rfl
   have s58:τ.sval 58=(τ.sval 2).extract (0:Int).toNat (τ.ival 55:Int).toNat:=eqSub (e.at 53 _ rfl rfl) rfl rfl
   have b59:τ.bval 59=((τ.sval 51).toList==(τ.sval 58).toList):=eqB (e.at 54 _ rfl rfl) rfl
   rw [wr_i64] at i30 i44 i45 i47 i52 i53
   have e44:τ.ival 44=((txt (τ.sval 2)).size:Nat):=by omega
   have e47:τ.ival 47=τ.ival 3+((pbL (txt (τ.sval 2)).size).length:Int)+((txt (τ.sval 2)).size:Nat):=by omega
   have e51:τ.sval 51=txt (τ.sval 2):=by rw [s51,n18,e47,h3]
   have e55:τ.ival 55=min (τ.ival 54) 99:=by rw [i55];split<;>omega
   have e58:τ.sval 58=txt (τ.sval 2):=by
    rw [s58,e55,i54]
    unfold txt
    congr 1
    omega
   exact ⟨fun _=>⟨fun f=>trT b43 f (by omega),fun _=>⟨fun f=>trT b46 f (by omega),fun _=>⟨fun _=>⟨fun _=>⟨fun _=>⟨fun _=>⟨fun _=>⟨fun _=>fin 53 (by omega),fun f=>by rw [b59,e51,e58] at f;simp at f⟩,fun f=>tr b57 f (by omega)⟩,fun f=>tr b56 f (by omega)⟩,fun f=>tr b50 f (by omega)⟩,fun f=>tr b49 f (by omega)⟩,fun f=>tr b48 f (by omega)⟩⟩⟩,fun f=>absurd n15 f⟩
  ·have k:τ.ival 0%6=5:=by
    rw [d0] at f10
    rw [d1] at f11
    rw [d2] at f12
    rw [d3] at f13
    rw [d4] at f14
    simp only [beq_eq_false_iff_ne,ne_eq] at f10 f11 f12 f13 f14
    omega
   rw [thL5 k] at qh fin
   obtain ⟨n16,n17,n15,n18⟩:=rd26 e h qh
   have i44:τ.ival 44=IntKind.i64.wrap (τ.ival 16):=eqI (e.at 39 _ rfl rfl) rfl
   have b60:τ.bval 60=decide (τ.ival 16>999):=eqB (e.at 55 _ rfl rfl) rfl
   have i61:τ.ival 61=(τ.ival 1).tmod (1000):=eqI (e.at 56 _ rfl rfl) rfl
   have i62:τ.ival 62=IntKind.i64.wrap (τ.ival 61):=eqI (e.at 57 _ rfl rfl) rfl
   have b63:τ.bval 63=((τ.ival 44:Int)==τ.ival 62):=eqB (e.at 58 _ rfl rfl) rfl
   rw [tmod_pos _ h.n0] at i61
   rw [wr_i64] at i44 i62
   exact ⟨fun _=>⟨fun f=>trT b60 f (by omega),fun _=>⟨fun _=>fin 18 n18,fun f=>trE b63 f (by omega)⟩⟩,fun f=>absurd n15 f⟩)
end Go.Proofs.YtapfkgenachpgaaDoor.wb
