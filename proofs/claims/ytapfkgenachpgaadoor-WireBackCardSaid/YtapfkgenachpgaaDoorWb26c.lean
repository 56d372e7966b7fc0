/-
 Contract of Thing.back: a thing that was cut is a fault at its place.
 No conditions.
-/
import Derived.Test.YtapfkgenachpgaaDoorWb26
namespace Go.Proofs.YtapfkgenachpgaaDoor.wb
open Go.Ev Go.RowKit Go.Wbp
open Go.Proofs.YtapfkgenachpgaaDoor.wn (mixed sf48 wnTbl)
set_option linter.unusedVariables false
set_option linter.unusedSimpArgs false
set_option maxRecDepth 100000 in
def wb26cG:List SDef:=[.sop .len [.syms 4],
 .bin .leq (.int .i64 0) (.symi .i64 3),
 .bin .leq (.symi .i64 3) (.symi .i64 5),
 .bin .leq (.symi .i64 5) (.int .i64 1000000),
 .bin .rem (.symi .u8 0) (.int .u8 6),
 .bin .eql (.symi .u8 9) (.int .u8 0),
 .bin .eql (.symi .u8 9) (.int .u8 1),
 .bin .eql (.symi .u8 9) (.int .u8 2),
 .bin .eql (.symi .u8 9) (.int .u8 3),
 .bin .eql (.symi .u8 9) (.int .u8 4),
 .fn 130 .i64 [.syms 4,.symi .i64 3],
 .fn 128 .u64 [.syms 4,.symi .i64 3],
 .fn 129 .i64 [.syms 4,.symi .i64 3],
 .bin .add (.symi .i64 3) (.symi .i64 17),
 .bin .rem (.symi .u64 1) (.int .u64 4611686018427387904),
 .bin .eql (.symi .u64 16) (.symi .u64 19),
 .bin .shr (.symi .u64 16) (.int .u64 1),
 .conv .i64 (.symi .u64 21),
 .bin .and (.symi .u64 16) (.int .u64 1),
 .conv .i64 (.symi .u64 23),
 .un .neg (.symi .i64 24),
 .bin .xor (.symi .i64 22) (.symi .i64 25),
 .conv .i64 (.symi .u64 1),
 .bin .shr (.symi .i64 27) (.int .u64 2),
 .bin .eql (.symi .i64 26) (.symi .i64 28),
 .bin .sub (.symi .i64 5) (.symi .i64 3),
 .bin .eql (.symi .i64 30) (.int .i64 0),
 .conv .u8 (.symi .u64 1),
 .bin .eql (.int .u8 0) (.symi .u8 32),
 .bin .gtr (.symi .i64 30) (.int .i64 0),
 .bin .rem (.symi .u64 1) (.int .u64 2),
 .bin .eql (.symi .u64 35) (.int .u64 1),
 .bin .eql (.bool false) (.symb 36),
 .bin .gtr (.symi .u64 16) (.int .u64 99),
 .conv .i64 (.symi .u64 16),
 .bin .sub (.symi .i64 30) (.symi .i64 17),
 .bin .lss (.symi .i64 40) (.symi .i64 39),
 .sop .len [.syms 2],
 .low [.symi .i64 42,.int .i64 99],
 .bin .leq (.int .i64 0) (.symi .i64 43),
 .bin .leq (.symi .i64 43) (.symi .i64 42),
 .sop .sub [.syms 2,.int .i64 0,.symi .i64 43],
 .bin .eql (.str ⟨#[]⟩) (.syms 46),
 .bin .add (.symi .i64 3) (.int .i64 0),
 .bin .rem (.symi .u64 1) (.int .u64 1000),
 .conv .i64 (.symi .u64 49),
 .bin .eql (.int .i64 0) (.symi .i64 50)]
set_option maxRecDepth 100000 in
def wb26cT:LT:=.n (.n (.n (.n (.n (.n (.e) 310555 9 (.bin .rem (.symi .u8 0) (.int .u8 6)) (.e)) 15523167 22 (.conv .i64 (.symi .u64 21)) (.e)) 68458226 26 (.bin .xor (.symi .i64 22) (.symi .i64 25)) (.n (.n (.e) 74146061 8 (.bin .leq (.symi .i64 5) (.int .i64 1000000)) (.e)) 101110718 35 (.bin .rem (.symi .u64 1) (.int .u64 2)) (.e))) 102811908 19 (.bin .rem (.symi .u64 1) (.int .u64 4611686018427387904)) (.n (.n (.e) 103000641 32 (.conv .u8 (.symi .u64 1)) (.n (.e) 103000641 27 (.conv .i64 (.symi .u64 1)) (.e))) 151045648 49 (.bin .rem (.symi .u64 1) (.int .u64 1000)) (.n (.n (.e) 200794583 43 (.low [.symi .i64 42,.int .i64 99]) (.e)) 221523785 24 (.conv .i64 (.symi .u64 23)) (.e)))) 249926432 33 (.bin .eql (.int .u8 0) (.symi .u8 32)) (.n (.n (.n (.n (.e) 250962852 41 (.bin .lss (.symi .i64 40) (.symi .i64 39)) (.e)) 276523940 25 (.un .neg (.symi .i64 24)) (.e)) 277115638 40 (.bin .sub (.symi .i64 30) (.symi .i64 17)) (.n (.n (.e) 303011226 48 (.bin .add (.symi .i64 3) (.int .i64 0)) (.e)) 313845553 36 (.bin .eql (.symi .u64 35) (.int .u64 1)) (.e))) 334019444 42 (.sop .len [.syms 2]) (.n (.n (.n (.e) 362456698 46 (.sop .sub [.syms 2,.int .i64 0,.symi .i64 43]) (.e)) 428778373 29 (.bin .eql (.symi .i64 26) (.symi .i64 28)) (.e)) 461350760 30 (.bin .sub (.symi .i64 5) (.symi .i64 3)) (.n (.n (.e) 510282675 45 (.bin .leq (.symi .i64 43) (.symi .i64 42)) (.e)) 542323408 23 (.bin .and (.symi .u64 16) (.int .u64 1)) (.e))))) 542323436 21 (.bin .shr (.symi .u64 16) (.int .u64 1)) (.n (.n (.n (.n (.n (.e) 547226908 38 (.bin .gtr (.symi .u64 16) (.int .u64 99)) (.e)) 560448121 37 (.bin .eql (.bool false) (.symb 36)) (.e)) 574263449 39 (.conv .i64 (.symi .u64 16)) (.n (.n (.e) 579634977 28 (.bin .shr (.symi .i64 27) (.int .u64 2)) (.e)) 623560449 20 (.bin .eql (.symi .u64 16) (.symi .u64 19)) (.e))) 668031802 5 (.sop .len [.syms 4]) (.n (.n (.n (.e) 752048165 50 (.conv .i64 (.symi .u64 49)) (.e)) 771332931 18 (.bin .add (.symi .i64 3) (.symi .i64 17)) (.e)) 777642038 47 (.bin .eql (.str ⟨#[]⟩) (.syms 46)) (.n (.n (.e) 805590330 44 (.bin .leq (.int .i64 0) (.symi .i64 43)) (.e)) 882535830 31 (.bin .eql (.symi .i64 30) (.int .i64 0)) (.e)))) 882535858 34 (.bin .gtr (.symi .i64 30) (.int .i64 0)) (.n (.n (.n (.n (.e) 896040906 16 (.fn 128 .u64 [.syms 4,.symi .i64 3]) (.e)) 896040949 17 (.fn 129 .i64 [.syms 4,.symi .i64 3]) (.e)) 896040992 15 (.fn 130 .i64 [.syms 4,.symi .i64 3]) (.n (.n (.e) 909013121 10 (.bin .eql (.symi .u8 9) (.int .u8 0)) (.e)) 909063156 11 (.bin .eql (.symi .u8 9) (.int .u8 1)) (.e))) 909113191 12 (.bin .eql (.symi .u8 9) (.int .u8 2)) (.n (.n (.n (.e) 909163226 13 (.bin .eql (.symi .u8 9) (.int .u8 3)) (.e)) 909213261 14 (.bin .eql (.symi .u8 9) (.int .u8 4)) (.e)) 946057401 7 (.bin .leq (.symi .i64 3) (.symi .i64 5)) (.n (.n (.e) 1030090961 6 (.bin .leq (.int .i64 0) (.symi .i64 3)) (.e)) 1061581701 51 (.bin .eql (.int .i64 0) (.symi .i64 50)) (.e)))))
set_option maxRecDepth 100000 in
def wb26cW:Sw:=.node 6 (.node 7 (.node 8 (.node 10 (.pick 15 0 (.dead) (.pick 15 3 (.run (.leafE .ret wbE26c [(0,0),(2,0)] [(5,.symb 20),(4,.syms 4),(3,.symi .i64 18),(3,.symi .i64 3)] [])) (.dead))) (.node 11 (.pick 15 0 (.dead) (.pick 15 3 (.run (.leafE .ret wbE26c [(0,0),(2,0)] [(5,.symb 29),(4,.syms 4),(3,.symi .i64 18),(3,.symi .i64 3)] [])) (.dead))) (.node 12 (.node 31 (.run (.leaf .ret wbE26c [(0,0),(2,0)] [(5,.symb 33),(4,.syms 4),(3,.symi .i64 3),(3,.symi .i64 3)] [])) (.dead)) (.node 13 (.node 34 (.dead) (.node 31 (.run (.leaf .ret wbE26c [(0,0),(2,0)] [(5,.symb 37),(4,.syms 4),(3,.symi .i64 3),(3,.symi .i64 3)] [])) (.dead))) (.node 14 (.pick 15 0 (.node 38 (.dead) (.node 41 (.node 44 (.node 45 (.node 47 (.dead) (.run (.leaf .ret wbE26c [(0,0),(2,0)] [(5,.bool false),(4,.syms 4),(3,.symi .i64 3),(3,.symi .i64 3)] []))) (.dead)) (.dead)) (.dead))) (.pick 15 3 (.node 44 (.node 45 (.run (.leaf .ret wbE26c [(0,0),(2,0)] [(5,.symb 47),(4,.syms 4),(3,.symi .i64 3),(3,.symi .i64 3)] [])) (.dead)) (.dead)) (.dead))) (.pick 15 0 (.dead) (.pick 15 3 (.run (.leafE .ret wbE26c [(0,0),(2,0)] [(5,.symb 51),(4,.syms 4),(3,.symi .i64 48),(3,.symi .i64 3)] [])) (.dead)))))))) (.dead)) (.dead)) (.dead)
def wb26cKd:KdT:=.n (.n (.n (.n (.n (.n .e none .e) (some .i64) (.n .e none .e)) none (.n (.n .e (some .i64) .e) (some .u64) .e)) (some .i64) (.n (.n (.n .e (some .u64) .e) (some .u64) (.n .e none .e)) none (.n (.n .e none .e) (some .i64) .e))) (some .u64) (.n (.n (.n (.n .e none .e) (some .i64) (.n .e (some .u64) .e)) (some .u8) (.n (.n .e none .e) none .e)) none (.n (.n (.n .e none .e) (some .u64) .e) none (.n (.n .e none .e) none .e)))) (some .u8) (.n (.n (.n (.n (.n .e (some .u8) .e) (some .u64) (.n .e (some .i64) .e)) none (.n (.n .e (some .i64) .e) (some .i64) .e)) none (.n (.n (.n .e none .e) none .e) none (.n (.n .e none .e) (some .i64) .e))) none (.n (.n (.n (.n .e none .e) (some .i64) (.n .e (some .i64) .e)) none (.n (.n .e none .e) (some .i64) .e)) none (.n (.n (.n .e none .e) (some .i64) .e) none (.n (.n .e none .e) (some .i64) .e))))
noncomputable def wb26cY:Ing:={m:=5,ins:=wbK26,G:=wb26cG,T:=wb26cT,tab:=wnTab,lsts:=wbLst,kb:=52,kt:=wb26cKd,hook:=tblHook (tabOf wnFs) wnTbl}
noncomputable def wb26cX:Ing:={m:=5,ins:=wbK26,G:=wb26cG,T:=wb26cT,tab:=wnTab,lsts:=wbLst,kb:=52,kt:=wb26cKd,hook:=tblHook (tabOf wnFs) wnTbl,mh:=symMf (kdX wb26cY) [sf48]}
theorem wb26c_lt:okLT 5 wb26cG wb26cT=true:=by kernel_rfl
theorem wb26c_ok:okG wb26cG 5=true:=by kernel_rfl
theorem wb26c_hooks (F:List Fact):Hooks Tryd.prog (cxOf wb26cX F) where
 val:=fun f args v h hp=>wn.wn_hooks (X:=wb26cX) rfl rfl wb26c_lt F f args v h hp
 mem:=fun f args hp v hp' h=>by
  replace h:(symMf (kdX wb26cY) [sf48]) (symS (baseOf wb26cX F)) f args hp=some (v,hp'):=h
  exact mem_symF (X:=wb26cX) (tbl:=[sf48]) (inv:=fun _=>True) (fun e he=>by
   simp only [List.mem_cons,List.not_mem_nil,or_false] at he
   rcases he with rfl
   ·exact wn.wn48_contract) wb26c_lt rfl (fun _ _ _ _=>trivial) F f args hp v hp' h
 ovl:=fun f k h=>by simp only [wb26cX,cxOf,reduceCtorEq] at h
 atm:=fun k b h=>by simp only [wb26cX,cxOf,List.not_mem_nil] at h
theorem wb26c_seg:SegOk Tryd.prog wnTab 61 (flatC (bodyOf Tryd.f26)) wbS26 wb26cX wb26cW where
 lt:=wb26c_lt
 ok:=wb26c_ok
 hook:=wb26c_hooks
 n0:=rfl
 id:=by kernel_rfl
 reck:=by kernel_rfl
 tab:=rfl
 cuts:=rfl
 kt:=by kernel_rfl
theorem kd26c {τ:Sig} (e:Eqs τ 5 wb26cG) (h:P26 τ) (j:Nat) (hj:j<5):τ.bval (10+j)=(τ.ival 0%6==(j:Int)):=by
 have i9:τ.ival 9=(τ.ival 0).tmod (6):=eqI (e.at 4 _ rfl rfl) rfl
 have b10:τ.bval 10=((τ.ival 9:Int)==0):=eqB (e.at 5 _ rfl rfl) rfl
 have b11:τ.bval 11=((τ.ival 9:Int)==1):=eqB (e.at 6 _ rfl rfl) rfl
 have b12:τ.bval 12=((τ.ival 9:Int)==2):=eqB (e.at 7 _ rfl rfl) rfl
 have b13:τ.bval 13=((τ.ival 9:Int)==3):=eqB (e.at 8 _ rfl rfl) rfl
 have b14:τ.bval 14=((τ.ival 9:Int)==4):=eqB (e.at 9 _ rfl rfl) rfl
 rw [tmod_pos _ h.k0] at i9
 rw [i9] at b10 b11 b12 b13 b14
 obtain rfl|rfl|rfl|rfl|rfl:j=0∨j=1∨j=2∨j=3∨j=4:=by omega
 ·exact b10
 ·exact b11
 ·exact b12
 ·exact b13
 ·exact b14
theorem num26c {τ:Sig} (e:Eqs τ 5 wb26cG) (ht:τ.tab=wnTab) {v m c:Int} (h:numL (τ.sval 4) (τ.ival 3)=[v,m,c]) (hv:0≤v∧v<18446744073709551616) (hm:0≤m∧m≤8) (hc:0≤c∧c≤5) (ha:0≤τ.ival 3∧τ.ival 3≤1000000):
  τ.ival 16=v∧τ.ival 17=m∧τ.ival 15=c∧τ.ival 18=τ.ival 3+m:=by
 have i15:τ.ival 15=IntKind.i64.wrap (τ.tab 130 [encB (τ.sval 4),τ.ival 3]):=eqFn (e.at 10 _ rfl rfl)
 have i16:τ.ival 16=IntKind.u64.wrap (τ.tab 128 [encB (τ.sval 4),τ.ival 3]):=eqFn (e.at 11 _ rfl rfl)
 have i17:τ.ival 17=IntKind.i64.wrap (τ.tab 129 [encB (τ.sval 4),τ.ival 3]):=eqFn (e.at 12 _ rfl rfl)
 have i18:τ.ival 18=IntKind.i64.wrap (τ.ival 3+τ.ival 17):=eqI (e.at 13 _ rfl rfl) rfl
 rw [ht,show (128:Nat)=128+0 by rfl,wn.tab_num _ _ 0 (by decide),h,wr_u64] at i16
 rw [ht,show (129:Nat)=128+1 by rfl,wn.tab_num _ _ 1 (by decide),h,wr_i64] at i17
 rw [ht,show (130:Nat)=128+2 by rfl,wn.tab_num _ _ 2 (by decide),h,wr_i64] at i15
 simp only [List.getD_cons_zero,List.getD_cons_succ] at i15 i16 i17
 rw [wr_i64] at i18
 omega
theorem ct26 {τ:Sig} (e:Eqs τ 5 wb26cG) (h:P26 τ) {M:Int} (hh:Cut (τ.sval 4) (τ.ival 3) (pbL M)):τ.ival 16=0∧τ.ival 17=0∧τ.ival 15=3∧τ.ival 18=τ.ival 3:=by
 have:=h.sz
 have:=h.hi
 have:=num26c e h.ht (num_cut hh) (by decide) (by decide) (by decide) ⟨h.lo,by omega⟩
 omega
theorem rd26c {τ:Sig} (e:Eqs τ 5 wb26cG) (h:P26 τ) {M:Int} (hh:Has (τ.sval 4) (τ.ival 3) (pbL M)):τ.ival 16=M%4611686018427387904∧τ.ival 17=((pbL M).length:Int)∧τ.ival 15=0∧τ.ival 18=τ.ival 3+((pbL M).length:Int):=by
 have:=pbL_len M
 have:=h.sz
 have:=h.hi
 exact num26c e h.ht (num_read hh) (by omega) (by omega) (by decide) ⟨h.lo,by omega⟩
theorem i26c {τ:Sig} (e:Eqs τ 5 wb26cG) (h16:τ.ival 16=0):τ.ival 26=0:=by
 have i21:τ.ival 21=τ.ival 16/2:=(eqI (x:=(τ.ival 16:Int).fdiv (2^(min (1:Int).toNat IntKind.u64.bits))) (e.at 16 _ rfl rfl) rfl).trans (by rw [show (2:Int)^(min (1:Int).toNat IntKind.u64.bits)=2 by decide];exact fdiv_pow (by decide))
 have i22:τ.ival 22=IntKind.i64.wrap (τ.ival 21):=eqI (e.at 17 _ rfl rfl) rfl
 have i23:τ.ival 23=IntKind.u64.wrap (BitVec.ofInt IntKind.u64.bits (τ.ival 16)&&&BitVec.ofInt IntKind.u64.bits (1)).toNat:=eqI (e.at 18 _ rfl rfl) rfl
 have i24:τ.ival 24=IntKind.i64.wrap (τ.ival 23):=eqI (e.at 19 _ rfl rfl) rfl
 have i25:τ.ival 25=IntKind.i64.wrap (0-τ.ival 24):=eqI (e.at 20 _ rfl rfl) rfl
 have i26:τ.ival 26=IntKind.i64.wrap (BitVec.ofInt IntKind.i64.bits (τ.ival 22)^^^BitVec.ofInt IntKind.i64.bits (τ.ival 25)).toNat:=eqI (e.at 21 _ rfl rfl) rfl
 rw [h16,and_one (by decide) (by decide)] at i23
 rw [h16] at i21
 rw [wr_i64] at i22 i24 i25
 have e22:τ.ival 22=0:=by omega
 have e25:τ.ival 25=0:=by omega
 rw [i26,e22,e25,xor_zero_i (by decide) (by decide)]
def L26c:Asg:=[(5,.symb 5),(4,.syms 4),(3,.symi .i64 3),(3,.symi .i64 3)]
theorem twice26 {τ:Sig} {b:AVal} {n:Nat} (h:τ.ival n=τ.ival 3):EqsL τ [(5,b),(4,.syms 4),(3,.symi .i64 n),(3,.symi .i64 3)] [(5,b),(4,.syms 4),(3,.symi .i64 n),(3,.symi .i64 3)]:=by
 have h4:den τ (.symi .i64 3)=den τ (.symi .i64 n):=congrArg (AVal.int .i64) h.symm
 have r: ∀{a:AVal} {P:Prop},P→(match sameV a a with|true=>P|false=>den τ a=den τ a∧P):=by
  intro a P hP
  split
  ·exact hP
  ·exact ⟨rfl,hP⟩
 have s1:EqsL τ [(5,b),(4,.syms 4),(3,.symi .i64 n),(3,.symi .i64 3)] [(3,.symi .i64 3)]:=by
  show (match sameV (AVal.symi .i64 3) (AVal.symi .i64 n) with|true=>True|false=>den τ (.symi .i64 3)=den τ (.symi .i64 n)∧True)
  split
  ·trivial
  ·exact ⟨h4,trivial⟩
 have s2:EqsL τ [(5,b),(4,.syms 4),(3,.symi .i64 n),(3,.symi .i64 3)] [(3,.symi .i64 n),(3,.symi .i64 3)]:=r (a:=.symi .i64 n) s1
 have s3:EqsL τ [(5,b),(4,.syms 4),(3,.symi .i64 n),(3,.symi .i64 3)] [(4,.syms 4),(3,.symi .i64 n),(3,.symi .i64 3)]:=r (a:=.syms 4) s2
 exact r (a:=b) s3
theorem zero26 (t:ByteArray):decide (t.size=0)=(ByteArray.empty.toList==t.toList):=by
 rw [Bool.eq_iff_iff,decide_eq_true_eq,beq_iff_eq]
 constructor
 ·intro h
  have:t=.empty:=ext_of (by rw [h];rfl) (fun j hj=>absurd hj (by omega))
  rw [this]
 ·intro h
  rw [←toList_inj h]
  rfl
set_option maxHeartbeats 1000000 in
theorem c26c:SymFOk Tryd.prog wnTab (fun _=>True) sf26c:=
 symF_of_stage Tryd.func26 rfl (n:=61) rfl (by decide) (by decide) rfl rfl (by kernel_rfl) (fun g w hg _ hE hI hpc hH=>by
  refine Stage.last mixed wb26c_seg ⟨rfl,rfl⟩ (fun σ τ (ag:Agree 5 σ τ) (h:Agree 5 g.sig σ)=>h.trans' ag) (fun τ h=>rows_nil) (fun τ e ht hi ag=> ?_) (pin0 (by kernel_rfl))
  refine segsPw_segs ?_
  have q0:=hpc (.fnb 321 [.symi .u8 0,.symi .u64 1,.syms 2,.syms 4,.symi .i64 3]) (by simp [sf26c])
  have q0:(!(g.sig.tab 321 [g.sig.ival 0,g.sig.ival 1,encB (g.sig.sval 2),encB (g.sig.sval 4),g.sig.ival 3]==0))=true:=by
   simp only [evalS,List.map,den,numS,Option.some.injEq,AVal.bool.injEq] at q0
   exact q0
  rw [hg,tab_sh] at q0
  have a0:τ.ival 0=g.sig.ival 0:=(ag.val 0 (by decide)).1.symm
  have a1:τ.ival 1=g.sig.ival 1:=(ag.val 1 (by decide)).1.symm
  have a2:τ.sval 2=g.sig.sval 2:=(ag.val 2 (by decide)).2.2.symm
  have a3:τ.ival 3=g.sig.ival 3:=(ag.val 3 (by decide)).1.symm
  have a4:τ.sval 4=g.sig.sval 4:=(ag.val 4 (by decide)).2.2.symm
  rw [←a0,←a1,←a2,←a3,←a4] at q0
  obtain ⟨qs,qh⟩:=q0
  have w0:=hi 0 .u8 (by decide) rfl
  have w1:=hi 1 .u64 (by decide) rfl
  rw [wr_u8] at w0
  rw [wr_u64] at w1
  have hl:=thL_len (τ.ival 0) (τ.ival 1) (τ.sval 2)
  have h:P26 τ:=⟨by omega,by omega,by omega,by omega,qs,qh.1,qh.2.1,ht⟩
  have hlo:=h.lo
  have hhi:=h.hi
  have hn0:=h.n0
  have hn1:=h.n1
  have fin: ∀(b:AVal) (z:Bool) n,valS τ b=.bool z→thZ (τ.ival 0) (τ.ival 1) (τ.sval 2)=z→τ.ival n=τ.ival 3→EndZ wnTab 61 (fraOf g w sf26c.pre.length) (bodyPost Tryd.prog Tryd.f26 (MemR wnTab sf26c g w)) .ret wbE26c (asgS τ ([(5,b),(4,.syms 4),(3,.symi .i64 n),(3,.symi .i64 3)]++[])):=by
   intro b z n hb hz hn
   have b5:g.sig.bval 5= !(g.sig.tab 322 [g.sig.ival 0,g.sig.ival 1,encB (g.sig.sval 2)]==0):=eqFnb (hE.at 0 _ rfl rfl)
   rw [hg,tab_z,←a0,←a1,←a2,hz] at b5
   refine endZ_mem (M:=6) (l:=L26c) (vs:=[.symb 5]) (by kernel_rfl) rfl rfl hH hg rfl rfl rfl (by kernel_rfl) (by kernel_rfl)
    ⟨?_,congrArg AVal.str a4,congrArg (AVal.int .i64) (hn.trans a3),congrArg (AVal.int .i64) (hn.trans a3),trivial⟩ (by decide) ag.ext.symm (.inl rfl)
   show AVal.bool (bOf (valS τ b))=AVal.bool (g.sig.bval 5)
   rw [hb,b5]
   rfl
  have d0:=kd26c e h 0 (by decide)
  have d1:=kd26c e h 1 (by decide)
  have d2:=kd26c e h 2 (by decide)
  have d3:=kd26c e h 3 (by decide)
  have d4:=kd26c e h 4 (by decide)
  simp only [Nat.add_zero,Nat.reduceAdd] at d0 d1 d2 d3 d4
  have i5:τ.ival 5=((τ.sval 4).size:Nat):=eqLen (e.at 0 _ rfl rfl)
  have b6:τ.bval 6=decide ((0:Int)≤τ.ival 3):=eqB (e.at 1 _ rfl rfl) rfl
  have b7:τ.bval 7=decide (τ.ival 3≤τ.ival 5):=eqB (e.at 2 _ rfl rfl) rfl
  have b8:τ.bval 8=decide (τ.ival 5≤1000000):=eqB (e.at 3 _ rfl rfl) rfl
  have tr: ∀{P:Prop} {b:Bool} [Decidable P],b=decide P→b=false→P→False:=fun hb hf hp=>by rw [hb,decide_eq_false_iff_not] at hf;exact hf hp
  have trT: ∀{P:Prop} {b:Bool} [Decidable P],b=decide P→b=true→ ¬P→False:=fun hb hf hp=>by rw [hb,decide_eq_true_eq] at hf;exact hp hf
  have trE: ∀{x y:Int} {b:Bool},b=(x==y)→b=false→x=y→False:=fun hb hf hp=>by rw [hb,beq_eq_false_iff_ne] at hf;exact hf hp
  have trEt: ∀{x y:Int} {b:Bool},b=(x==y)→b=true→x≠y→False:=fun hb hf hp=>by rw [hb,beq_iff_eq] at hf;exact hp hf
  refine ⟨fun _=>⟨fun _=>⟨fun _=>⟨fun f10=> ?_,fun f10=>⟨fun f11=> ?_,fun f11=>⟨fun f12=> ?_,fun f12=>⟨fun f13=> ?_,fun f13=>⟨fun f14=> ?_,fun f14=> ?_⟩⟩⟩⟩⟩,fun f=>tr b8 f (by omega)⟩,fun f=>tr b7 f (by omega)⟩,fun f=>tr b6 f (by omega)⟩
  ·have k:τ.ival 0%6=0:=by rw [d0] at f10;simpa using f10
   rw [thL0 k] at qh
   rw [thZ0 k] at fin
   obtain ⟨n16,n17,n15,n18⟩:=ct26 e h qh
   have i19:τ.ival 19=(τ.ival 1).tmod (4611686018427387904):=eqI (e.at 14 _ rfl rfl) rfl
   have b20:τ.bval 20=((τ.ival 16:Int)==τ.ival 19):=eqB (e.at 15 _ rfl rfl) rfl
   rw [tmod_pos _ h.n0] at i19
   rw [n16,i19] at b20
   exact ⟨fun f=>absurd (n15.symm.trans f) (by decide),fun _=>⟨fun _=>⟨twice26 n18,fin (.symb 20) _ 18 (congrArg AVal.bool b20) (by rw [Bool.eq_iff_iff,decide_eq_true_eq,beq_iff_eq];exact ⟨fun h=>h.symm,fun h=>h.symm⟩) n18⟩,fun f=>absurd n15 f⟩⟩
  ·have k:τ.ival 0%6=1:=by rw [d1] at f11;simpa using f11
   rw [thL1 k] at qh
   rw [thZ1 k] at fin
   obtain ⟨n16,n17,n15,n18⟩:=ct26 e h qh
   have e26:=i26c e n16
   have i27:τ.ival 27=IntKind.i64.wrap (τ.ival 1):=eqI (e.at 22 _ rfl rfl) rfl
   have i28:τ.ival 28=τ.ival 27/4:=(eqI (x:=(τ.ival 27:Int).fdiv (2^(min (2:Int).toNat IntKind.i64.bits))) (e.at 23 _ rfl rfl) rfl).trans (by rw [show (2:Int)^(min (2:Int).toNat IntKind.i64.bits)=4 by decide];exact fdiv_pow (by decide))
   have b29:τ.bval 29=((τ.ival 26:Int)==τ.ival 28):=eqB (e.at 24 _ rfl rfl) rfl
   have e28:τ.ival 28=whole (τ.ival 1):=by rw [i28,i27];rfl
   rw [e26,e28] at b29
   exact ⟨fun f=>absurd (n15.symm.trans f) (by decide),fun _=>⟨fun _=>⟨twice26 n18,fin (.symb 29) _ 18 (congrArg AVal.bool b29) (by rw [Bool.eq_iff_iff,decide_eq_true_eq,beq_iff_eq];exact ⟨fun h=>h.symm,fun h=>h.symm⟩) n18⟩,fun f=>absurd n15 f⟩⟩
  ·have k:τ.ival 0%6=2:=by rw [d2] at f12;simpa using f12
   rw [thL2 k] at qh
   rw [thZ2 k] at fin
   have h1:=qh.2.2.1
   simp only [List.length_singleton,Int.natCast_one] at h1
   have i30:τ.ival 30=IntKind.i64.wrap (τ.ival 5-τ.ival 3):=eqI (e.at 25 _ rfl rfl) rfl
   have b31:τ.bval 31=((τ.ival 30:Int)==0):=eqB (e.at 26 _ rfl rfl) rfl
   have i32:τ.ival 32=IntKind.u8.wrap (τ.ival 1):=eqI (e.at 27 _ rfl rfl) rfl
   have b33:τ.bval 33=((0:Int)==τ.ival 32):=eqB (e.at 28 _ rfl rfl) rfl
   rw [wr_i64] at i30
   rw [wr_u8] at i32
   rw [i32] at b33
   exact ⟨fun _=>fin (.symb 33) _ 3 (congrArg AVal.bool b33) (by rw [Bool.eq_iff_iff,decide_eq_true_eq,beq_iff_eq];omega) rfl,fun f=>trE b31 f (by omega)⟩
  ·have k:τ.ival 0%6=3:=by rw [d3] at f13;simpa using f13
   rw [thL3 k] at qh
   rw [thZ3 k] at fin
   have h1:=qh.2.2.1
   simp only [List.length_singleton,Int.natCast_one] at h1
   have i30:τ.ival 30=IntKind.i64.wrap (τ.ival 5-τ.ival 3):=eqI (e.at 25 _ rfl rfl) rfl
   have b31:τ.bval 31=((τ.ival 30:Int)==0):=eqB (e.at 26 _ rfl rfl) rfl
   have b34:τ.bval 34=decide (τ.ival 30>0):=eqB (e.at 29 _ rfl rfl) rfl
   have i35:τ.ival 35=(τ.ival 1).tmod (2):=eqI (e.at 30 _ rfl rfl) rfl
   have b36:τ.bval 36=((τ.ival 35:Int)==1):=eqB (e.at 31 _ rfl rfl) rfl
   have b37:τ.bval 37=((false:Bool)==τ.bval 36):=eqB (e.at 32 _ rfl rfl) rfl
   rw [wr_i64] at i30
   rw [tmod_pos _ h.n0] at i35
   rw [b36,i35] at b37
   refine ⟨fun f=>trT b34 f (by omega),fun _=>⟨fun _=>fin (.symb 37) _ 3 (congrArg AVal.bool b37) ?_ rfl,fun f=>trE b31 f (by omega)⟩⟩
   by_cases c:τ.ival 1%2=0
   ·rw [c];rfl
   ·rw [show τ.ival 1%2=1 by omega];rfl
  ·have k:τ.ival 0%6=4:=by rw [d4] at f14;simpa using f14
   rw [thL4 k] at qh
   rw [thZ4 k] at fin
   have z:=txt_size (τ.sval 2)
   have i42:τ.ival 42=((τ.sval 2).size:Nat):=eqLen (e.at 37 _ rfl rfl)
   have i43:τ.ival 43=(if 99<τ.ival 42 then 99 else τ.ival 42):=eqI (e.at 38 _ rfl rfl) rfl
   have b44:τ.bval 44=decide ((0:Int)≤τ.ival 43):=eqB (e.at 39 _ rfl rfl) rfl
   have b45:τ.bval 45=decide (τ.ival 43≤τ.ival 42):=eqB (e.at 40 _ rfl rfl) rfl
   have s46:τ.sval 46=(τ.sval 2).extract (0:Int).toNat (τ.ival 43:Int).toNat:=eqSub (e.at 41 _ rfl rfl) rfl rfl
   have b47:τ.bval 47=((ByteArray.empty).toList==(τ.sval 46).toList):=eqB (e.at 42 _ rfl rfl) rfl
   have e43:τ.ival 43=min (τ.ival 42) 99:=by rw [i43];split<;>omega
   have e46:τ.sval 46=txt (τ.sval 2):=by
    rw [s46,e43,i42]
    unfold txt
    congr 1
    omega
   rw [e46] at b47
   rcases qh.left with qc|⟨qh1,qc⟩
   ·obtain ⟨n16,n17,n15,n18⟩:=ct26 e h qc
    refine ⟨fun f=>absurd (n15.symm.trans f) (by decide),fun _=>⟨fun _=>⟨fun _=>⟨fun _=>fin (.symb 47) _ 3 (congrArg AVal.bool b47) ?_ rfl,fun f=>tr b45 f (by omega)⟩,fun f=>tr b44 f (by omega)⟩,fun f=>absurd n15 f⟩⟩
    exact zero26 _
   ·obtain ⟨n16,n17,n15,n18⟩:=rd26c e h qh1
    have q1:=qc.2.2.1
    have q2:=qc.2.1
    rw [ints_length] at q1
    have hne:(txt (τ.sval 2)).size≠0:=by omega
    have i30:τ.ival 30=IntKind.i64.wrap (τ.ival 5-τ.ival 3):=eqI (e.at 25 _ rfl rfl) rfl
    have b38:τ.bval 38=decide (τ.ival 16>99):=eqB (e.at 33 _ rfl rfl) rfl
    have i39:τ.ival 39=IntKind.i64.wrap (τ.ival 16):=eqI (e.at 34 _ rfl rfl) rfl
    have i40:τ.ival 40=IntKind.i64.wrap (τ.ival 30-τ.ival 17):=eqI (e.at 35 _ rfl rfl) rfl
    have b41:τ.bval 41=decide (τ.ival 40<τ.ival 39):=eqB (e.at 36 _ rfl rfl) rfl
    rw [wr_i64] at i30 i39 i40
    refine ⟨fun _=>⟨fun f=>trT b38 f (by omega),fun _=>⟨fun _=>⟨fun _=>⟨fun _=>⟨fun f=> ?_,fun _=>fin (.bool false) false 3 rfl (by simpa using hne) rfl⟩,fun f=>tr b45 f (by omega)⟩,fun f=>tr b44 f (by omega)⟩,fun f=>tr b41 f (by omega)⟩⟩,fun f=>absurd n15 f⟩
    rw [b47,←zero26,decide_eq_true_eq] at f
    exact hne f
  ·have k:τ.ival 0%6=5:=by
    rw [d0] at f10
    rw [d1] at f11
    rw [d2] at f12
    rw [d3] at f13
    rw [d4] at f14
    simp only [beq_eq_false_iff_ne,ne_eq] at f10 f11 f12 f13 f14
    omega
   rw [thL5 k] at qh
   rw [thZ5 k] at fin
   obtain ⟨n16,n17,n15,n18⟩:=ct26 e h qh
   have i48:τ.ival 48=IntKind.i64.wrap (τ.ival 3+0):=eqI (e.at 43 _ rfl rfl) rfl
   have i49:τ.ival 49=(τ.ival 1).tmod (1000):=eqI (e.at 44 _ rfl rfl) rfl
   have i50:τ.ival 50=IntKind.i64.wrap (τ.ival 49):=eqI (e.at 45 _ rfl rfl) rfl
   have b51:τ.bval 51=((0:Int)==τ.ival 50):=eqB (e.at 46 _ rfl rfl) rfl
   rw [tmod_pos _ h.n0] at i49
   rw [wr_i64] at i48 i50
   have n48:τ.ival 48=τ.ival 3:=by omega
   have n50:τ.ival 50=τ.ival 1%1000:=by omega
   rw [n50] at b51
   exact ⟨fun f=>absurd (n15.symm.trans f) (by decide),fun _=>⟨fun _=>⟨twice26 n48,fin (.symb 51) _ 48 (congrArg AVal.bool b51) (by rw [Bool.eq_iff_iff,decide_eq_true_eq,beq_iff_eq];exact ⟨fun h=>h.symm,fun h=>h.symm⟩) n48⟩,fun f=>absurd n15 f⟩⟩)
end Go.Proofs.YtapfkgenachpgaaDoor.wb
