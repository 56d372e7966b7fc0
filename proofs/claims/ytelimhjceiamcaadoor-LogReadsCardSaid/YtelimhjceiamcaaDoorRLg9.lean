/-
 Contract of the document's Num.
 No conditions.
-/
import Derived.Test.YtelimhjceiamcaaDoorRWbp
import Derived.Test.YtelimhjceiamcaaDoorREv8
import Derived.Test.YtelimhjceiamcaaDoorRLg15
set_option linter.unusedVariables false
set_option linter.unusedSimpArgs false
namespace Go.Proofs.YtelimhjceiamcaaDoor.lg
open Go.Ev Go.RowKit Go.Wbp Go.Lgp
open Go.Proofs.YtelimhjceiamcaaDoor.lgn (mixed sf48 Qbt)
def Q4l:List (Option IntKind):=[some .u64]
def Qbhr:Shape:=⟨argT 0 [.u 0],[]⟩
def Qmx:Shape:=⟨[(2,.s 1)],[]⟩
def sf24:SymF:={f:=24,m:=1,ins:=Q4l,args:=[.u 0],pre:=[],pcs:=[],G:=[.sop (.fs 192) [.u 0]],v:=.s 1,post:=[]}
set_option maxRecDepth 100000 in
def Qmf:List SDef:=[.q .rem (.u 0) (.o 4611686018427387904),
 .q .lss (.u 1) (.o 64),
 .q .lss (.u 1) (.o 16384),
 .q .lss (.u 1) (.o 1073741824),
 .q .rem (.u 1) (.o 256),
 .conv .u8 (.u 5),
 .text [.c 6],
 .q .quo (.u 1) (.o 256),
 .q .add (.c 6) (.int .u8 0),
 .text [.c 9],
 .text [],
 .sop .cat [.s 10,.s 11],
 .sop .len [.s 12],
 .q .leq (.i 13) (.z 9223372036854775807),
 .q .rem (.u 8) (.o 256),
 .conv .u8 (.u 15),
 .text [.c 16],
 .text [.c 16,.c 6],
 .q .quo (.u 8) (.o 256),
 .q .add (.c 16) (.int .u8 64),
 .text [.c 20],
 .text [.c 20,.c 6],
 .sop .cat [.s 21,.s 7],
 .sop .len [.s 23],
 .q .leq (.i 24) (.z 9223372036854775807),
 .q .rem (.u 19) (.o 256),
 .conv .u8 (.u 26),
 .text [.c 27],
 .text [.c 27,.c 16,.c 6],
 .q .quo (.u 19) (.o 256),
 .q .rem (.u 30) (.o 256),
 .conv .u8 (.u 31),
 .text [.c 32],
 .text [.c 32,.c 27,.c 16,.c 6],
 .q .quo (.u 30) (.o 256),
 .q .add (.c 32) (.int .u8 128),
 .text [.c 36],
 .text [.c 36,.c 27,.c 16,.c 6],
 .sop .cat [.s 37,.s 29],
 .sop .len [.s 39],
 .q .leq (.i 40) (.z 9223372036854775807),
 .q .rem (.u 35) (.o 256),
 .conv .u8 (.u 42),
 .text [.c 43],
 .text [.c 43,.c 32,.c 27,.c 16,.c 6],
 .q .quo (.u 35) (.o 256),
 .q .rem (.u 46) (.o 256),
 .conv .u8 (.u 47),
 .text [.c 48],
 .text [.c 48,.c 43,.c 32,.c 27,.c 16,.c 6],
 .q .quo (.u 46) (.o 256),
 .q .rem (.u 51) (.o 256),
 .conv .u8 (.u 52),
 .text [.c 53],
 .text [.c 53,.c 48,.c 43,.c 32,.c 27,.c 16,.c 6],
 .q .quo (.u 51) (.o 256),
 .q .rem (.u 56) (.o 256),
 .conv .u8 (.u 57),
 .text [.c 58],
 .text [.c 58,.c 53,.c 48,.c 43,.c 32,.c 27,.c 16,.c 6],
 .q .quo (.u 56) (.o 256),
 .q .add (.c 58) (.int .u8 192),
 .text [.c 62],
 .text [.c 62,.c 53,.c 48,.c 43,.c 32,.c 27,.c 16,.c 6],
 .sop .cat [.s 63,.s 55],
 .sop .len [.s 65],
 .q .leq (.i 66) (.z 9223372036854775807)]
set_option maxRecDepth 100000 in
def Q2y:LT:=Go.Wbp.fT 1 Qmf (.n (.n (.n (.n (.n (.n (.n .e 168 11 .e) 1811605 1 .e) 17199012 36 (.n .e 19242349 23 .e)) 31046002 43 (.n (.n .e 69265961 10 .e) 70797105 40 (.n .e 92311607 44 .e))) 100860606 4 (.n (.n (.n .e 104212951 2 .e) 113819601 8 (.n .e 113819608 5 .e)) 117990451 66 (.n (.n .e 207789165 28 .e) 208116581 60 (.n .e 227131936 67 .e)))) 242825012 14 (.n (.n (.n (.n (.n .e 277050767 37 .e) 280086518 25 .e) 283980971 45 (.n .e 288573590 54 .e)) 300127131 61 (.n (.n .e 300127138 57 .e) 326604422 46 (.n .e 326604429 42 .e))) 352551382 34 (.n (.n (.n .e 357835192 63 .e) 363865928 51 (.n .e 363865935 47 .e)) 392408918 22 (.n (.n .e 392528325 21 .e) 461836512 55 (.n .e 471263140 16 .e))))) 498925476 62 (.n (.n (.n (.n (.n (.n .e 502308810 58 .e) 515001877 6 .e) 530524712 27 (.n .e 545475578 20 .e)) 546047547 48 (.n (.n .e 606012135 9 .e) 619923722 24 (.n .e 625437975 39 .e))) 637329517 12 (.n (.n (.n .e 716118105 64 .e) 727313512 49 (.n .e 762006645 7 .e)) 820821722 19 (.n (.n .e 820821729 15 .e) 822349539 41 (.n .e 842791070 33 .e)))) 858083228 30 (.n (.n (.n (.n (.n .e 858083235 26 .e) 860552906 38 .e) 868867443 56 (.n .e 868867450 52 .e)) 895344734 35 (.n (.n .e 895344741 31 .e) 919380479 29 (.n .e 920784151 3 .e))) 923575495 59 (.n (.n (.n .e 930339407 13 .e) 940783789 50 (.n .e 958149221 18 .e)) 958268628 17 (.n (.n .e 1045526257 32 .e) 1061049092 53 (.n .e 1061883220 65 .e))))))
set_option maxRecDepth 100000 in
def Qbfe:Sw:=.n 2 (.x 14 (.run (.leaf .ret Qmx [] [(1,.s 10)] []))) (.n 3 (.x 25 (.run (.leaf .ret Qmx [] [(1,.s 22)] []))) (.n 4 (.x 41 (.run (.leaf .ret Qmx [] [(1,.s 38)] []))) (.x 67 (.run (.leaf .ret Qmx [] [(1,.s 64)] [])))))
def Qbfd:KdT:=kdN 0x320032200322003220032000003200322003200000320032000003203200022 7 1 0
noncomputable def Qbff:Ing:={m:=1,ins:=Q4l,G:=Qmf,T:=Q2y,tab:=Qa,lsts:=Qs,kb:=68,kt:=Qbfd}
theorem Qbfg:okLT 1 Qmf Q2y=true:=by kernel_rfl
theorem Qbfh:SegOk Tryd.prog Qa 44 (Qe (Qc Tryd.f24)) Qbhr Qbff Qbfe:=
  ⟨Qbfg,by kernel_rfl,fun F=>Qb1 rfl F,rfl,by kernel_rfl,by kernel_rfl,rfl,rfl,fun _=>trivial,by kernel_rfl⟩
def L24:Asg:=[(1,.s 1)]
set_option maxHeartbeats 1000000 in
theorem c24:SymFOk Tryd.prog Qa (fun _=>True) sf24:=
 Qb2 Tryd.func24 rfl (n:=44) rfl (by decide) (by decide) rfl rfl (by kernel_rfl) (fun g w hg _ hE hI hpc hH=>by
  refine Qg.last mixed Qbfh ⟨rfl,rfl⟩ (fun V U (ag:Agree 1 V U) (h:Agree 1 g.sig V)=>h.trans' ag) (fun U h=>Qq) (fun U e ht hi ag=> ?_) (pin0 (by kernel_rfl))
  refine Qm ?_
  have g1:g.sig.s 1=decS (g.sig.tab 192 [g.sig.i 0]):=eqFs (hE.at 0 _ rfl rfl)
  have a0:U.i 0=g.sig.i 0:=(ag.val 0 (by decide)).1.symm
  rw [hg,lg_pb,<-a0] at g1
  have w0:=hi 0 .u64 (by decide) rfl
  rw [Qf] at w0
  have fin: ∀k,U.s k=bs (pbL (U.i 0))->EndZ Qa 44 (Qw g w sf24.pre.length) (bodyPost Tryd.prog Tryd.f24 (MemR Qa sf24 g w)) .ret Qmx (asgS U ([(1,.syms k)]++[])):=fun k h=>
   Qbw (M:=2) (l:=L24) (vs:=[.syms 1]) (by kernel_rfl) rfl rfl hH hg rfl rfl rfl (by kernel_rfl) (by kernel_rfl) ⟨congrArg AVal.str (h.trans g1.symm),trivial⟩ (by decide) (extS ag.ext.symm) (.inl rfl)
  have i1:U.i 1=(U.i 0).tmod (4611686018427387904):=eqI (e.at 0 _ rfl rfl) rfl
  have F:Facs U 1 Qmf:=facs e
  dsimp only [Qmf,Facs,fac1,facI,facS,facB,oI,oK,oB,oS,nmL,nm,Nat.reduceAdd] at F
  obtain ⟨-,b2,b3,b4,-,i6,-,-,i9,-,-,s12,i13,b14,-,i16,-,-,-,i20,-,-,s23,i24,b25,-,i27,-,-,-,-,i32,-,-,-,i36,-,-,s39,i40,b41,-,i43,-,-,-,-,i48,-,-,-,-,i53,-,-,-,-,i58,-,-,-,i62,-,-,s65,i66,b67,-⟩:=F
  have tr: ∀{P:Prop} {b:Bool} [Decidable P],b=decide P->b=false->P->False:=fun hb hf hp=>by rw [hb,decide_eq_false_iff_not] at hf;exact hf hp
  rw [Qca _ (by omega)] at i1
  have hm0:=Int.emod_nonneg (U.i 0) (show (4611686018427387904:Int)≠0 by decide)
  have hm1:=Int.emod_lt_of_pos (U.i 0) (show (0:Int)<4611686018427387904 by decide)
  generalize hM:U.i 0%4611686018427387904=M at i1 hm0 hm1
  refine ⟨fun f2=> ?_,fun f2=>⟨fun f3=> ?_,fun f3=>⟨fun f4=> ?_,fun f4=> ?_⟩⟩⟩
  ·
   rw [b2,decide_eq_true_eq] at f2
   have i5:U.i 5=(U.i 1).tmod (256):=eqI (e.at 4 _ rfl rfl) rfl
   have s10:U.s 10=bs [U.i 9]:=p9.eqText (e.at 9 _ rfl rfl)
   have s11:U.s 11=bs []:=p9.eqText (e.at 10 _ rfl rfl)
   rw [Qca _ (by omega)] at i5
   rw [wr_u8] at i6
   rw [wr_u8] at i9
   have e9:U.i 9=M:=by omega
   have ht10:U.s 10=bs (pbL (U.i 0)):=by
    rw [s10,e9]
    unfold pbL pbM
    rw [hM,if_pos (by omega)]
   have hz:(U.s 12).size<=100:=by
    rw [s12,s10,s11,ByteArray.size_append,Qbj,Qbj]
    simp
   exact ⟨fun _=>fin 10 ht10,fun f=>tr b14 f (by omega)⟩
  ·
   rw [b2,decide_eq_false_iff_not] at f2
   rw [b3,decide_eq_true_eq] at f3
   have i5:U.i 5=(U.i 1).tmod (256):=eqI (e.at 4 _ rfl rfl) rfl
   have s7:U.s 7=bs [U.i 6]:=p9.eqText (e.at 6 _ rfl rfl)
   have i8:U.i 8=IntKind.u64.wrap ((U.i 1).tdiv (256)):=eqI (e.at 7 _ rfl rfl) rfl
   have i15:U.i 15=(U.i 8).tmod (256):=eqI (e.at 14 _ rfl rfl) rfl
   have s21:U.s 21=bs [U.i 20]:=p9.eqText (e.at 20 _ rfl rfl)
   have s22:U.s 22=bs [U.i 20,U.i 6]:=p9.eqText (e.at 21 _ rfl rfl)
   rw [Qca _ (by omega)] at i5
   rw [wr_u8] at i6
   rw [Qf,Int.tdiv_eq_ediv_of_nonneg (by omega)] at i8
   rw [Qca _ (by omega)] at i15
   rw [wr_u8] at i16
   rw [wr_u8] at i20
   have e20:U.i 20=M/256+64:=by omega
   have e6:U.i 6=M%256:=by omega
   have ht22:U.s 22=bs (pbL (U.i 0)):=by
    rw [s22,e20,e6]
    unfold pbL pbM
    rw [hM,if_neg (by omega),if_pos (by omega)]
   have hz:(U.s 23).size<=100:=by
    rw [s23,s21,s7,ByteArray.size_append,Qbj,Qbj]
    simp
   exact ⟨fun _=>fin 22 ht22,fun f=>tr b25 f (by omega)⟩
  ·
   rw [b2,decide_eq_false_iff_not] at f2
   rw [b3,decide_eq_false_iff_not] at f3
   rw [b4,decide_eq_true_eq] at f4
   have i5:U.i 5=(U.i 1).tmod (256):=eqI (e.at 4 _ rfl rfl) rfl
   have i8:U.i 8=IntKind.u64.wrap ((U.i 1).tdiv (256)):=eqI (e.at 7 _ rfl rfl) rfl
   have i15:U.i 15=(U.i 8).tmod (256):=eqI (e.at 14 _ rfl rfl) rfl
   have i19:U.i 19=IntKind.u64.wrap ((U.i 8).tdiv (256)):=eqI (e.at 18 _ rfl rfl) rfl
   have i26:U.i 26=(U.i 19).tmod (256):=eqI (e.at 25 _ rfl rfl) rfl
   have s29:U.s 29=bs [U.i 27,U.i 16,U.i 6]:=p9.eqText (e.at 28 _ rfl rfl)
   have i30:U.i 30=IntKind.u64.wrap ((U.i 19).tdiv (256)):=eqI (e.at 29 _ rfl rfl) rfl
   have i31:U.i 31=(U.i 30).tmod (256):=eqI (e.at 30 _ rfl rfl) rfl
   have s37:U.s 37=bs [U.i 36]:=p9.eqText (e.at 36 _ rfl rfl)
   have s38:U.s 38=bs [U.i 36,U.i 27,U.i 16,U.i 6]:=p9.eqText (e.at 37 _ rfl rfl)
   rw [Qca _ (by omega)] at i5
   rw [wr_u8] at i6
   rw [Qf,Int.tdiv_eq_ediv_of_nonneg (by omega)] at i8
   rw [Qca _ (by omega)] at i15
   rw [wr_u8] at i16
   rw [Qf,Int.tdiv_eq_ediv_of_nonneg (by omega)] at i19
   rw [Qca _ (by omega)] at i26
   rw [wr_u8] at i27
   rw [Qf,Int.tdiv_eq_ediv_of_nonneg (by omega)] at i30
   rw [Qca _ (by omega)] at i31
   rw [wr_u8] at i32
   rw [wr_u8] at i36
   have e36:U.i 36=M/16777216+128:=by omega
   have e27:U.i 27=M/65536%256:=by omega
   have e16:U.i 16=M/256%256:=by omega
   have e6:U.i 6=M%256:=by omega
   have ht38:U.s 38=bs (pbL (U.i 0)):=by
    rw [s38,e36,e27,e16,e6]
    unfold pbL pbM
    rw [hM,if_neg (by omega),if_neg (by omega),if_pos (by omega)]
   have hz:(U.s 39).size<=100:=by
    rw [s39,s37,s29,ByteArray.size_append,Qbj,Qbj]
    simp
   exact ⟨fun _=>fin 38 ht38,fun f=>tr b41 f (by omega)⟩
  ·
   rw [b2,decide_eq_false_iff_not] at f2
   rw [b3,decide_eq_false_iff_not] at f3
   rw [b4,decide_eq_false_iff_not] at f4
   have i5:U.i 5=(U.i 1).tmod (256):=eqI (e.at 4 _ rfl rfl) rfl
   have i8:U.i 8=IntKind.u64.wrap ((U.i 1).tdiv (256)):=eqI (e.at 7 _ rfl rfl) rfl
   have i15:U.i 15=(U.i 8).tmod (256):=eqI (e.at 14 _ rfl rfl) rfl
   have i19:U.i 19=IntKind.u64.wrap ((U.i 8).tdiv (256)):=eqI (e.at 18 _ rfl rfl) rfl
   have i26:U.i 26=(U.i 19).tmod (256):=eqI (e.at 25 _ rfl rfl) rfl
   have i30:U.i 30=IntKind.u64.wrap ((U.i 19).tdiv (256)):=eqI (e.at 29 _ rfl rfl) rfl
   have i31:U.i 31=(U.i 30).tmod (256):=eqI (e.at 30 _ rfl rfl) rfl
   have i35:U.i 35=IntKind.u64.wrap ((U.i 30).tdiv (256)):=eqI (e.at 34 _ rfl rfl) rfl
   have i42:U.i 42=(U.i 35).tmod (256):=eqI (e.at 41 _ rfl rfl) rfl
   have i46:U.i 46=IntKind.u64.wrap ((U.i 35).tdiv (256)):=eqI (e.at 45 _ rfl rfl) rfl
   have i47:U.i 47=(U.i 46).tmod (256):=eqI (e.at 46 _ rfl rfl) rfl
   have i51:U.i 51=IntKind.u64.wrap ((U.i 46).tdiv (256)):=eqI (e.at 50 _ rfl rfl) rfl
   have i52:U.i 52=(U.i 51).tmod (256):=eqI (e.at 51 _ rfl rfl) rfl
   have s55:U.s 55=bs [U.i 53,U.i 48,U.i 43,U.i 32,U.i 27,U.i 16,U.i 6]:=p9.eqText (e.at 54 _ rfl rfl)
   have i56:U.i 56=IntKind.u64.wrap ((U.i 51).tdiv (256)):=eqI (e.at 55 _ rfl rfl) rfl
   have i57:U.i 57=(U.i 56).tmod (256):=eqI (e.at 56 _ rfl rfl) rfl
   have s63:U.s 63=bs [U.i 62]:=p9.eqText (e.at 62 _ rfl rfl)
   have s64:U.s 64=bs [U.i 62,U.i 53,U.i 48,U.i 43,U.i 32,U.i 27,U.i 16,U.i 6]:=p9.eqText (e.at 63 _ rfl rfl)
   rw [Qca _ (by omega)] at i5
   rw [wr_u8] at i6
   rw [Qf,Int.tdiv_eq_ediv_of_nonneg (by omega)] at i8
   rw [Qca _ (by omega)] at i15
   rw [wr_u8] at i16
   rw [Qf,Int.tdiv_eq_ediv_of_nonneg (by omega)] at i19
   rw [Qca _ (by omega)] at i26
   rw [wr_u8] at i27
   rw [Qf,Int.tdiv_eq_ediv_of_nonneg (by omega)] at i30
   rw [Qca _ (by omega)] at i31
   rw [wr_u8] at i32
   rw [Qf,Int.tdiv_eq_ediv_of_nonneg (by omega)] at i35
   rw [Qca _ (by omega)] at i42
   rw [wr_u8] at i43
   rw [Qf,Int.tdiv_eq_ediv_of_nonneg (by omega)] at i46
   rw [Qca _ (by omega)] at i47
   rw [wr_u8] at i48
   rw [Qf,Int.tdiv_eq_ediv_of_nonneg (by omega)] at i51
   rw [Qca _ (by omega)] at i52
   rw [wr_u8] at i53
   rw [Qf,Int.tdiv_eq_ediv_of_nonneg (by omega)] at i56
   rw [Qca _ (by omega)] at i57
   rw [wr_u8] at i58
   rw [wr_u8] at i62
   have e62:U.i 62=M/72057594037927936+192:=by omega
   have e53:U.i 53=M/281474976710656%256:=by omega
   have e48:U.i 48=M/1099511627776%256:=by omega
   have e43:U.i 43=M/4294967296%256:=by omega
   have e32:U.i 32=M/16777216%256:=by omega
   have e27:U.i 27=M/65536%256:=by omega
   have e16:U.i 16=M/256%256:=by omega
   have e6:U.i 6=M%256:=by omega
   have ht64:U.s 64=bs (pbL (U.i 0)):=by
    rw [s64,e62,e53,e48,e43,e32,e27,e16,e6]
    unfold pbL pbM
    rw [hM,if_neg (by omega),if_neg (by omega),if_neg (by omega)]
   have hz:(U.s 65).size<=100:=by
    rw [s65,s63,s55,ByteArray.size_append,Qbj,Qbj]
    simp
   exact ⟨fun _=>fin 64 ht64,fun f=>tr b67 f (by omega)⟩)
end Go.Proofs.YtelimhjceiamcaaDoor.lg
set_option maxRecDepth 100000
namespace Go.Proofs.YtelimhjceiamcaaDoor.lg
open Go.Ev Go.RowKit Go.Wbp Go.Lgp
open Go.Proofs.YtelimhjceiamcaaDoor.lgn (mixed sf48 Qbt)
def lgS9:Shape:=⟨argT 0 [lgA],[eL 6 7]⟩
def lgB9:List Blk:=[eL 6 7,.cells lgC 39,.cells [.symi .u64 9,.symi .u64 10,.symi .i64 11,.symi .u8 12] 67]
def lgH9:Shape:=⟨[(0,lgA),(1,.ptr 1 0),(4,.s 13),(5,.ptr 2 0),(6,.i 8)],lgB9⟩
def lgM9:Shape:=⟨[(0,lgA),(1,.ptr 1 0),(4,.s 13),(5,.ptr 2 0)],lgB9⟩
def Qu4:List (Option IntKind):=lgK++[some .i64,some .u64,some .u64,some .i64,some .u8,none]
def Q4u:List (Option IntKind):=lgK++[none,some .u64,some .u64,some .i64,some .u8,none]
def lgE9:Shape:=⟨[(0,lgA),(2,.s 8),(3,.z 0)],[eL 6 7]⟩
def sfE9:SymF:=
 {f:=9,m:=8,ins:=lgK,args:=[lgA],pre:=[eL 6 7],pcs:=lgQ++[.fnb 448 lgF,.q .leq (.i 1) (.z 1000)],G:=[.sop (.fs 512) lgF],v:=.tuple [.s 8,.z 0],post:=[eL 6 7]}
def Qmt:List SDef:=[.q .leq (.z 0) (.i 1),
 .q .leq (.i 1) (.i 7),
 .q .leq (.i 7) (.z 1000000),
 .fnb 448 [.w 0,.s 6,.i 1,.i 2,.u 3,.u 4,.i 5],
 .q .shr (.w 0) (.o 24),
 .conv .u8 (.w 12),
 .q .shr (.w 0) (.o 16),
 .conv .u8 (.w 14),
 .q .shr (.w 0) (.o 8),
 .conv .u8 (.w 16),
 .conv .u8 (.w 0),
 .text [.c 13,.c 15,.c 17,.c 18],
 .text [.int .u8 80,.int .u8 76,.int .u8 1,.c 13,.c 15,.c 17,.c 18]]
def Q3z:LT:=Go.Wbp.fT 8 Qmt (.n (.n (.n (.n .e 332 18 .e) 410660 16 (.n .e 810940 14 .e)) 1211220 12 (.n (.n .e 162262213 13 .e) 276146667 10 .e)) 320878263 11 (.n (.n (.n .e 322857727 19 .e) 343383805 8 (.n .e 357022124 9 .e)) 368262831 15 (.n (.n .e 574263449 17 .e) 750062434 20 .e)))
def Qbgz:Sw:=.x 8 (.x 9 (.x 10 (.x 11 (.run (.leaf .normal lgH9 [(0,0),(1,0),(3,0)] [(0,.w 0),(1,.i 1),(2,.i 2),(3,.u 3),(4,.u 4),(5,.i 5),(13,.s 20),(8,.z 0),(6,.s 6),(7,.i 7),(0,.w 0),(1,.i 1),(2,.i 2),(3,.u 3),(4,.u 4),(5,.i 5),(9,.o 0),(10,.o 0),(11,.z 0),(12,.int .u8 0)] [])))))
def Qbgy:KdT:=kdN 0x3343434000010122114 5 1 0
noncomputable def Q30:Ing:={m:=8,ins:=lgK,G:=Qmt,T:=Q3z,tab:=Qa,lsts:=Qs,kb:=21,kt:=Qbgy}
noncomputable def Qu0:Ing:={Q30 with mh:=Qbr (kdX Q30) [sf22]}
theorem Q31:okLT 8 Qmt Q3z=true:=by kernel_rfl
theorem Qbg0 (F:List Fact):Hooks Tryd.prog (cxOf Qu0 F):=
  Qcx (l:=[sf22]) rfl rfl rfl rfl rfl Q31 rfl rfl rfl ⟨c22,trivial⟩ F
theorem Qbg1:SegOk Tryd.prog Qa 97 ((Qe (Qc Tryd.f9)).take 6) lgS9 Qu0 Qbgz:=
  ⟨Q31,by kernel_rfl,Qbg0,rfl,by kernel_rfl,by kernel_rfl,rfl,rfl,fun _=>trivial,by kernel_rfl⟩
def Qmu:List SDef:=[.q .lss (.i 8) (.i 1),
 .q .lss (.i 8) (.i 7),
 .sop (.cell [.some .u64,.some .u64,.some .i64,.some .u8] 0) [.s 6,.i 8],
 .sop (.cell [.some .u64,.some .u64,.some .i64,.some .u8] 1) [.s 6,.i 8],
 .sop (.cell [.some .u64,.some .u64,.some .i64,.some .u8] 2) [.s 6,.i 8],
 .sop (.cell [.some .u64,.some .u64,.some .i64,.some .u8] 3) [.s 6,.i 8],
 .conv .u8 (.i 18),
 .text [.c 20],
 .sop .cat [.s 13,.s 21],
 .q .sub (.u 16) (.u 9),
 .sop (.fs 192) [.u 23],
 .sop .cat [.s 22,.s 24],
 .q .sub (.u 17) (.u 10),
 .sop (.fs 192) [.u 26],
 .sop .cat [.s 25,.s 27],
 .text [.c 19],
 .sop .cat [.s 28,.s 29],
 .sop .len [.s 30],
 .q .leq (.i 31) (.z 1000000),
 .q .leq (.z 0) (.i 8),
 .sop .len [.s 22],
 .q .leq (.i 34) (.z 9223372036854775807),
 .sop .len [.s 25],
 .q .leq (.i 36) (.z 9223372036854775807),
 .sop .len [.s 28],
 .q .leq (.i 38) (.z 9223372036854775807),
 .q .leq (.i 31) (.z 9223372036854775807),
 .fn 384 .u8 [.s 30],
 .text [.c 41],
 .sop .cat [.s 30,.s 42],
 .sop .len [.s 43],
 .q .leq (.i 44) (.z 9223372036854775807),
 .q .add (.i 8) (.z 1)]
def Q32:LT:=Go.Wbp.fT 14 Qmu (.n (.n (.n (.n (.n (.n .e 47243474 27 .e) 77644597 14 .e) 78140826 28 (.n .e 151675047 25 .e)) 152608924 45 (.n (.n .e 187891585 43 .e) 196124191 30 (.n .e 216347721 35 .e))) 265527944 29 (.n (.n (.n .e 296914021 22 .e) 381212790 38 (.n .e 392528325 21 .e)) 411250080 23 (.n (.n .e 418348327 37 .e) 452917543 34 (.n .e 542408004 16 .e)))) 542408006 17 (.n (.n (.n (.n (.n .e 542408008 18 .e) 542408010 19 .e) 552670285 32 (.n .e 599375197 33 .e)) 619983798 24 (.n (.n .e 620348933 39 .e) 708941990 41 (.n .e 715225148 31 .e))) 738821821 44 (.n (.n (.n .e 780264067 20 .e) 808062776 46 (.n .e 855603961 26 .e)) 912052672 42 (.n (.n .e 953936080 36 .e) 987088639 40 (.n .e 1064024238 15 .e)))))
def Qbg3:Sw:=.n 14 (.x 15 (.x 32 (.x 33 (.x 35 (.x 37 (.x 39 (.x 40 (.x 45 (.run (.leaf .normal lgH9 [(0,0),(1,0),(2,0)] [(0,.w 0),(1,.i 1),(2,.i 2),(3,.u 3),(4,.u 4),(5,.i 5),(13,.s 43),(8,.i 46),(6,.s 6),(7,.i 7),(0,.w 0),(1,.i 1),(2,.i 2),(3,.u 3),(4,.u 4),(5,.i 5),(9,.u 16),(10,.u 17),(11,.i 18),(12,.c 19)] [])))))))))) (.run (.leaf (.exit 0) lgM9 [(0,0),(1,0),(2,0)] [(0,.w 0),(1,.i 1),(2,.i 2),(3,.u 3),(4,.u 4),(5,.i 5),(13,.s 13),(6,.s 6),(7,.i 7),(0,.w 0),(1,.i 1),(2,.i 2),(3,.u 3),(4,.u 4),(5,.i 5),(9,.u 9),(10,.u 10),(11,.i 11),(12,.c 12)] []))
def Qbg2:KdT:=kdN 0x10000300000000000000200200331220003122110122114 6 1 0
noncomputable def Q33:Ing:={m:=14,ins:=Qu4,G:=Qmu,T:=Q32,tab:=Qa,lsts:=Qs,kb:=47,kt:=Qbg2}
noncomputable def Qqc:Ing:={Q33 with mh:=Qbr (kdX Q33) [sf24,sf11]}
theorem Q34:okLT 14 Qmu Q32=true:=by kernel_rfl
theorem Qbg4 (F:List Fact):Hooks Tryd.prog (cxOf Qqc F):=
  Qcx (l:=[sf24,sf11]) rfl rfl rfl rfl rfl Q34 rfl rfl rfl ⟨c24,c11,trivial⟩ F
theorem Qbg5:SegOk Tryd.prog Qa 97 ([Qbs (Qc Tryd.f9)]) lgH9 Qqc Qbg3:=
  ⟨Q34,by kernel_rfl,Qbg4,rfl,by kernel_rfl,by kernel_rfl,rfl,rfl,fun _=>trivial,by kernel_rfl⟩
def Qmv:List SDef:=[.sop .cat [.s 13,.str ⟨#[255]⟩],
 .conv .u64 (.i 2),
 .sop (.fs 192) [.u 15],
 .sop .cat [.s 14,.s 16],
 .q .sub (.u 3) (.u 9),
 .sop (.fs 192) [.u 18],
 .sop .cat [.s 17,.s 19],
 .q .sub (.u 4) (.u 10),
 .sop (.fs 192) [.u 21],
 .sop .cat [.s 20,.s 22],
 .conv .u8 (.i 5),
 .text [.c 24],
 .sop .cat [.s 23,.s 25],
 .sop .len [.s 26],
 .q .leq (.i 27) (.z 1000000),
 .sop .len [.s 14],
 .q .leq (.i 29) (.z 9223372036854775807),
 .sop .len [.s 17],
 .q .leq (.i 31) (.z 9223372036854775807),
 .sop .len [.s 20],
 .q .leq (.i 33) (.z 9223372036854775807),
 .sop .len [.s 23],
 .q .leq (.i 35) (.z 9223372036854775807),
 .q .leq (.i 27) (.z 9223372036854775807),
 .fn 384 .u8 [.s 26],
 .text [.c 38],
 .sop .cat [.s 26,.s 39],
 .sop .len [.s 40],
 .q .leq (.i 41) (.z 9223372036854775807)]
def Q35:LT:=Go.Wbp.fT 14 Qmv (.n (.n (.n (.n (.n .e 23857435 14 .e) 47200432 27 (.n .e 94419627 40 .e)) 115347418 34 (.n (.n .e 118905185 33 .e) 127163640 26 (.n .e 148669073 28 .e))) 171987968 18 (.n (.n (.n .e 184922602 38 .e) 190609938 29 (.n .e 200697861 23 .e)) 206000950 15 (.n (.n .e 237803284 41 .e) 274232082 20 .e))) 285982796 22 (.n (.n (.n (.n .e 317348024 36 .e) 347766303 17 (.n .e 357721617 16 .e)) 515001877 24 (.n (.n .e 531051529 39 .e) 583087427 37 (.n .e 616341849 21 .e))) 619923722 35 (.n (.n (.n .e 691628475 31 .e) 785088033 30 (.n .e 858723120 19 .e)) 900529849 25 (.n (.n .e 923349842 42 .e) 987088639 32 .e))))
def Qbg7:Sw:=.x 28 (.x 30 (.x 32 (.x 34 (.x 36 (.x 37 (.x 42 (.run (.leaf .ret lgE9 [(0,0)] [(0,.w 0),(1,.i 1),(2,.i 2),(3,.u 3),(4,.u 4),(5,.i 5),(8,.s 40),(6,.s 6),(7,.i 7)] []))))))))
def Qbg6:KdT:=kdN 0x300000000000003002002002003122010122114 6 1 0
noncomputable def Q37:Ing:={m:=14,ins:=Q4u,G:=Qmv,T:=Q35,tab:=Qa,lsts:=Qs,kb:=43,kt:=Qbg6}
noncomputable def Q36:Ing:={Q37 with mh:=Qbr (kdX Q37) [sf24,sf11]}
theorem Q38:okLT 14 Qmv Q35=true:=by kernel_rfl
theorem Qbg8 (F:List Fact):Hooks Tryd.prog (cxOf Q36 F):=
  Qcx (l:=[sf24,sf11]) rfl rfl rfl rfl rfl Q38 rfl rfl rfl ⟨c24,c11,trivial⟩ F
theorem Qbg9:SegOk Tryd.prog Qa 97 ((Qe (Qc Tryd.f9)).drop 7) lgM9 Q36 Qbg7:=
  ⟨Q38,by kernel_rfl,Qbg8,rfl,by kernel_rfl,by kernel_rfl,rfl,rfl,fun _=>trivial,by kernel_rfl⟩
structure M9 (g:Sig) (C:ByteArray) (n N i:Nat) (V:Sig):Prop where
 s:V.s 6=C
 n0:V.i 1=n
 nN:V.i 7=N
 v0:V.i 0=g.i 0
 v2:V.i 2=g.i 2
 v3:V.i 3=g.i 3
 v4:V.i 4=g.i 4
 v5:V.i 5=g.i 5
 r:V.i 9=(Qj zeE C i).r
 b:V.i 10=(Qj zeE C i).b
 k:V.i 11=(Qj zeE C i).k
 v:V.i 12=(Qj zeE C i).v
 c:V.s 13=bs (encI (g.i 0) C i)
 le:n<=N
 hi:i<=n
 sz:N<=1000000
 s1:n<=1000
 xe:V.ext=g.ext
theorem M9.agree {g:Sig} {C:ByteArray} {n N i:Nat} {V U:Sig} (ag:Agree 14 V U) (h:M9 g C n N i V):M9 g C n N i U:=by
  cases h
  constructor<;>first|assumption|(simp (disch:=decide) only [ag.iv,ag.bv,ag.sv,ag.xv];assumption)
structure J9 (g:Sig) (C:ByteArray) (n N i:Nat) (V:Sig):Prop where
 m:M9 g C n N i V
 i0:V.i 8=i
theorem J9.agree {g:Sig} {C:ByteArray} {n N i:Nat} {V U:Sig} (ag:Agree 14 V U) (h:J9 g C n N i V):J9 g C n N i U:=
 ⟨h.m.agree ag,by rw [<-(ag.val 8 (by decide)).1];exact h.i0⟩
def L9:Asg:=[(8,.s 8),(6,.s 6),(7,.i 7)]
abbrev Z9 (g:Inj) (w:World):Exit->Act->World->Prop:=bodyPost Tryd.prog Tryd.f9 (MemR Qa sfE9 g w)
theorem cat1 {C D E:ByteArray} {P:List Int} {x b:Int} (hc:C=bs P) (hd:D=bs [b]) (hb:b=x) (he:E=C++D):E=bs (P++[x]):=by
 rw [he,hc,hd,Qdq,hb]
theorem catN {U:Sig} (ht:U.tab=Qa) {C D E:ByteArray} {P:List Int} {x y:Int} (hc:C=bs P) (hd:D=decS (U.tab 192 [y])) (hy:y=x%18446744073709551616) (he:E=C++D):E=bs (P++pbL x):=by
 rw [ht,lg_pb,hy,Qwd] at hd
 rw [he,hc,hd,Qdq]
set_option maxHeartbeats 1000000 in
theorem cE9:SymFOk Tryd.prog Qa (fun _=>True) sfE9:=
 Qb2 Tryd.func9 rfl (n:=97) rfl (by decide) (by decide) rfl rfl (by kernel_rfl) (fun g w hg _ hE hI hpc hH=>by
  have q0:=hpc (.bin .leq (.int .i64 0) (.symi .i64 1)) (by simp [sfE9,lgQ])
  have q1:=hpc (.bin .leq (.symi .i64 1) (.symi .i64 7)) (by simp [sfE9,lgQ])
  have q2:=hpc (.bin .leq (.symi .i64 7) (.int .i64 1000000)) (by simp [sfE9,lgQ])
  have q3:=hpc (.bin .leq (.symi .i64 1) (.int .i64 1000)) (by simp [sfE9,lgQ])
  have q4:=hpc (.fnb 448 lgF) (by simp [sfE9,lgQ])
  simp only [Qb,den,binS,intA,if_true,Option.some.injEq,AVal.bool.injEq,decide_eq_true_eq] at q0 q1 q2 q3
  obtain ⟨n,hgn⟩: ∃n:Nat,g.sig.i 1=n:=⟨(g.sig.i 1).toNat,by omega⟩
  obtain ⟨N,hgN⟩: ∃n:Nat,g.sig.i 7=n:=⟨(g.sig.i 7).toNat,by omega⟩
  have g8:g.sig.s 8=bs (encG (lgG g.sig n)):=by
   have h:g.sig.s 8=decS (g.sig.tab 512 [g.sig.i 0,encB (g.sig.s 6),g.sig.i 1,g.sig.i 2,g.sig.i 3,g.sig.i 4,g.sig.i 5]):=eqFs (hE.at 0 _ rfl rfl)
   rw [h,hg,hgn,Qm3]
   rfl
  have hlast:Qg Tryd.prog Qa 97 (Qw g w sfE9.pre.length) (Z9 g w) ((Qe (Qc Tryd.f9)).drop 7) lgM9 14 Q4u (M9 g.sig (g.sig.s 6) n N n):=by
   refine Qg.last mixed Qbg9 ⟨rfl,rfl⟩ (fun V U ag h=>h.agree ag) (fun U h=>Qq) (fun U e ht hi hj=> ?_) (pin0 (by kernel_rfl))
   refine Qm ?_
   have hs1:=hj.s1
   have hlen:=Qiy (g.sig.i 0) (g.sig.s 6) n
   have F:Facs U 14 Qmv:=facs e
   dsimp only [Qmv,Facs,fac1,facI,facS,facB,oI,oK,oB,oS,nmL,nm,Nat.reduceAdd] at F
   obtain ⟨s14,i15,s16,s17,i18,s19,s20,i21,s22,s23,i24,-,s26,i27,b28,i29,b30,i31,b32,i33,b34,i35,b36,b37,i38,-,s40,i41,b42,-⟩:=F
   have s25:U.s 25=bs [U.i 24]:=p9.eqText (e.at 11 _ rfl rfl)
   have s39:U.s 39=bs [U.i 38]:=p9.eqText (e.at 25 _ rfl rfl)
   have tr: ∀{P:Prop} {b:Bool} [Decidable P],b=decide P->b=false->P->False:=fun hb hf hp=>by rw [hb,decide_eq_false_iff_not] at hf;exact hf hp
   have c1:=cat1 hj.c (rfl:bs [255]=bs [255]) rfl s14
   have p1:=Qb9 (g.sig.i 2)
   have p2:=Qb9 (g.sig.i 3-(Qj zeE (g.sig.s 6) n).r)
   have p3:=Qb9 (g.sig.i 4-(Qj zeE (g.sig.s 6) n).b)
   rw [Qf,hj.v2] at i15
   rw [Qf,hj.v3,hj.r] at i18
   rw [Qf,hj.v4,hj.b] at i21
   rw [wr_u8,hj.v5] at i24
   have c2:=catN ht c1 s16 i15 s17
   have c3:=catN ht c2 s19 i18 s20
   have c4:=catN ht c3 s22 i21 s23
   have c5:=cat1 c4 s25 i24 s26
   have z14:(U.s 14).size<=20000:=by rw [c1,Qbj,List.length_append];simp only [List.length_cons,List.length_nil];omega
   have z17:(U.s 17).size<=20008:=by rw [s17,s16,ht,lg_pb,ByteArray.size_append,Qbj];have:=Qb9 (U.i 15);omega
   have z20:(U.s 20).size<=20016:=by rw [s20,s19,ht,lg_pb,ByteArray.size_append,Qbj];have:=Qb9 (U.i 18);omega
   have z23:(U.s 23).size<=20024:=by rw [s23,s22,ht,lg_pb,ByteArray.size_append,Qbj];have:=Qb9 (U.i 21);omega
   have z26:(U.s 26).size<=20025:=by rw [s26,s25,ByteArray.size_append,Qbj];simp only [List.length_cons,List.length_nil];omega
   have z40:(U.s 40).size<=20026:=by rw [s40,s39,ByteArray.size_append,Qbj];simp only [List.length_cons,List.length_nil];omega
   have eP:encI (g.sig.i 0) (g.sig.s 6) n++[255]++pbL (g.sig.i 2)++pbL (g.sig.i 3-(Qj zeE (g.sig.s 6) n).r)++pbL (g.sig.i 4-(Qj zeE (g.sig.s 6) n).b)++[g.sig.i 5%256]=encI (g.sig.i 0) (g.sig.s 6) n++finB (Qj zeE (g.sig.s 6) n) (lgG g.sig n):=by
    simp only [finB,lgG,List.append_assoc]
   rw [eP] at c5
   have hby:=(Qox (g.sig.i 0) (g.sig.s 6) n).app (Qz5 (Qj zeE (g.sig.s 6) n) (lgG g.sig n))
   have hsum:=Qdz (encI (g.sig.i 0) (g.sig.s 6) n++finB (Qj zeE (g.sig.s 6) n) (lgG g.sig n))
   rw [ht,c5,Qe8,Qnz hby,wr_u8] at i38
   have c6:=cat1 c5 s39 (show U.i 38=sumL (encI (g.sig.i 0) (g.sig.s 6) n++finB (Qj zeE (g.sig.s 6) n) (lgG g.sig n)) by omega) s40
   have fin:EndZ Qa 97 (Qw g w sfE9.pre.length) (Z9 g w) .ret lgE9 (asgS U ([(0,.symi .u32 0),(1,.symi .i64 1),(2,.symi .i64 2),(3,.symi .u64 3),(4,.symi .u64 4),(5,.symi .i64 5),(8,.syms 40),(6,.syms 6),(7,.symi .i64 7)]++[])):=by
    refine Qbw (M:=9) (l:=L9) (vs:=[.syms 8,.int .i64 0]) (by kernel_rfl) rfl rfl hH hg rfl rfl rfl (by kernel_rfl) (by kernel_rfl) ⟨?_,congrArg AVal.str hj.s,congrArg (AVal.int .i64) (hj.nN.trans hgN.symm),trivial⟩ (by decide) (extS hj.xe) (.inl rfl)
    show AVal.str (U.s 40)=AVal.str (g.sig.s 8)
    rw [c6,g8]
    show _=AVal.str (bs (encG ⟨g.sig.i 0,lstE (g.sig.s 6) n,g.sig.i 2,g.sig.i 3,g.sig.i 4,g.sig.i 5⟩))
    rw [Qzg]
    rfl
   exact ⟨fun f28=>⟨fun f30=>⟨fun f32=>⟨fun f34=>⟨fun f36=>⟨fun f37=>⟨fun f42=>fin,fun f=>tr b42 f (by omega)⟩,fun f=>tr b37 f (by omega)⟩,fun f=>tr b36 f (by omega)⟩,fun f=>tr b34 f (by omega)⟩,fun f=>tr b32 f (by omega)⟩,fun f=>tr b30 f (by omega)⟩,fun f=>tr b28 f (by omega)⟩
  rw [show Qe (Qc Tryd.f9)=(Qe (Qc Tryd.f9)).take 6++(.block (idOf (Qc Tryd.f9)) (.loop (Qbs (Qc Tryd.f9)))::(Qe (Qc Tryd.f9)).drop 7) from rfl]
  have hloop:Qg Tryd.prog Qa 97 (Qw g w sfE9.pre.length) (Z9 g w) (.block (idOf (Qc Tryd.f9)) (.loop (Qbs (Qc Tryd.f9)))::(Qe (Qc Tryd.f9)).drop 7) lgH9 14 Qu4 (fun V=> ∃i,J9 g.sig (g.sig.s 6) n N i V):=by
   refine Qg.loop (μ:=fun V=>(V.i 1-V.i 8).toNat) mixed Qbg5 ⟨rfl,rfl⟩ (fun V U ag h=>let ⟨i,hi⟩:=h;⟨i,hi.agree ag⟩) (fun V U ag=>by rw [(ag.val 1 (by decide)).1,(ag.val 8 (by decide)).1]) (fun U h=>Qq) hlast (fun U e ht hi hj=> ?_) (pin0 (by kernel_rfl))
   obtain ⟨i,⟨hj,hi0⟩⟩:=hj
   refine Qm ?_
   have hn0:=hj.n0
   have hnN:=hj.nN
   have hle:=hj.le
   have hhi:=hj.hi
   have hsz:=hj.sz
   have hs1:=hj.s1
   have hlen:=Qiy (g.sig.i 0) (g.sig.s 6) i
   have F:Facs U 14 Qmu:=facs e
   dsimp only [Qmu,Facs,fac1,facI,facS,facB,oI,oK,oB,oS,nmL,nm,Nat.reduceAdd] at F
   obtain ⟨b14,b15,-,-,-,-,i20,-,s22,i23,s24,s25,i26,s27,s28,-,s30,i31,b32,b33,i34,b35,i36,b37,i38,b39,b40,i41,-,s43,i44,b45,i46,-⟩:=F
   have i16:U.i 16=(rowE (U.s 6) (U.i 8:Int).toNat).r:=Qbk (e.at 2 _ rfl rfl) rfl
   have i17:U.i 17=(rowE (U.s 6) (U.i 8:Int).toNat).b:=Qbk (e.at 3 _ rfl rfl) rfl
   have i18:U.i 18=(rowE (U.s 6) (U.i 8:Int).toNat).k:=Qbk (e.at 4 _ rfl rfl) rfl
   have i19:U.i 19=(rowE (U.s 6) (U.i 8:Int).toNat).v:=Qbk (e.at 5 _ rfl rfl) rfl
   have s21:U.s 21=bs [U.i 20]:=p9.eqText (e.at 7 _ rfl rfl)
   have s29:U.s 29=bs [U.i 19]:=p9.eqText (e.at 15 _ rfl rfl)
   have s42:U.s 42=bs [U.i 41]:=p9.eqText (e.at 28 _ rfl rfl)
   have tr: ∀{P:Prop} {b:Bool} [Decidable P],b=decide P->b=false->P->False:=fun hb hf hp=>by rw [hb,decide_eq_false_iff_not] at hf;exact hf hp
   refine ⟨fun f14=> ?_,fun f14=> ?_⟩
   ·rw [b14,decide_eq_true_eq] at f14
    have hlt:i<n:=by omega
    rw [hj.s,hi0,Int.toNat_natCast] at i16 i17 i18 i19
    rw [wr_u8,i18] at i20
    rw [Qf,i16,hj.r] at i23
    rw [Qf,i17,hj.b] at i26
    have c1:=cat1 hj.c s21 i20 s22
    have c2:=catN ht c1 s24 i23 s25
    have c3:=catN ht c2 s27 i26 s28
    have hv:=(Q7b (g.sig.s 6) i).2.2.2
    rw [wr_u8] at hv
    have c4:=cat1 c3 s29 (show U.i 19=(rowE (g.sig.s 6) i).v%256 by rw [i19];omega) s30
    have z22:(U.s 22).size<=20000:=by rw [c1,Qbj,List.length_append];simp only [List.length_cons,List.length_nil];omega
    have z25:(U.s 25).size<=20008:=by rw [s25,s24,ht,lg_pb,ByteArray.size_append,Qbj];have:=Qb9 (U.i 23);omega
    have z28:(U.s 28).size<=20016:=by rw [s28,s27,ht,lg_pb,ByteArray.size_append,Qbj];have:=Qb9 (U.i 26);omega
    have z30:(U.s 30).size<=20017:=by rw [s30,s29,ByteArray.size_append,Qbj];simp only [List.length_cons,List.length_nil];omega
    have z43:(U.s 43).size<=20018:=by rw [s43,s42,ByteArray.size_append,Qbj];simp only [List.length_cons,List.length_nil];omega
    have eP:encI (g.sig.i 0) (g.sig.s 6) i++[(rowE (g.sig.s 6) i).k%256]++pbL ((rowE (g.sig.s 6) i).r-(Qj zeE (g.sig.s 6) i).r)++pbL ((rowE (g.sig.s 6) i).b-(Qj zeE (g.sig.s 6) i).b)++[(rowE (g.sig.s 6) i).v%256]=encI (g.sig.i 0) (g.sig.s 6) i++entB (Qj zeE (g.sig.s 6) i) (rowE (g.sig.s 6) i):=by
     simp only [entB,List.append_assoc]
    rw [eP] at c4
    have hby:=(Qox (g.sig.i 0) (g.sig.s 6) i).app (Qtk (Qj zeE (g.sig.s 6) i) (rowE (g.sig.s 6) i))
    have hsum:=Qdz (encI (g.sig.i 0) (g.sig.s 6) i++entB (Qj zeE (g.sig.s 6) i) (rowE (g.sig.s 6) i))
    rw [ht,c4,Qe8,Qnz hby,wr_u8] at i41
    have c5:=cat1 c4 s42 (show U.i 41=sumL (encI (g.sig.i 0) (g.sig.s 6) i++entB (Qj zeE (g.sig.s 6) i) (rowE (g.sig.s 6) i)) by omega) s43
    rw [<-Qoy] at c5
    rw [Qh] at i46
    have fin:(SEx.normal=.normal/\lgH9=lgH9/\Qbb (asgS U ([(0,.symi .u32 0),(1,.symi .i64 1),(2,.symi .i64 2),(3,.symi .u64 3),(4,.symi .u64 4),(5,.symi .i64 5),(13,.syms 43),(8,.symi .i64 46),(6,.syms 6),(7,.symi .i64 7),(0,.symi .u32 0),(1,.symi .i64 1),(2,.symi .i64 2),(3,.symi .u64 3),(4,.symi .u64 4),(5,.symi .i64 5),(9,.symi .u64 16),(10,.symi .u64 17),(11,.symi .i64 18),(12,.symi .u8 19)]++[])) 14 Qu4/\(∃i,J9 g.sig (g.sig.s 6) n N i (asgS U ([(0,.symi .u32 0),(1,.symi .i64 1),(2,.symi .i64 2),(3,.symi .u64 3),(4,.symi .u64 4),(5,.symi .i64 5),(13,.syms 43),(8,.symi .i64 46),(6,.syms 6),(7,.symi .i64 7),(0,.symi .u32 0),(1,.symi .i64 1),(2,.symi .i64 2),(3,.symi .u64 3),(4,.symi .u64 4),(5,.symi .i64 5),(9,.symi .u64 16),(10,.symi .u64 17),(11,.symi .i64 18),(12,.symi .u8 19)]++[])))/\(asgS U ([(0,.symi .u32 0),(1,.symi .i64 1),(2,.symi .i64 2),(3,.symi .u64 3),(4,.symi .u64 4),(5,.symi .i64 5),(13,.syms 43),(8,.symi .i64 46),(6,.syms 6),(7,.symi .i64 7),(0,.symi .u32 0),(1,.symi .i64 1),(2,.symi .i64 2),(3,.symi .u64 3),(4,.symi .u64 4),(5,.symi .i64 5),(9,.symi .u64 16),(10,.symi .u64 17),(11,.symi .i64 18),(12,.symi .u8 19)]++[])).tab=Qa/\((asgS U ([(0,.symi .u32 0),(1,.symi .i64 1),(2,.symi .i64 2),(3,.symi .u64 3),(4,.symi .u64 4),(5,.symi .i64 5),(13,.syms 43),(8,.symi .i64 46),(6,.syms 6),(7,.symi .i64 7),(0,.symi .u32 0),(1,.symi .i64 1),(2,.symi .i64 2),(3,.symi .u64 3),(4,.symi .u64 4),(5,.symi .i64 5),(9,.symi .u64 16),(10,.symi .u64 17),(11,.symi .i64 18),(12,.symi .u8 19)]++[])).i 1-(asgS U ([(0,.symi .u32 0),(1,.symi .i64 1),(2,.symi .i64 2),(3,.symi .u64 3),(4,.symi .u64 4),(5,.symi .i64 5),(13,.syms 43),(8,.symi .i64 46),(6,.syms 6),(7,.symi .i64 7),(0,.symi .u32 0),(1,.symi .i64 1),(2,.symi .i64 2),(3,.symi .u64 3),(4,.symi .u64 4),(5,.symi .i64 5),(9,.symi .u64 16),(10,.symi .u64 17),(11,.symi .i64 18),(12,.symi .u8 19)]++[])).i 8).toNat<(U.i 1-U.i 8).toNat):=by
     refine ⟨rfl,rfl,insK (X:=Qqc) e hi,⟨i+1,⟨⟨hj.s,hj.n0,hj.nN,hj.v0,hj.v2,hj.v3,hj.v4,hj.v5,i16,i17,i18,i19,c5,hle,hlt,hsz,hs1,extS hj.xe⟩,?_⟩⟩,tabS ht,?_⟩
     ·show U.i 46=_
      omega
     ·show (U.i 1-U.i 46).toNat<(U.i 1-U.i 8).toNat
      omega
    exact ⟨fun f15=>⟨fun f32=>⟨fun f33=>⟨fun f35=>⟨fun f37=>⟨fun f39=>⟨fun f40=>⟨fun f45=> .inl fin,fun f=>tr b45 f (by omega)⟩,fun f=>tr b40 f (by omega)⟩,fun f=>tr b39 f (by omega)⟩,fun f=>tr b37 f (by omega)⟩,fun f=>tr b35 f (by omega)⟩,fun f=>tr b33 f (by omega)⟩,fun f=>tr b32 f (by omega)⟩,fun f=>tr b15 f (by omega)⟩
   ·rw [b14,decide_eq_false_iff_not] at f14
    obtain rfl:i=n:=by omega
    exact .inr (.inl ⟨rfl,rfl,insK (X:=Qqc) e hi,⟨hj.s,hj.n0,hj.nN,hj.v0,hj.v2,hj.v3,hj.v4,hj.v5,hj.r,hj.b,hj.k,hj.v,hj.c,hle,hhi,hsz,hs1,extS hj.xe⟩,tabS ht⟩)
  refine Qg.seg mixed Qbg1 ⟨rfl,rfl⟩ (fun V U (ag:Agree 8 V U) (h:Agree 8 g.sig V)=>h.trans' ag) (fun U h=>Qq) hloop (fun U e ht hi ag=> ?_) (pin0 (by kernel_rfl))
  refine Qm ?_
  have a:=fun i h=>(ag.val i h).1.symm
  have a0:=a 0 (by decide)
  have a1:=a 1 (by decide)
  have a2:=a 2 (by decide)
  have a3:=a 3 (by decide)
  have a4:=a 4 (by decide)
  have a5:=a 5 (by decide)
  have a7:=a 7 (by decide)
  have a6:U.s 6=g.sig.s 6:=(ag.val 6 (by decide)).2.2.symm
  have w0:=hi 0 .u32 (by decide) rfl
  rw [Qef] at w0
  have F:Facs U 8 Qmt:=facs e
  dsimp only [Qmt,Facs,fac1,facI,facS,facB,oI,oK,oB,oS,nmL,nm,Nat.reduceAdd] at F
  obtain ⟨b8,b9,b10,b11,-,i13,-,i15,-,i17,i18,-⟩:=F
  have i12:U.i 12=U.i 0/16777216:=(eqI (x:=(U.i 0:Int).fdiv (2^(min (24:Int).toNat IntKind.u32.bits))) (e.at 4 _ rfl rfl) rfl).trans (by rw [show (2:Int)^(min (24:Int).toNat IntKind.u32.bits)=16777216 by decide];exact Qbd (by decide))
  have i14:U.i 14=U.i 0/65536:=(eqI (x:=(U.i 0:Int).fdiv (2^(min (16:Int).toNat IntKind.u32.bits))) (e.at 6 _ rfl rfl) rfl).trans (by rw [show (2:Int)^(min (16:Int).toNat IntKind.u32.bits)=65536 by decide];exact Qbd (by decide))
  have i16:U.i 16=U.i 0/256:=(eqI (x:=(U.i 0:Int).fdiv (2^(min (8:Int).toNat IntKind.u32.bits))) (e.at 8 _ rfl rfl) rfl).trans (by rw [show (2:Int)^(min (8:Int).toNat IntKind.u32.bits)=256 by decide];exact Qbd (by decide))
  have s19:U.s 19=bs [U.i 13,U.i 15,U.i 17,U.i 18]:=p9.eqText (e.at 11 _ rfl rfl)
  have s20:U.s 20=bs [80,76,1,U.i 13,U.i 15,U.i 17,U.i 18]:=p9.eqText (e.at 12 _ rfl rfl)
  have tr: ∀{P:Prop} {b:Bool} [Decidable P],b=decide P->b=false->P->False:=fun hb hf hp=>by rw [hb,decide_eq_false_iff_not] at hf;exact hf hp
  rw [wr_u8] at i13 i15 i17 i18
  have hq:(!(g.sig.tab 448 [g.sig.i 0,encB (g.sig.s 6),g.sig.i 1,g.sig.i 2,g.sig.i 3,g.sig.i 4,g.sig.i 5]==0))=true:=by
   simp only [lgF,Qb,List.map,den,numS,Option.some.injEq,AVal.bool.injEq] at q4
   exact q4
  have f11:U.b 11=true:=by rw [b11,a0,a1,a2,a3,a4,a5,a6,ht,<-hg];exact hq
  have hb:U.s 20=bs (encI (g.sig.i 0) (g.sig.s 6) 0):=by
   rw [s20]
   show _=bs (head (g.sig.i 0))
   unfold head
   rw [show U.i 13=g.sig.i 0/16777216%256 by omega,show U.i 15=g.sig.i 0/65536%256 by omega,show U.i 17=g.sig.i 0/256%256 by omega,show U.i 18=g.sig.i 0%256 by omega]
  exact ⟨fun f8=>⟨fun f9=>⟨fun f10=>⟨fun f11=> .inl ⟨rfl,rfl,insK (X:=Qu0) e hi,⟨0,⟨⟨a6,a1.trans hgn,a7.trans hgN,a0,a2,a3,a4,a5,rfl,rfl,rfl,rfl,hb,by omega,Nat.zero_le _,by omega,by omega,extS ag.ext.symm⟩,rfl⟩⟩,tabS ht⟩,fun f=>by rw [f11] at f;cases f⟩,fun f=>tr b10 f (by omega)⟩,fun f=>tr b9 f (by omega)⟩,fun f=>tr b8 f (by omega)⟩)
end Go.Proofs.YtelimhjceiamcaaDoor.lg
set_option maxRecDepth 100000
namespace Go.Proofs.YtelimhjceiamcaaDoor.lg
open Go.Ev Go.RowKit Go.Wbp Go.Lgp
open Go.Proofs.YtelimhjceiamcaaDoor.lgn (mixed sf48 Qbt)
def entD (d:Dr):List AVal:=[.int .u16 d.m,.int .u16 d.t,.int .u8 d.k,.int .u8 d.v]
def okD (d:Dr):Prop:=IntKind.u16.wrap d.m=d.m/\IntKind.u16.wrap d.t=d.t/\IntKind.u8.wrap d.k=d.k/\IntKind.u8.wrap d.v=d.v
def encD (d:Dr):ByteArray:=⟨(rowB cl4d (entD d)).toArray⟩
theorem okDs {d:Dr} (h:okD d):okCs (cx0 (fun _ _=>0)) cl4d (entD d)=true:=by
 obtain ⟨h1,h2,h3,h4⟩:=h
 simp [okCs,okC,cl4d,entD,h1,h2,h3,h4]
theorem Qba2 {d:Dr} (h:okD d):(encD d).data.toList.length=1*rsz cl4d:=by
 have:=Qrq (V:=sg0) (okDs h)
 rw [Nat.one_mul]
 exact this
theorem Qwv {d:Dr} (h:okD d) (S:ByteArray):rowD (encD d++S) 0=d:=by
 have key: ∀(j:Nat) (a:AVal),(entD d)[j]? =some a->Qp cl4d (encD d++S) 0 j=den sg0 a:=by
  intro j a hj
  have:=Qol (ng:=cx0 (fun _ _=>0)) (V:=sg0) (Qhm rfl) S.data.toList (okDs h) j a hj
  unfold Qp
  have e:(encD d++S).data.toList=rowB cl4d (entD d)++S.data.toList:=by simp [ByteArray.data_append,encD]
  rw [e,Nat.zero_mul,List.drop_zero]
  exact this
 have k0:=key 0 _ rfl
 have k1:=key 1 _ rfl
 have k2:=key 2 _ rfl
 have k3:=key 3 _ rfl
 simp only [den] at k0 k1 k2 k3
 simp only [rowD,k0,k1,k2,k3,iOf]
theorem Qbkc {d:Dr} (h:okD d) (S:ByteArray):rowD (encD d++S) 1=rowD S 0:=by
 simp only [rowD,Qwq (cl:=cl4d) (S:=encD d) (T:=S) (N:=1) (Qba2 h)]
 rfl
theorem dr1 {d:Dr} (hm:0<=d.m) (ht:0<=d.t) (hk:0<=d.k):Qd6 noE d=⟨d.m,min d.m d.t,d.k%3,d.v⟩:=by
 have h: ¬(d.m=0/\d.k%3<= -1):=by omega
 unfold Qd6 noE
 simp only [if_neg h,En.mk.injEq,and_true]
 refine ⟨by omega,?_⟩
 split<;>omega
theorem dr2 {d:Dr} (hm:0<=d.m) (ht:0<=d.t) (hk:0<=d.k):Qd6 ⟨d.m,min d.m d.t,d.k%3,d.v⟩ d=⟨if d.m=0 then 1 else d.m+d.m,min (if d.m=0 then 1 else d.m+d.m) (min d.m d.t+d.t),d.k%3,d.v⟩:=by
 unfold Qd6
 by_cases h:d.m=0
 ·simp only [h,true_and,Int.le_refl,if_true,En.mk.injEq,and_true]
  refine ⟨by omega,?_⟩
  split<;>omega
 ·simp only [h,false_and,if_false,En.mk.injEq,and_true,true_and]
  split<;>omega
theorem dra1 {d:Dr} (ok:okD d):draL (encD d) 1=[⟨d.m,min d.m d.t,d.k%3,d.v⟩]:=by
 have h:=ok
 obtain ⟨h1,h2,h3,h4⟩:=h
 rw [Qoa] at h1 h2
 rw [wr_u8] at h3 h4
 have e:rowD (encD d) 0=d:=by
  have:=Qwv ok .empty
  rwa [ByteArray.append_empty] at this
 show [Qd6 noE (rowD (encD d) 0)]=_
 rw [e,dr1 (by omega) (by omega) (by omega)]
theorem dra2 {d:Dr} (ok:okD d):draL (encD d++encD d) 2=[⟨d.m,min d.m d.t,d.k%3,d.v⟩,⟨if d.m=0 then 1 else d.m+d.m,min (if d.m=0 then 1 else d.m+d.m) (min d.m d.t+d.t),d.k%3,d.v⟩]:=by
 have h:=ok
 obtain ⟨h1,h2,h3,h4⟩:=h
 rw [Qoa] at h1 h2
 rw [wr_u8] at h3 h4
 have e:rowD (encD d) 0=d:=by
  have:=Qwv ok .empty
  rwa [ByteArray.append_empty] at this
 show [Qd6 noE (rowD (encD d++encD d) 0),Qd6 (Qd6 noE (rowD (encD d++encD d) 0)) (rowD (encD d++encD d) 1)]=_
 rw [Qwv ok,Qbkc ok,e,dr1 (by omega) (by omega) (by omega),dr2 (by omega) (by omega) (by omega)]
def lgD4:List AVal:=[.symi .u16 1,.symi .u16 2,.c 3,.c 4]
def Qqj:List (Option IntKind):=[some .u32,some .u16,some .u16,some .u8,some .u8]
def lgZD:List AVal:=[.int .u16 0,.int .u16 0,.int .u8 0,.int .u8 0]
def Qbht:Shape:=⟨argT 0 [.w 0,.slice 0 0 1 1 none,.agg lgZD],[.cells lgD4 33]⟩
def Qm0:List AVal:=[.w 0,.lsl 1 4 true (.z 0) (.i 7),.z 0,.u 8,.u 9,.z 0]
def Q4j:Shape:=⟨[(1,.slice 0 0 1 1 none),(6,.ptr 2 0)],[.cells lgD4 33,.lst (.s 6) (.i 7) cl4 61,.cells Qm0 26]⟩
def sf81:SymF:=
 {f:=8,m:=5,ins:=Qqj,args:=[.w 0,.slice 0 0 1 1 none,.agg lgZD],pre:=[.cells lgD4 33],pcs:=[],
  G:=[.sop (.row [some .u16,some .u16,some .u8,some .u8]) lgD4,.sop (.fs 640) [.s 5,.z 1],.fn 641 .i64 [.s 5,.z 1],.fn 642 .u64 [.s 5,.z 1,.int .u16 0,.int .u16 0],.fn 643 .u64 [.s 5,.z 1,.int .u16 0,.int .u16 0]],
  v:=.agg Qm0,post:=[.cells lgD4 33,.lst (.s 6) (.i 7) cl4 61,.cells Qm0 26]}
def Qbhu:Shape:=⟨argT 0 [.w 0,.slice 0 0 2 2 none,.agg lgD4],[.cells (lgD4++lgD4) 33]⟩
def Qm1:List AVal:=[.w 0,.lsl 1 4 true (.z 0) (.i 7),.i 9,.u 10,.u 11,.i 13]
def Q4k:Shape:=⟨[(1,.slice 0 0 2 2 none),(6,.ptr 2 0)],[.cells (lgD4++lgD4) 33,.lst (.s 6) (.i 7) cl4 61,.cells Qm1 26]⟩
def sf82:SymF:=
 {f:=8,m:=5,ins:=Qqj,args:=[.w 0,.slice 0 0 2 2 none,.agg lgD4],pre:=[.cells (lgD4++lgD4) 33],pcs:=[],
  G:=[.sop (.row [some .u16,some .u16,some .u8,some .u8,some .u16,some .u16,some .u8,some .u8]) (lgD4++lgD4),.sop (.fs 640) [.s 5,.z 2],.fn 641 .i64 [.s 5,.z 2],.conv .i64 (.symi .u16 1),.q .mul (.i 8) (.z 100),.fn 642 .u64 [.s 5,.z 2,.symi .u16 1,.symi .u16 2],.fn 643 .u64 [.s 5,.z 2,.symi .u16 1,.symi .u16 2],.conv .i64 (.c 3),.q .rem (.i 12) (.z 7)],
  v:=.agg Qm1,post:=[.cells (lgD4++lgD4) 33,.lst (.s 6) (.i 7) cl4 61,.cells Qm1 26]}
def Qmr:List SDef:=[.q .eql (.symi .u16 1) (.int .u16 0),
 .conv .u64 (.symi .u16 1),
 .q .add (.o 0) (.u 6),
 .q .rem (.c 3) (.int .u8 3),
 .conv .i64 (.c 8),
 .q .leq (.i 9) (.z (-1)),
 .q .gtr (.u 7) (.o 0),
 .sop (.row [.some .u64,.some .u64,.some .i64,.some .u8]) [.u 7,.o 0,.i 9,.c 4],
 .q .add (.u 7) (.o 0),
 .low [.u 13,.o 0],
 .conv .u64 (.symi .u16 2),
 .q .add (.o 0) (.u 15),
 .low [.u 7,.u 16],
 .sop (.row [.some .u64,.some .u64,.some .i64,.some .u8]) [.u 7,.u 17,.i 9,.c 4],
 .q .add (.u 17) (.o 0),
 .low [.u 13,.u 19]]
def Q3x:LT:=Go.Wbp.fT 5 Qmr (.n (.n (.n (.n (.n .e 101010697 5 .e) 103000641 6 .e) 134183241 17 (.n .e 148602140 18 .e)) 186157573 12 (.n (.n .e 206000950 15 .e) 303161359 8 (.n .e 317368840 14 .e))) 643273641 19 (.n (.n (.n .e 707012438 13 .e) 707012543 11 (.n .e 824002804 9 .e)) 855366491 16 (.n (.n .e 909023149 10 .e) 986409770 7 (.n .e 1063538577 20 .e))))
def Qbgp:Sw:=.n 5 (.y 10 (.y 11 (.run (.leaf .ret Q4j [(0,0),(7,0),(2,0)] [(1,.symi .u16 1),(2,.symi .u16 2),(3,.c 3),(4,.c 4),(6,.s 12),(7,.z 1),(0,.w 0),(7,.z 1),(8,.u 13),(9,.u 14)] [])))) (.x 11 (.run (.leaf .ret Q4j [(0,0),(7,0),(2,0)] [(1,.symi .u16 1),(2,.symi .u16 2),(3,.c 3),(4,.c 4),(6,.s 18),(7,.z 1),(0,.w 0),(7,.z 1),(8,.u 13),(9,.u 20)] [])))
def Qbgo:KdT:=kdN 0x220222220001322033554 5 1 0
noncomputable def Qji:Ing:={m:=5,ins:=Qqj,G:=Qmr,T:=Q3x,tab:=Qa,lsts:=Qs,kb:=21,kt:=Qbgo}
theorem Qbgr:okLT 5 Qmr Q3x=true:=by kernel_rfl
theorem Qbgq (F:List Fact):Hooks Tryd.prog (cxOf Qji F) where
 val:=fun f args v h=>by simp only [Qji,cxOf,Qfb,reduceCtorEq] at h
 mem:=fun f args hp v hp' h=>by simp only [Qji,cxOf,noMh,reduceCtorEq] at h
 ovl:=fun f k h=>by simp only [Qji,cxOf,reduceCtorEq] at h
 atm:=fun k b h=>by simp only [Qji,cxOf,List.not_mem_nil] at h
theorem Qbgs:SegOk Tryd.prog Qa 116 (Qe (Qc Tryd.f8)) Qbht Qji Qbgp:=
  ⟨Qbgr,by kernel_rfl,Qbgq,rfl,by kernel_rfl,by kernel_rfl,rfl,rfl,fun _=>trivial,by kernel_rfl⟩
def Qms:List SDef:=[.q .eql (.symi .u16 1) (.int .u16 0),
 .conv .i64 (.symi .u16 1),
 .q .mul (.i 6) (.z 100),
 .conv .i64 (.c 3),
 .q .rem (.i 8) (.z 7),
 .conv .u64 (.symi .u16 1),
 .q .add (.o 0) (.u 10),
 .q .rem (.c 3) (.int .u8 3),
 .conv .i64 (.c 12),
 .q .leq (.i 13) (.z (-1)),
 .q .gtr (.u 11) (.o 0),
 .sop (.row [.some .u64,.some .u64,.some .i64,.some .u8]) [.u 11,.o 0,.i 13,.c 4],
 .q .add (.u 11) (.u 10),
 .q .add (.u 17) (.o 1),
 .q .gtr (.u 18) (.u 11),
 .conv .u64 (.symi .u16 2),
 .q .add (.o 0) (.u 20),
 .low [.u 18,.u 21],
 .sop (.row [.some .u64,.some .u64,.some .i64,.some .u8]) [.u 18,.u 22,.i 13,.c 4],
 .sop .cat [.s 16,.s 23],
 .q .add (.u 18) (.u 10),
 .q .add (.u 22) (.u 20),
 .low [.u 25,.u 26],
 .low [.u 11,.u 21],
 .sop (.row [.some .u64,.some .u64,.some .i64,.some .u8]) [.u 11,.u 28,.i 13,.c 4],
 .q .gtr (.u 17) (.u 11),
 .q .add (.u 28) (.u 20),
 .low [.u 17,.u 31],
 .sop (.row [.some .u64,.some .u64,.some .i64,.some .u8]) [.u 17,.u 32,.i 13,.c 4],
 .sop .cat [.s 29,.s 33],
 .q .add (.u 17) (.u 10),
 .q .add (.u 32) (.u 20),
 .low [.u 35,.u 36]]
def Q3y:LT:=Go.Wbp.fT 5 Qms (.n (.n (.n (.n (.n .e 31433932 31 .e) 37271928 15 (.n .e 101010697 5 .e)) 103000641 6 (.n (.n (.n .e 103000641 10 .e) 125215810 30 .e) 162262213 13 (.n .e 206000950 20 .e))) 212340428 11 (.n (.n (.n .e 226216113 19 .e) 239282534 14 (.n .e 249602136 17 .e)) 303161359 12 (.n (.n .e 309001259 8 .e) 414897386 24 (.n .e 424650727 21 .e)))) 435435144 36 (.n (.n (.n (.n (.n .e 493469847 32 .e) 499173941 26 .e) 611015649 7 (.n .e 643323676 18 .e)) 670801853 34 (.n (.n .e 706472875 16 .e) 707771452 29 (.n .e 716367295 22 .e))) 750914321 37 (.n (.n (.n .e 808363014 9 .e) 855603954 35 (.n .e 870550065 27 .e)) 879452929 23 (.n (.n .e 943000042 33 .e) 956604257 25 (.n .e 1041106875 28 .e)))))
def Qbgu:Sw:=.n 5 (.y 14 (.y 15 (.x 19 (.run (.leaf .ret Q4k [(0,0),(10,0),(2,0)] [(1,.symi .u16 1),(2,.symi .u16 2),(3,.c 3),(4,.c 4),(1,.symi .u16 1),(2,.symi .u16 2),(3,.c 3),(4,.c 4),(6,.s 24),(7,.z 2),(0,.w 0),(7,.z 2),(9,.i 7),(10,.u 25),(11,.u 27),(13,.i 9)] []))))) (.x 15 (.x 30 (.run (.leaf .ret Q4k [(0,0),(10,0),(2,0)] [(1,.symi .u16 1),(2,.symi .u16 2),(3,.c 3),(4,.c 4),(1,.symi .u16 1),(2,.symi .u16 2),(3,.c 3),(4,.c 4),(6,.s 34),(7,.z 2),(0,.w 0),(7,.z 2),(9,.i 7),(10,.u 35),(11,.u 37),(13,.i 9)] []))))
def Qbgt:KdT:=kdN 0x22200220022220022202200013221111033554 6 1 0
noncomputable def Qjj:Ing:={m:=5,ins:=Qqj,G:=Qms,T:=Q3y,tab:=Qa,lsts:=Qs,kb:=38,kt:=Qbgt}
theorem Qbgw:okLT 5 Qms Q3y=true:=by kernel_rfl
theorem Qbgv (F:List Fact):Hooks Tryd.prog (cxOf Qjj F) where
 val:=fun f args v h=>by simp only [Qjj,cxOf,Qfb,reduceCtorEq] at h
 mem:=fun f args hp v hp' h=>by simp only [Qjj,cxOf,noMh,reduceCtorEq] at h
 ovl:=fun f k h=>by simp only [Qjj,cxOf,reduceCtorEq] at h
 atm:=fun k b h=>by simp only [Qjj,cxOf,List.not_mem_nil] at h
theorem Qbgx:SegOk Tryd.prog Qa 116 (Qe (Qc Tryd.f8)) Qbhu Qjj Qbgu:=
  ⟨Qbgw,by kernel_rfl,Qbgv,rfl,by kernel_rfl,by kernel_rfl,rfl,rfl,fun _=>trivial,by kernel_rfl⟩
theorem Qzi (x:En):Lgp.encL [x]=encX x:=by simp [Lgp.encL]
theorem Qzj (x y:En):Lgp.encL [x,y]=encX x++encX y:=by simp [Lgp.encL]
def L81:Asg:=[(0,.w 0),(7,.i 7),(8,.u 8),(9,.u 9),(1,.symi .u16 1),(2,.symi .u16 2),(3,.c 3),(4,.c 4),(6,.s 6),(7,.i 7),(0,.w 0),(7,.i 7),(8,.u 8),(9,.u 9)]
set_option maxHeartbeats 1000000 in
theorem c81:SymFOk Tryd.prog Qa (fun _=>True) sf81:=
 Qb2 Tryd.func8 rfl (n:=116) rfl (by decide) (by decide) rfl rfl (by kernel_rfl) (fun g w hg _ hE hI hpc hH=>by
  have w0:=hI 0 .u32 (by decide) rfl
  have w1:=hI 1 .u16 (by decide) rfl
  have w2:=hI 2 .u16 (by decide) rfl
  have w3:=hI 3 .u8 (by decide) rfl
  have w4:=hI 4 .u8 (by decide) rfl
  have ok:okD ⟨g.sig.i 1,g.sig.i 2,g.sig.i 3,g.sig.i 4⟩:=⟨w1,w2,w3,w4⟩
  rw [Qoa] at w1 w2
  rw [wr_u8] at w3 w4
  have g5:g.sig.s 5=encD ⟨g.sig.i 1,g.sig.i 2,g.sig.i 3,g.sig.i 4⟩:=Qbl (hE.at 0 _ rfl rfl)
  have g6:g.sig.s 6=decS (g.sig.tab 640 [encB (g.sig.s 5),1]):=eqFs (hE.at 1 _ rfl rfl)
  have g7:g.sig.i 7=IntKind.i64.wrap (g.sig.tab 641 [encB (g.sig.s 5),1]):=eqFn (hE.at 2 _ rfl rfl)
  have g8:g.sig.i 8=IntKind.u64.wrap (g.sig.tab 642 [encB (g.sig.s 5),1,0,0]):=eqFn (hE.at 3 _ rfl rfl)
  have g9:g.sig.i 9=IntKind.u64.wrap (g.sig.tab 643 [encB (g.sig.s 5),1,0,0]):=eqFn (hE.at 4 _ rfl rfl)
  rw [hg,g5] at g6 g7 g8 g9
  obtain ⟨t1,t2,t3,t4⟩:=Qqn (encD ⟨g.sig.i 1,g.sig.i 2,g.sig.i 3,g.sig.i 4⟩) 1 0 0
  replace g6:=g6.trans t1
  replace g7:=g7.trans (congrArg _ t2)
  replace g8:=g8.trans (congrArg _ t3)
  replace g9:=g9.trans (congrArg _ t4)
  unfold draG at g8 g9
  simp only [show min 1 60=1 from rfl,dra1 ok,List.length_cons,List.length_nil,Qu] at g6 g7 g8 g9
  rw [Qh] at g7
  rw [Qf] at g8 g9
  have h8:g.sig.i 8=g.sig.i 1:=by omega
  have h9:g.sig.i 9=min (g.sig.i 1) (g.sig.i 2):=by omega
  have h7:g.sig.i 7=1:=by omega
  clear g7 g8 g9
  refine Qg.last mixed Qbgs ⟨rfl,rfl⟩ (fun V U (ag:Agree 5 V U) (h:Agree 5 g.sig V)=>h.trans' ag) (fun U h=>Qq) (fun U e ht hi ag=> ?_) (pin0 (by kernel_rfl))
  refine Qm ?_
  have a:=fun i h=>(ag.val i h).1.symm
  have a0:U.i 0=g.sig.i 0:=a 0 (by decide)
  have a1:U.i 1=g.sig.i 1:=a 1 (by decide)
  have a2:U.i 2=g.sig.i 2:=a 2 (by decide)
  have a3:U.i 3=g.sig.i 3:=a 3 (by decide)
  have a4:U.i 4=g.sig.i 4:=a 4 (by decide)
  have F:Facs U 5 Qmr:=facs e
  dsimp only [Qmr,Facs,fac1,facI,facS,facB,oI,oK,oB,oS,nmL,nm,Nat.reduceAdd] at F
  obtain ⟨b5,i6,i7,-,i9,b10,b11,-,i13,i14,i15,i16,i17,-,i19,i20,-⟩:=F
  have i8:U.i 8=(U.i 3).tmod (3):=eqI (e.at 3 _ rfl rfl) rfl
  have s12:U.s 12=encX ⟨U.i 7,0,U.i 9,U.i 4⟩:=Qbl (e.at 7 _ rfl rfl)
  have s18:U.s 18=encX ⟨U.i 7,U.i 17,U.i 9,U.i 4⟩:=Qbl (e.at 13 _ rfl rfl)
  have e6:U.i 6=U.i 1:=by rw [Qf] at i6;omega
  clear i6
  have e7:U.i 7=0+U.i 6:=by rw [Qf] at i7;omega
  clear i7
  have e8:U.i 8=U.i 3%3:=by rw [Qca _ (by omega)] at i8;exact i8
  clear i8
  have e9:U.i 9=U.i 8:=by rw [Qh] at i9;omega
  clear i9
  have e13:U.i 13=U.i 7+0:=by rw [Qf] at i13;omega
  clear i13
  have e14:U.i 14=min (U.i 13) (0):=by rw [i14];split<;>omega
  clear i14
  have e15:U.i 15=U.i 2:=by rw [Qf] at i15;omega
  clear i15
  have e16:U.i 16=0+U.i 15:=by rw [Qf] at i16;omega
  clear i16
  have e17:U.i 17=min (U.i 7) (U.i 16):=by rw [i17];split<;>omega
  clear i17
  have e19:U.i 19=U.i 17+0:=by rw [Qf] at i19;omega
  clear i19
  have e20:U.i 20=min (U.i 13) (U.i 19):=by rw [i20];split<;>omega
  clear i20
  refine ⟨fun f5=> ?_,fun f5=> ?_⟩<;>simp only [b5,sb] at f5
  ·refine ⟨fun f10=> ?_,fun f10=> ?_⟩<;>simp only [b10,sb] at f10
   ·omega
   ·refine ⟨fun f11=> ?_,fun f11=> ?_⟩<;>simp only [b11,sb] at f11
    ·omega
    ·have z6:U.s 12=g.sig.s 6:=by
      rw [s12,g6,Qzi]
      refine congrArg encX ?_
      simp only [En.mk.injEq]
      refine ⟨?_,?_,?_,?_⟩<;>omega
     have z7:(1:Int)=g.sig.i 7:=by omega
     have z8:U.i 13=g.sig.i 8:=by omega
     have z9:U.i 14=g.sig.i 9:=by omega
     exact Qbw (M:=10) (l:=L81) (vs:=[.agg Qm0]) (by kernel_rfl) rfl rfl hH hg rfl rfl rfl (by kernel_rfl) (by kernel_rfl) ⟨congrArg (AVal.int .u32) a0,congrArg (AVal.int .i64) z7,congrArg (AVal.int .u64) z8,congrArg (AVal.int .u64) z9,congrArg (AVal.int .u16) a1,congrArg (AVal.int .u16) a2,congrArg (AVal.int .u8) a3,congrArg (AVal.int .u8) a4,congrArg AVal.str z6,congrArg (AVal.int .i64) z7,congrArg (AVal.int .u32) a0,congrArg (AVal.int .i64) z7,congrArg (AVal.int .u64) z8,congrArg (AVal.int .u64) z9,trivial⟩ (by decide) (extS ag.ext.symm) (.inl rfl)
  ·refine ⟨fun f11=> ?_,fun f11=> ?_⟩<;>simp only [b11,sb] at f11
   ·have z6:U.s 18=g.sig.s 6:=by
     rw [s18,g6,Qzi]
     refine congrArg encX ?_
     simp only [En.mk.injEq]
     refine ⟨?_,?_,?_,?_⟩<;>omega
    have z7:(1:Int)=g.sig.i 7:=by omega
    have z8:U.i 13=g.sig.i 8:=by omega
    have z9:U.i 20=g.sig.i 9:=by omega
    exact Qbw (M:=10) (l:=L81) (vs:=[.agg Qm0]) (by kernel_rfl) rfl rfl hH hg rfl rfl rfl (by kernel_rfl) (by kernel_rfl) ⟨congrArg (AVal.int .u32) a0,congrArg (AVal.int .i64) z7,congrArg (AVal.int .u64) z8,congrArg (AVal.int .u64) z9,congrArg (AVal.int .u16) a1,congrArg (AVal.int .u16) a2,congrArg (AVal.int .u8) a3,congrArg (AVal.int .u8) a4,congrArg AVal.str z6,congrArg (AVal.int .i64) z7,congrArg (AVal.int .u32) a0,congrArg (AVal.int .i64) z7,congrArg (AVal.int .u64) z8,congrArg (AVal.int .u64) z9,trivial⟩ (by decide) (extS ag.ext.symm) (.inl rfl)
   ·omega)
def L82:Asg:=[(0,.w 0),(7,.i 7),(9,.i 9),(10,.u 10),(11,.u 11),(13,.i 13),(1,.symi .u16 1),(2,.symi .u16 2),(3,.c 3),(4,.c 4),(1,.symi .u16 1),(2,.symi .u16 2),(3,.c 3),(4,.c 4),(6,.s 6),(7,.i 7),(0,.w 0),(7,.i 7),(9,.i 9),(10,.u 10),(11,.u 11),(13,.i 13)]
set_option maxHeartbeats 1000000 in
theorem c82:SymFOk Tryd.prog Qa (fun _=>True) sf82:=
 Qb2 Tryd.func8 rfl (n:=116) rfl (by decide) (by decide) rfl rfl (by kernel_rfl) (fun g w hg _ hE hI hpc hH=>by
  have w0:=hI 0 .u32 (by decide) rfl
  have w1:=hI 1 .u16 (by decide) rfl
  have w2:=hI 2 .u16 (by decide) rfl
  have w3:=hI 3 .u8 (by decide) rfl
  have w4:=hI 4 .u8 (by decide) rfl
  have ok:okD ⟨g.sig.i 1,g.sig.i 2,g.sig.i 3,g.sig.i 4⟩:=⟨w1,w2,w3,w4⟩
  rw [Qoa] at w1 w2
  rw [wr_u8] at w3 w4
  have g5:g.sig.s 5=encD ⟨g.sig.i 1,g.sig.i 2,g.sig.i 3,g.sig.i 4⟩++encD ⟨g.sig.i 1,g.sig.i 2,g.sig.i 3,g.sig.i 4⟩:=(Qbl (hE.at 0 _ rfl rfl)).trans (by simp [encD,entD,rowB,cl4d,den,lgD4,ByteArray.ext_iff,ByteArray.data_append])
  have g6:g.sig.s 6=decS (g.sig.tab 640 [encB (g.sig.s 5),2]):=eqFs (hE.at 1 _ rfl rfl)
  have g7:g.sig.i 7=IntKind.i64.wrap (g.sig.tab 641 [encB (g.sig.s 5),2]):=eqFn (hE.at 2 _ rfl rfl)
  have g8:g.sig.i 8=IntKind.i64.wrap (g.sig.i 1):=eqI (hE.at 3 _ rfl rfl) rfl
  have g9:g.sig.i 9=IntKind.i64.wrap (g.sig.i 8*100):=eqI (hE.at 4 _ rfl rfl) rfl
  have g10:g.sig.i 10=IntKind.u64.wrap (g.sig.tab 642 [encB (g.sig.s 5),2,g.sig.i 1,g.sig.i 2]):=eqFn (hE.at 5 _ rfl rfl)
  have g11:g.sig.i 11=IntKind.u64.wrap (g.sig.tab 643 [encB (g.sig.s 5),2,g.sig.i 1,g.sig.i 2]):=eqFn (hE.at 6 _ rfl rfl)
  have g12:g.sig.i 12=IntKind.i64.wrap (g.sig.i 3):=eqI (hE.at 7 _ rfl rfl) rfl
  have g13:g.sig.i 13=(g.sig.i 12).tmod 7:=eqI (hE.at 8 _ rfl rfl) rfl
  rw [hg,g5] at g6 g7 g10 g11
  obtain ⟨t1,t2,t3,t4⟩:=Qqn (encD ⟨g.sig.i 1,g.sig.i 2,g.sig.i 3,g.sig.i 4⟩++encD ⟨g.sig.i 1,g.sig.i 2,g.sig.i 3,g.sig.i 4⟩) 2 (g.sig.i 1) (g.sig.i 2)
  replace g6:=g6.trans t1
  replace g7:=g7.trans (congrArg _ t2)
  replace g10:=g10.trans (congrArg _ t3)
  replace g11:=g11.trans (congrArg _ t4)
  unfold draG at g10 g11
  simp only [show min 2 60=2 from rfl,dra2 ok,List.length_cons,List.length_nil,Qu] at g6 g7 g10 g11
  rw [Qh] at g7 g8 g9 g12
  rw [Qf] at g10 g11
  rw [Qca _ (by omega)] at g13
  have h7:g.sig.i 7=2:=by omega
  have h9:g.sig.i 9=g.sig.i 1*100:=by omega
  have h13:g.sig.i 13=g.sig.i 3%7:=by omega
  clear g7 g8 g9 g12 g13
  refine Qg.last mixed Qbgx ⟨rfl,rfl⟩ (fun V U (ag:Agree 5 V U) (h:Agree 5 g.sig V)=>h.trans' ag) (fun U h=>Qq) (fun U e ht hi ag=> ?_) (pin0 (by kernel_rfl))
  refine Qm ?_
  have a:=fun i h=>(ag.val i h).1.symm
  have a0:U.i 0=g.sig.i 0:=a 0 (by decide)
  have a1:U.i 1=g.sig.i 1:=a 1 (by decide)
  have a2:U.i 2=g.sig.i 2:=a 2 (by decide)
  have a3:U.i 3=g.sig.i 3:=a 3 (by decide)
  have a4:U.i 4=g.sig.i 4:=a 4 (by decide)
  have F:Facs U 5 Qms:=facs e
  dsimp only [Qms,Facs,fac1,facI,facS,facB,oI,oK,oB,oS,nmL,nm,Nat.reduceAdd] at F
  obtain ⟨b5,i6,i7,i8,-,i10,i11,-,i13,b14,b15,-,i17,i18,b19,i20,i21,i22,-,s24,i25,i26,i27,i28,-,b30,i31,i32,-,s34,i35,i36,i37,-⟩:=F
  have i9:U.i 9=(U.i 8).tmod (7):=eqI (e.at 4 _ rfl rfl) rfl
  have i12:U.i 12=(U.i 3).tmod (3):=eqI (e.at 7 _ rfl rfl) rfl
  have s16:U.s 16=encX ⟨U.i 11,0,U.i 13,U.i 4⟩:=Qbl (e.at 11 _ rfl rfl)
  have s23:U.s 23=encX ⟨U.i 18,U.i 22,U.i 13,U.i 4⟩:=Qbl (e.at 18 _ rfl rfl)
  have s29:U.s 29=encX ⟨U.i 11,U.i 28,U.i 13,U.i 4⟩:=Qbl (e.at 24 _ rfl rfl)
  have s33:U.s 33=encX ⟨U.i 17,U.i 32,U.i 13,U.i 4⟩:=Qbl (e.at 28 _ rfl rfl)
  have e6:U.i 6=U.i 1:=by rw [Qh] at i6;omega
  clear i6
  have e7:U.i 7=U.i 6*100:=by rw [Qh] at i7;omega
  clear i7
  have e8:U.i 8=U.i 3:=by rw [Qh] at i8;omega
  clear i8
  have e9:U.i 9=U.i 8%7:=by rw [Qca _ (by omega)] at i9;exact i9
  clear i9
  have e10:U.i 10=U.i 1:=by rw [Qf] at i10;omega
  clear i10
  have e11:U.i 11=0+U.i 10:=by rw [Qf] at i11;omega
  clear i11
  have e12:U.i 12=U.i 3%3:=by rw [Qca _ (by omega)] at i12;exact i12
  clear i12
  have e13:U.i 13=U.i 12:=by rw [Qh] at i13;omega
  clear i13
  have e17:U.i 17=U.i 11+U.i 10:=by rw [Qf] at i17;omega
  clear i17
  have e18:U.i 18=U.i 17+1:=by rw [Qf] at i18;omega
  clear i18
  have e20:U.i 20=U.i 2:=by rw [Qf] at i20;omega
  clear i20
  have e21:U.i 21=0+U.i 20:=by rw [Qf] at i21;omega
  clear i21
  have e22:U.i 22=min (U.i 18) (U.i 21):=by rw [i22];split<;>omega
  clear i22
  have e25:U.i 25=U.i 18+U.i 10:=by rw [Qf] at i25;omega
  clear i25
  have e26:U.i 26=U.i 22+U.i 20:=by rw [Qf] at i26;omega
  clear i26
  have e27:U.i 27=min (U.i 25) (U.i 26):=by rw [i27];split<;>omega
  clear i27
  have e28:U.i 28=min (U.i 11) (U.i 21):=by rw [i28];split<;>omega
  clear i28
  have e31:U.i 31=U.i 28+U.i 20:=by rw [Qf] at i31;omega
  clear i31
  have e32:U.i 32=min (U.i 17) (U.i 31):=by rw [i32];split<;>omega
  clear i32
  have e35:U.i 35=U.i 17+U.i 10:=by rw [Qf] at i35;omega
  clear i35
  have e36:U.i 36=U.i 32+U.i 20:=by rw [Qf] at i36;omega
  clear i36
  have e37:U.i 37=min (U.i 35) (U.i 36):=by rw [i37];split<;>omega
  clear i37
  refine ⟨fun f5=> ?_,fun f5=> ?_⟩<;>simp only [b5,sb] at f5
  ·refine ⟨fun f14=> ?_,fun f14=> ?_⟩<;>simp only [b14,sb] at f14
   ·omega
   ·refine ⟨fun f15=> ?_,fun f15=> ?_⟩<;>simp only [b15,sb] at f15
    ·omega
    ·refine ⟨fun f19=> ?_,fun f19=> ?_⟩<;>simp only [b19,sb] at f19
     ·have h0:g.sig.i 1=0:=by omega
      simp only [if_pos h0] at g6 g10 g11
      have h10:g.sig.i 10=1+g.sig.i 1:=by omega
      have h11:g.sig.i 11=min (1+g.sig.i 1) (min (1) (min (g.sig.i 1) (g.sig.i 2)+g.sig.i 2)+g.sig.i 2):=by omega
      clear g10 g11
      have z6:U.s 24=g.sig.s 6:=by
       rw [s24,s16,s23,g6,Qzj]
       refine congr (congrArg HAppend.hAppend (congrArg encX ?_)) (congrArg encX ?_)
       ·simp only [En.mk.injEq]
        refine ⟨?_,?_,?_,?_⟩<;>omega
       ·simp only [En.mk.injEq]
        refine ⟨?_,?_,?_,?_⟩<;>omega
      have z7:(2:Int)=g.sig.i 7:=by omega
      have z9:U.i 7=g.sig.i 9:=by omega
      have z10:U.i 25=g.sig.i 10:=by omega
      have z11:U.i 27=g.sig.i 11:=by omega
      have z13:U.i 9=g.sig.i 13:=by omega
      exact Qbw (M:=14) (l:=L82) (vs:=[.agg Qm1]) (by kernel_rfl) rfl rfl hH hg rfl rfl rfl (by kernel_rfl) (by kernel_rfl) ⟨congrArg (AVal.int .u32) a0,congrArg (AVal.int .i64) z7,congrArg (AVal.int .i64) z9,congrArg (AVal.int .u64) z10,congrArg (AVal.int .u64) z11,congrArg (AVal.int .i64) z13,congrArg (AVal.int .u16) a1,congrArg (AVal.int .u16) a2,congrArg (AVal.int .u8) a3,congrArg (AVal.int .u8) a4,congrArg (AVal.int .u16) a1,congrArg (AVal.int .u16) a2,congrArg (AVal.int .u8) a3,congrArg (AVal.int .u8) a4,congrArg AVal.str z6,congrArg (AVal.int .i64) z7,congrArg (AVal.int .u32) a0,congrArg (AVal.int .i64) z7,congrArg (AVal.int .i64) z9,congrArg (AVal.int .u64) z10,congrArg (AVal.int .u64) z11,congrArg (AVal.int .i64) z13,trivial⟩ (by decide) (extS ag.ext.symm) (.inl rfl)
     ·omega
  ·refine ⟨fun f15=> ?_,fun f15=> ?_⟩<;>simp only [b15,sb] at f15
   ·refine ⟨fun f30=> ?_,fun f30=> ?_⟩<;>simp only [b30,sb] at f30
    ·have h0: ¬g.sig.i 1=0:=by omega
     simp only [if_neg h0] at g6 g10 g11
     have h10:g.sig.i 10=g.sig.i 1+g.sig.i 1+g.sig.i 1:=by omega
     have h11:g.sig.i 11=min (g.sig.i 1+g.sig.i 1+g.sig.i 1) (min (g.sig.i 1+g.sig.i 1) (min (g.sig.i 1) (g.sig.i 2)+g.sig.i 2)+g.sig.i 2):=by omega
     clear g10 g11
     have z6:U.s 34=g.sig.s 6:=by
      rw [s34,s29,s33,g6,Qzj]
      refine congr (congrArg HAppend.hAppend (congrArg encX ?_)) (congrArg encX ?_)
      ·simp only [En.mk.injEq]
       refine ⟨?_,?_,?_,?_⟩<;>omega
      ·simp only [En.mk.injEq]
       refine ⟨?_,?_,?_,?_⟩<;>omega
     have z7:(2:Int)=g.sig.i 7:=by omega
     have z9:U.i 7=g.sig.i 9:=by omega
     have z10:U.i 35=g.sig.i 10:=by omega
     have z11:U.i 37=g.sig.i 11:=by omega
     have z13:U.i 9=g.sig.i 13:=by omega
     exact Qbw (M:=14) (l:=L82) (vs:=[.agg Qm1]) (by kernel_rfl) rfl rfl hH hg rfl rfl rfl (by kernel_rfl) (by kernel_rfl) ⟨congrArg (AVal.int .u32) a0,congrArg (AVal.int .i64) z7,congrArg (AVal.int .i64) z9,congrArg (AVal.int .u64) z10,congrArg (AVal.int .u64) z11,congrArg (AVal.int .i64) z13,congrArg (AVal.int .u16) a1,congrArg (AVal.int .u16) a2,congrArg (AVal.int .u8) a3,congrArg (AVal.int .u8) a4,congrArg (AVal.int .u16) a1,congrArg (AVal.int .u16) a2,congrArg (AVal.int .u8) a3,congrArg (AVal.int .u8) a4,congrArg AVal.str z6,congrArg (AVal.int .i64) z7,congrArg (AVal.int .u32) a0,congrArg (AVal.int .i64) z7,congrArg (AVal.int .i64) z9,congrArg (AVal.int .u64) z10,congrArg (AVal.int .u64) z11,congrArg (AVal.int .i64) z13,trivial⟩ (by decide) (extS ag.ext.symm) (.inl rfl)
    ·omega
   ·omega)
end Go.Proofs.YtelimhjceiamcaaDoor.lg
