/-
 Contract of the document's Num.
 No conditions.
-/
import Derived.Test.YtelimhjceiamcaaDoorTWbp
import Derived.Test.YtelimhjceiamcaaDoorTEv8
import Derived.Test.YtelimhjceiamcaaDoorTLg15
set_option linter.unusedVariables false
set_option linter.unusedSimpArgs false
namespace Go.Proofs.YtelimhjceiamcaaDoor.lg
open Go.Ev Go.RowKit Go.Wbp Go.Lgp
open Go.Proofs.YtelimhjceiamcaaDoor.lgn (mixed sf48 Qbu)
def Q5k:List (Option IntKind):=[some .u64]
def Qbi2:Shape:=⟨argT 0 [.u 0],[]⟩
def Qnk:Shape:=⟨[(2,.s 1)],[]⟩
def sf24:SymF:={f:=24,m:=1,ins:=Q5k,args:=[.u 0],pre:=[],pcs:=[],G:=[.sop (.fs 192) [.u 0]],v:=.s 1,post:=[]}
set_option maxRecDepth 100000 in
def Qm1:List SDef:=[.q .rem (.u 0) (.o 4611686018427387904),
 .q .lss (.u 1) (.o 64),
 .q .lss (.u 1) (.o 16384),
 .q .lss (.u 1) (.o 1073741824),
 .q .rem (.u 1) (.o 256),
 .conv .u8 (.u 5),
 .text [.c 6],
 .q .quo (.u 1) (.o 256),
 .q .add (.c 6) (.int .u8 0),
 .text [.c 9],
 .text [],
 .sop .cat [.s 10,.s 11],
 .sop .len [.s 12],
 .q .leq (.i 13) (.z 9223372036854775807),
 .q .rem (.u 8) (.o 256),
 .conv .u8 (.u 15),
 .text [.c 16],
 .text [.c 16,.c 6],
 .q .quo (.u 8) (.o 256),
 .q .add (.c 16) (.int .u8 64),
 .text [.c 20],
 .text [.c 20,.c 6],
 .sop .cat [.s 21,.s 7],
 .sop .len [.s 23],
 .q .leq (.i 24) (.z 9223372036854775807),
 .q .rem (.u 19) (.o 256),
 .conv .u8 (.u 26),
 .text [.c 27],
 .text [.c 27,.c 16,.c 6],
 .q .quo (.u 19) (.o 256),
 .q .rem (.u 30) (.o 256),
 .conv .u8 (.u 31),
 .text [.c 32],
 .text [.c 32,.c 27,.c 16,.c 6],
 .q .quo (.u 30) (.o 256),
 .q .add (.c 32) (.int .u8 128),
 .text [.c 36],
 .text [.c 36,.c 27,.c 16,.c 6],
 .sop .cat [.s 37,.s 29],
 .sop .len [.s 39],
 .q .leq (.i 40) (.z 9223372036854775807),
 .q .rem (.u 35) (.o 256),
 .conv .u8 (.u 42),
 .text [.c 43],
 .text [.c 43,.c 32,.c 27,.c 16,.c 6],
 .q .quo (.u 35) (.o 256),
 .q .rem (.u 46) (.o 256),
 .conv .u8 (.u 47),
 .text [.c 48],
 .text [.c 48,.c 43,.c 32,.c 27,.c 16,.c 6],
 .q .quo (.u 46) (.o 256),
 .q .rem (.u 51) (.o 256),
 .conv .u8 (.u 52),
 .text [.c 53],
 .text [.c 53,.c 48,.c 43,.c 32,.c 27,.c 16,.c 6],
 .q .quo (.u 51) (.o 256),
 .q .rem (.u 56) (.o 256),
 .conv .u8 (.u 57),
 .text [.c 58],
 .text [.c 58,.c 53,.c 48,.c 43,.c 32,.c 27,.c 16,.c 6],
 .q .quo (.u 56) (.o 256),
 .q .add (.c 58) (.int .u8 192),
 .text [.c 62],
 .text [.c 62,.c 53,.c 48,.c 43,.c 32,.c 27,.c 16,.c 6],
 .sop .cat [.s 63,.s 55],
 .sop .len [.s 65],
 .q .leq (.i 66) (.z 9223372036854775807)]
set_option maxRecDepth 100000 in
def Q3t:LT:=Go.Wbp.fT 1 Qm1 (.n (.n (.n (.n (.n (.n (.n .e 168 11 .e) 1811605 1 .e) 17199012 36 (.n .e 19242349 23 .e)) 31046002 43 (.n (.n .e 69265961 10 .e) 70797105 40 (.n .e 92311607 44 .e))) 100860606 4 (.n (.n (.n .e 104212951 2 .e) 113819601 8 (.n .e 113819608 5 .e)) 117990451 66 (.n (.n .e 207789165 28 .e) 208116581 60 (.n .e 227131936 67 .e)))) 242825012 14 (.n (.n (.n (.n (.n .e 277050767 37 .e) 280086518 25 .e) 283980971 45 (.n .e 288573590 54 .e)) 300127131 61 (.n (.n .e 300127138 57 .e) 326604422 46 (.n .e 326604429 42 .e))) 352551382 34 (.n (.n (.n .e 357835192 63 .e) 363865928 51 (.n .e 363865935 47 .e)) 392408918 22 (.n (.n .e 392528325 21 .e) 461836512 55 (.n .e 471263140 16 .e))))) 498925476 62 (.n (.n (.n (.n (.n (.n .e 502308810 58 .e) 515001877 6 .e) 530524712 27 (.n .e 545475578 20 .e)) 546047547 48 (.n (.n .e 606012135 9 .e) 619923722 24 (.n .e 625437975 39 .e))) 637329517 12 (.n (.n (.n .e 716118105 64 .e) 727313512 49 (.n .e 762006645 7 .e)) 820821722 19 (.n (.n .e 820821729 15 .e) 822349539 41 (.n .e 842791070 33 .e)))) 858083228 30 (.n (.n (.n (.n (.n .e 858083235 26 .e) 860552906 38 .e) 868867443 56 (.n .e 868867450 52 .e)) 895344734 35 (.n (.n .e 895344741 31 .e) 919380479 29 (.n .e 920784151 3 .e))) 923575495 59 (.n (.n (.n .e 930339407 13 .e) 940783789 50 (.n .e 958149221 18 .e)) 958268628 17 (.n (.n .e 1045526257 32 .e) 1061049092 53 (.n .e 1061883220 65 .e))))))
set_option maxRecDepth 100000 in
def Qbgp:Sw:=.n 2 (.x 14 (.run (.leaf .ret Qnk [] [(1,.s 10)] []))) (.n 3 (.x 25 (.run (.leaf .ret Qnk [] [(1,.s 22)] []))) (.n 4 (.x 41 (.run (.leaf .ret Qnk [] [(1,.s 38)] []))) (.x 67 (.run (.leaf .ret Qnk [] [(1,.s 64)] [])))))
def Qbgo:KdT:=kdN 0x320032200322003220032000003200322003200000320032000003203200022 7 1 0
noncomputable def Qbgq:Ing:={m:=1,ins:=Q5k,G:=Qm1,T:=Q3t,tab:=Qa,lsts:=Qs,kb:=68,kt:=Qbgo}
theorem Qbgr:okLT 1 Qm1 Q3t=true:=by kernel_rfl
theorem Qbgs:SegOk Tryd.prog Qa 44 (Qe (Qc Tryd.f24)) Qbi2 Qbgq Qbgp:=
  ⟨Qbgr,by kernel_rfl,fun F=>Qbw rfl F,rfl,by kernel_rfl,by kernel_rfl,rfl,rfl,fun _=>trivial,by kernel_rfl⟩
def L24:Asg:=[(1,.s 1)]
set_option maxHeartbeats 1000000 in
theorem c24:SymFOk Tryd.prog Qa (fun _=>True) sf24:=
 Qb5 Tryd.func24 rfl (n:=44) rfl (by decide) (by decide) rfl rfl (by kernel_rfl) (fun g w hg _ hE hI hpc hH=>by
  refine Qf.last mixed Qbgs ⟨rfl,rfl⟩ (fun V U (ag:Agree 1 V U) (h:Agree 1 g.sig V)=>h.trans' ag) (fun U h=>Qv) (fun U e ht hi ag=> ?_) (pin0 (by kernel_rfl));refine Qp ?_;have g1:g.sig.s 1=decS (g.sig.tab 192 [g.sig.i 0]):=eqFs (hE.at 0 _ rfl rfl);have a0:U.i 0=g.sig.i 0:=(ag.val 0 (by decide)).1.symm;rw [hg,lg_pb,<-a0] at g1;have w0:=hi 0 .u64 (by decide) rfl;rw [Qg] at w0;have fin: ∀k,U.s k=bs (pbL (U.i 0))->EndZ Qa 44 (Qu g w sf24.pre.length) (bodyPost Tryd.prog Tryd.f24 (MemR Qa sf24 g w)) .ret Qnk (asgS U ([(1,.syms k)]++[])):=fun k h=>
   Qb8 (M:=2) (l:=L24) (vs:=[.syms 1]) (by kernel_rfl) rfl rfl hH hg rfl rfl rfl (by kernel_rfl) (by kernel_rfl) ⟨congrArg AVal.str (h.trans g1.symm),trivial⟩ (by decide) (extS ag.ext.symm) (.inl rfl)
  have i1:U.i 1=(U.i 0).tmod (4611686018427387904):=eqI (e.at 0 _ rfl rfl) rfl;have F:Facs U 1 Qm1:=facs e;dsimp only [Qm1,Facs,fac1,facI,facS,facB,oI,oK,oB,oS,nmL,nm,Nat.reduceAdd] at F;obtain ⟨-,b2,b3,b4,-,i6,-,-,i9,-,-,s12,i13,b14,-,i16,-,-,-,i20,-,-,s23,i24,b25,-,i27,-,-,-,-,i32,-,-,-,i36,-,-,s39,i40,b41,-,i43,-,-,-,-,i48,-,-,-,-,i53,-,-,-,-,i58,-,-,-,i62,-,-,s65,i66,b67,-⟩:=F;have tr: ∀{P:Prop} {b:Bool} [Decidable P],b=decide P->b=false->P->False:=fun hb hf hp=>by rw [hb,decide_eq_false_iff_not] at hf;exact hf hp
  rw [Qb1 _ (by omega)] at i1;have hm0:=Int.emod_nonneg (U.i 0) (show (4611686018427387904:Int)≠0 by decide);have hm1:=Int.emod_lt_of_pos (U.i 0) (show (0:Int)<4611686018427387904 by decide);generalize hM:U.i 0%4611686018427387904=M at i1 hm0 hm1;refine ⟨fun f2=> ?_,fun f2=>⟨fun f3=> ?_,fun f3=>⟨fun f4=> ?_,fun f4=> ?_⟩⟩⟩
  ·
   rw [b2,decide_eq_true_eq] at f2;have i5:U.i 5=(U.i 1).tmod (256):=eqI (e.at 4 _ rfl rfl) rfl;have s10:U.s 10=bs [U.i 9]:=p9.eqText (e.at 9 _ rfl rfl);have s11:U.s 11=bs []:=p9.eqText (e.at 10 _ rfl rfl);rw [Qb1 _ (by omega)] at i5;rw [wr_u8] at i6;rw [wr_u8] at i9;have e9:U.i 9=M:=by omega
   have ht10:U.s 10=bs (pbL (U.i 0)):=by
    rw [s10,e9];unfold pbL pbM;rw [hM,if_pos (by omega)]
   have hz:(U.s 12).size<=100:=by
    rw [s12,s10,s11,ByteArray.size_append,Qbk,Qbk];simp
   exact ⟨fun _=>fin 10 ht10,fun f=>tr b14 f (by omega)⟩
  ·
   rw [b2,decide_eq_false_iff_not] at f2;rw [b3,decide_eq_true_eq] at f3;have i5:U.i 5=(U.i 1).tmod (256):=eqI (e.at 4 _ rfl rfl) rfl;have s7:U.s 7=bs [U.i 6]:=p9.eqText (e.at 6 _ rfl rfl);have i8:U.i 8=IntKind.u64.wrap ((U.i 1).tdiv (256)):=eqI (e.at 7 _ rfl rfl) rfl;have i15:U.i 15=(U.i 8).tmod (256):=eqI (e.at 14 _ rfl rfl) rfl;have s21:U.s 21=bs [U.i 20]:=p9.eqText (e.at 20 _ rfl rfl);have s22:U.s 22=bs [U.i 20,U.i 6]:=p9.eqText (e.at 21 _ rfl rfl);rw [Qb1 _ (by omega)] at i5;rw [wr_u8] at i6;rw [Qg,Int.tdiv_eq_ediv_of_nonneg (by omega)] at i8;rw [Qb1 _ (by omega)] at i15;rw [wr_u8] at i16;rw [wr_u8] at i20;have e20:U.i 20=M/256+64:=by omega
   have e6:U.i 6=M%256:=by omega
   have ht22:U.s 22=bs (pbL (U.i 0)):=by
    rw [s22,e20,e6];unfold pbL pbM;rw [hM,if_neg (by omega),if_pos (by omega)]
   have hz:(U.s 23).size<=100:=by
    rw [s23,s21,s7,ByteArray.size_append,Qbk,Qbk];simp
   exact ⟨fun _=>fin 22 ht22,fun f=>tr b25 f (by omega)⟩
  ·
   rw [b2,decide_eq_false_iff_not] at f2;rw [b3,decide_eq_false_iff_not] at f3;rw [b4,decide_eq_true_eq] at f4;have i5:U.i 5=(U.i 1).tmod (256):=eqI (e.at 4 _ rfl rfl) rfl;have i8:U.i 8=IntKind.u64.wrap ((U.i 1).tdiv (256)):=eqI (e.at 7 _ rfl rfl) rfl;have i15:U.i 15=(U.i 8).tmod (256):=eqI (e.at 14 _ rfl rfl) rfl;have i19:U.i 19=IntKind.u64.wrap ((U.i 8).tdiv (256)):=eqI (e.at 18 _ rfl rfl) rfl;have i26:U.i 26=(U.i 19).tmod (256):=eqI (e.at 25 _ rfl rfl) rfl;have s29:U.s 29=bs [U.i 27,U.i 16,U.i 6]:=p9.eqText (e.at 28 _ rfl rfl);have i30:U.i 30=IntKind.u64.wrap ((U.i 19).tdiv (256)):=eqI (e.at 29 _ rfl rfl) rfl;have i31:U.i 31=(U.i 30).tmod (256):=eqI (e.at 30 _ rfl rfl) rfl;have s37:U.s 37=bs [U.i 36]:=p9.eqText (e.at 36 _ rfl rfl);have s38:U.s 38=bs [U.i 36,U.i 27,U.i 16,U.i 6]:=p9.eqText (e.at 37 _ rfl rfl);rw [Qb1 _ (by omega)] at i5;rw [wr_u8] at i6;rw [Qg,Int.tdiv_eq_ediv_of_nonneg (by omega)] at i8;rw [Qb1 _ (by omega)] at i15;rw [wr_u8] at i16;rw [Qg,Int.tdiv_eq_ediv_of_nonneg (by omega)] at i19;rw [Qb1 _ (by omega)] at i26;rw [wr_u8] at i27;rw [Qg,Int.tdiv_eq_ediv_of_nonneg (by omega)] at i30;rw [Qb1 _ (by omega)] at i31;rw [wr_u8] at i32;rw [wr_u8] at i36;have e36:U.i 36=M/16777216+128:=by omega
   have e27:U.i 27=M/65536%256:=by omega
   have e16:U.i 16=M/256%256:=by omega
   have e6:U.i 6=M%256:=by omega
   have ht38:U.s 38=bs (pbL (U.i 0)):=by
    rw [s38,e36,e27,e16,e6];unfold pbL pbM;rw [hM,if_neg (by omega),if_neg (by omega),if_pos (by omega)]
   have hz:(U.s 39).size<=100:=by
    rw [s39,s37,s29,ByteArray.size_append,Qbk,Qbk];simp
   exact ⟨fun _=>fin 38 ht38,fun f=>tr b41 f (by omega)⟩
  ·
   rw [b2,decide_eq_false_iff_not] at f2;rw [b3,decide_eq_false_iff_not] at f3;rw [b4,decide_eq_false_iff_not] at f4;have i5:U.i 5=(U.i 1).tmod (256):=eqI (e.at 4 _ rfl rfl) rfl;have i8:U.i 8=IntKind.u64.wrap ((U.i 1).tdiv (256)):=eqI (e.at 7 _ rfl rfl) rfl;have i15:U.i 15=(U.i 8).tmod (256):=eqI (e.at 14 _ rfl rfl) rfl;have i19:U.i 19=IntKind.u64.wrap ((U.i 8).tdiv (256)):=eqI (e.at 18 _ rfl rfl) rfl;have i26:U.i 26=(U.i 19).tmod (256):=eqI (e.at 25 _ rfl rfl) rfl;have i30:U.i 30=IntKind.u64.wrap ((U.i 19).tdiv (256)):=eqI (e.at 29 _ rfl rfl) rfl;have i31:U.i 31=(U.i 30).tmod (256):=eqI (e.at 30 _ rfl rfl) rfl;have i35:U.i 35=IntKind.u64.wrap ((U.i 30).tdiv (256)):=eqI (e.at 34 _ rfl rfl) rfl;have i42:U.i 42=(U.i 35).tmod (256):=eqI (e.at 41 _ rfl rfl) rfl;have i46:U.i 46=IntKind.u64.wrap ((U.i 35).tdiv (256)):=eqI (e.at 45 _ rfl rfl) rfl;have i47:U.i 47=(U.i 46).tmod (256):=eqI (e.at 46 _ rfl rfl) rfl;have i51:U.i 51=IntKind.u64.wrap ((U.i 46).tdiv (256)):=eqI (e.at 50 _ rfl rfl) rfl;have i52:U.i 52=(U.i 51).tmod (256):=eqI (e.at 51 _ rfl rfl) rfl;have s55:U.s 55=bs [U.i 53,U.i 48,U.i 43,U.i 32,U.i 27,U.i 16,U.i 6]:=p9.eqText (e.at 54 _ rfl rfl);have i56:U.i 56=IntKind.u64.wrap ((U.i 51).tdiv (256)):=eqI (e.at 55 _ rfl rfl) rfl;have i57:U.i 57=(U.i 56).tmod (256):=eqI (e.at 56 _ rfl rfl) rfl;have s63:U.s 63=bs [U.i 62]:=p9.eqText (e.at 62 _ rfl rfl);have s64:U.s 64=bs [U.i 62,U.i 53,U.i 48,U.i 43,U.i 32,U.i 27,U.i 16,U.i 6]:=p9.eqText (e.at 63 _ rfl rfl)
   rw [Qb1 _ (by omega)] at i5;rw [wr_u8] at i6;rw [Qg,Int.tdiv_eq_ediv_of_nonneg (by omega)] at i8;rw [Qb1 _ (by omega)] at i15;rw [wr_u8] at i16;rw [Qg,Int.tdiv_eq_ediv_of_nonneg (by omega)] at i19;rw [Qb1 _ (by omega)] at i26;rw [wr_u8] at i27;rw [Qg,Int.tdiv_eq_ediv_of_nonneg (by omega)] at i30;rw [Qb1 _ (by omega)] at i31;rw [wr_u8] at i32;rw [Qg,Int.tdiv_eq_ediv_of_nonneg (by omega)] at i35;rw [Qb1 _ (by omega)] at i42;rw [wr_u8] at i43;rw [Qg,Int.tdiv_eq_ediv_of_nonneg (by omega)] at i46;rw [Qb1 _ (by omega)] at i47;rw [wr_u8] at i48;rw [Qg,Int.tdiv_eq_ediv_of_nonneg (by omega)] at i51;rw [Qb1 _ (by omega)] at i52;rw [wr_u8] at i53;rw [Qg,Int.tdiv_eq_ediv_of_nonneg (by omega)] at i56;rw [Qb1 _ (by omega)] at i57;rw [wr_u8] at i58;rw [wr_u8] at i62;have e62:U.i 62=M/72057594037927936+192:=by omega
   have e53:U.i 53=M/281474976710656%256:=by omega
   have e48:U.i 48=M/1099511627776%256:=by omega
   have e43:U.i 43=M/4294967296%256:=by omega
   have e32:U.i 32=M/16777216%256:=by omega
   have e27:U.i 27=M/65536%256:=by omega
   have e16:U.i 16=M/256%256:=by omega
   have e6:U.i 6=M%256:=by omega
   have ht64:U.s 64=bs (pbL (U.i 0)):=by
    rw [s64,e62,e53,e48,e43,e32,e27,e16,e6];unfold pbL pbM;rw [hM,if_neg (by omega),if_neg (by omega),if_neg (by omega)]
   have hz:(U.s 65).size<=100:=by
    rw [s65,s63,s55,ByteArray.size_append,Qbk,Qbk];simp
   exact ⟨fun _=>fin 64 ht64,fun f=>tr b67 f (by omega)⟩)
end Go.Proofs.YtelimhjceiamcaaDoor.lg
set_option maxRecDepth 100000
namespace Go.Proofs.YtelimhjceiamcaaDoor.lg
open Go.Ev Go.RowKit Go.Wbp Go.Lgp
open Go.Proofs.YtelimhjceiamcaaDoor.lgn (mixed sf48 Qbu)
def lgS9:Shape:=⟨argT 0 [lgA],[eL 6 7]⟩
def lgB9:List Blk:=[eL 6 7,.cells lgC 39,.cells [.symi .u64 9,.symi .u64 10,.symi .i64 11,.symi .u8 12] 67]
def lgH9:Shape:=⟨[(0,lgA),(1,.ptr 1 0),(4,.s 13),(5,.ptr 2 0),(6,.i 8)],lgB9⟩
def lgM9:Shape:=⟨[(0,lgA),(1,.ptr 1 0),(4,.s 13),(5,.ptr 2 0)],lgB9⟩
def Qvq:List (Option IntKind):=lgK++[some .i64,some .u64,some .u64,some .i64,some .u8,none]
def Q5u:List (Option IntKind):=lgK++[none,some .u64,some .u64,some .i64,some .u8,none]
def lgE9:Shape:=⟨[(0,lgA),(2,.s 8),(3,.z 0)],[eL 6 7]⟩
def sfE9:SymF:=
 {f:=9,m:=8,ins:=lgK,args:=[lgA],pre:=[eL 6 7],pcs:=lgQ++[.fnb 448 lgF,.q .leq (.i 1) (.z 1000)],G:=[.sop (.fs 512) lgF],v:=.tuple [.s 8,.z 0],post:=[eL 6 7]}
def Qng:List SDef:=[.q .leq (.z 0) (.i 1),
 .q .leq (.i 1) (.i 7),
 .q .leq (.i 7) (.z 1000000),
 .fnb 448 [.w 0,.s 6,.i 1,.i 2,.u 3,.u 4,.i 5],
 .q .shr (.w 0) (.o 24),
 .conv .u8 (.w 12),
 .q .shr (.w 0) (.o 16),
 .conv .u8 (.w 14),
 .q .shr (.w 0) (.o 8),
 .conv .u8 (.w 16),
 .conv .u8 (.w 0),
 .text [.c 13,.c 15,.c 17,.c 18],
 .text [.int .u8 80,.int .u8 76,.int .u8 1,.c 13,.c 15,.c 17,.c 18]]
def Q4z:LT:=Go.Wbp.fT 8 Qng (.n (.n (.n (.n .e 332 18 .e) 410660 16 (.n .e 810940 14 .e)) 1211220 12 (.n (.n .e 162262213 13 .e) 276146667 10 .e)) 320878263 11 (.n (.n (.n .e 322857727 19 .e) 343383805 8 (.n .e 357022124 9 .e)) 368262831 15 (.n (.n .e 574263449 17 .e) 750062434 20 .e)))
def Qbh9:Sw:=.x 8 (.x 9 (.x 10 (.x 11 (.run (.leaf .normal lgH9 [(0,0),(1,0),(3,0)] [(0,.w 0),(1,.i 1),(2,.i 2),(3,.u 3),(4,.u 4),(5,.i 5),(13,.s 20),(8,.z 0),(6,.s 6),(7,.i 7),(0,.w 0),(1,.i 1),(2,.i 2),(3,.u 3),(4,.u 4),(5,.i 5),(9,.o 0),(10,.o 0),(11,.z 0),(12,.int .u8 0)] [])))))
def Qbh8:KdT:=kdN 0x3343434000010122114 5 1 0
noncomputable def Q40:Ing:={m:=8,ins:=lgK,G:=Qng,T:=Q4z,tab:=Qa,lsts:=Qs,kb:=21,kt:=Qbh8}
noncomputable def Qvl:Ing:={Q40 with mh:=Qbr (kdX Q40) [sf22]}
theorem Q41:okLT 8 Qng Q4z=true:=by kernel_rfl
theorem Qbia (F:List Fact):Hooks Tryd.prog (cxOf Qvl F):=
  Qcy (l:=[sf22]) rfl rfl rfl rfl rfl Q41 rfl rfl rfl ⟨c22,trivial⟩ F
theorem Qbib:SegOk Tryd.prog Qa 97 ((Qe (Qc Tryd.f9)).take 6) lgS9 Qvl Qbh9:=
  ⟨Q41,by kernel_rfl,Qbia,rfl,by kernel_rfl,by kernel_rfl,rfl,rfl,fun _=>trivial,by kernel_rfl⟩
def Qnh:List SDef:=[.q .lss (.i 8) (.i 1),
 .q .lss (.i 8) (.i 7),
 .sop (.cell [.some .u64,.some .u64,.some .i64,.some .u8] 0) [.s 6,.i 8],
 .sop (.cell [.some .u64,.some .u64,.some .i64,.some .u8] 1) [.s 6,.i 8],
 .sop (.cell [.some .u64,.some .u64,.some .i64,.some .u8] 2) [.s 6,.i 8],
 .sop (.cell [.some .u64,.some .u64,.some .i64,.some .u8] 3) [.s 6,.i 8],
 .conv .u8 (.i 18),
 .text [.c 20],
 .sop .cat [.s 13,.s 21],
 .q .sub (.u 16) (.u 9),
 .sop (.fs 192) [.u 23],
 .sop .cat [.s 22,.s 24],
 .q .sub (.u 17) (.u 10),
 .sop (.fs 192) [.u 26],
 .sop .cat [.s 25,.s 27],
 .text [.c 19],
 .sop .cat [.s 28,.s 29],
 .sop .len [.s 30],
 .q .leq (.i 31) (.z 1000000),
 .q .leq (.z 0) (.i 8),
 .sop .len [.s 22],
 .q .leq (.i 34) (.z 9223372036854775807),
 .sop .len [.s 25],
 .q .leq (.i 36) (.z 9223372036854775807),
 .sop .len [.s 28],
 .q .leq (.i 38) (.z 9223372036854775807),
 .q .leq (.i 31) (.z 9223372036854775807),
 .fn 384 .u8 [.s 30],
 .text [.c 41],
 .sop .cat [.s 30,.s 42],
 .sop .len [.s 43],
 .q .leq (.i 44) (.z 9223372036854775807),
 .q .add (.i 8) (.z 1)]
def Q42:LT:=Go.Wbp.fT 14 Qnh (.n (.n (.n (.n (.n (.n .e 47243474 27 .e) 77644597 14 .e) 78140826 28 (.n .e 151675047 25 .e)) 152608924 45 (.n (.n .e 187891585 43 .e) 196124191 30 (.n .e 216347721 35 .e))) 265527944 29 (.n (.n (.n .e 296914021 22 .e) 381212790 38 (.n .e 392528325 21 .e)) 411250080 23 (.n (.n .e 418348327 37 .e) 452917543 34 (.n .e 542408004 16 .e)))) 542408006 17 (.n (.n (.n (.n (.n .e 542408008 18 .e) 542408010 19 .e) 552670285 32 (.n .e 599375197 33 .e)) 619983798 24 (.n (.n .e 620348933 39 .e) 708941990 41 (.n .e 715225148 31 .e))) 738821821 44 (.n (.n (.n .e 780264067 20 .e) 808062776 46 (.n .e 855603961 26 .e)) 912052672 42 (.n (.n .e 953936080 36 .e) 987088639 40 (.n .e 1064024238 15 .e)))))
def Qbid:Sw:=.n 14 (.x 15 (.x 32 (.x 33 (.x 35 (.x 37 (.x 39 (.x 40 (.x 45 (.run (.leaf .normal lgH9 [(0,0),(1,0),(2,0)] [(0,.w 0),(1,.i 1),(2,.i 2),(3,.u 3),(4,.u 4),(5,.i 5),(13,.s 43),(8,.i 46),(6,.s 6),(7,.i 7),(0,.w 0),(1,.i 1),(2,.i 2),(3,.u 3),(4,.u 4),(5,.i 5),(9,.u 16),(10,.u 17),(11,.i 18),(12,.c 19)] [])))))))))) (.run (.leaf (.exit 0) lgM9 [(0,0),(1,0),(2,0)] [(0,.w 0),(1,.i 1),(2,.i 2),(3,.u 3),(4,.u 4),(5,.i 5),(13,.s 13),(6,.s 6),(7,.i 7),(0,.w 0),(1,.i 1),(2,.i 2),(3,.u 3),(4,.u 4),(5,.i 5),(9,.u 9),(10,.u 10),(11,.i 11),(12,.c 12)] []))
def Qbic:KdT:=kdN 0x10000300000000000000200200331220003122110122114 6 1 0
noncomputable def Q43:Ing:={m:=14,ins:=Qvq,G:=Qnh,T:=Q42,tab:=Qa,lsts:=Qs,kb:=47,kt:=Qbic}
noncomputable def Qq0:Ing:={Q43 with mh:=Qbr (kdX Q43) [sf24,sf11]}
theorem Q44:okLT 14 Qnh Q42=true:=by kernel_rfl
theorem Qbie (F:List Fact):Hooks Tryd.prog (cxOf Qq0 F):=
  Qcy (l:=[sf24,sf11]) rfl rfl rfl rfl rfl Q44 rfl rfl rfl ⟨c24,c11,trivial⟩ F
theorem Qbif:SegOk Tryd.prog Qa 97 ([Qbn (Qc Tryd.f9)]) lgH9 Qq0 Qbid:=
  ⟨Q44,by kernel_rfl,Qbie,rfl,by kernel_rfl,by kernel_rfl,rfl,rfl,fun _=>trivial,by kernel_rfl⟩
def Qni:List SDef:=[.sop .cat [.s 13,.str ⟨#[255]⟩],
 .conv .u64 (.i 2),
 .sop (.fs 192) [.u 15],
 .sop .cat [.s 14,.s 16],
 .q .sub (.u 3) (.u 9),
 .sop (.fs 192) [.u 18],
 .sop .cat [.s 17,.s 19],
 .q .sub (.u 4) (.u 10),
 .sop (.fs 192) [.u 21],
 .sop .cat [.s 20,.s 22],
 .conv .u8 (.i 5),
 .text [.c 24],
 .sop .cat [.s 23,.s 25],
 .sop .len [.s 26],
 .q .leq (.i 27) (.z 1000000),
 .sop .len [.s 14],
 .q .leq (.i 29) (.z 9223372036854775807),
 .sop .len [.s 17],
 .q .leq (.i 31) (.z 9223372036854775807),
 .sop .len [.s 20],
 .q .leq (.i 33) (.z 9223372036854775807),
 .sop .len [.s 23],
 .q .leq (.i 35) (.z 9223372036854775807),
 .q .leq (.i 27) (.z 9223372036854775807),
 .fn 384 .u8 [.s 26],
 .text [.c 38],
 .sop .cat [.s 26,.s 39],
 .sop .len [.s 40],
 .q .leq (.i 41) (.z 9223372036854775807)]
def Q45:LT:=Go.Wbp.fT 14 Qni (.n (.n (.n (.n (.n .e 23857435 14 .e) 47200432 27 (.n .e 94419627 40 .e)) 115347418 34 (.n (.n .e 118905185 33 .e) 127163640 26 (.n .e 148669073 28 .e))) 171987968 18 (.n (.n (.n .e 184922602 38 .e) 190609938 29 (.n .e 200697861 23 .e)) 206000950 15 (.n (.n .e 237803284 41 .e) 274232082 20 .e))) 285982796 22 (.n (.n (.n (.n .e 317348024 36 .e) 347766303 17 (.n .e 357721617 16 .e)) 515001877 24 (.n (.n .e 531051529 39 .e) 583087427 37 (.n .e 616341849 21 .e))) 619923722 35 (.n (.n (.n .e 691628475 31 .e) 785088033 30 (.n .e 858723120 19 .e)) 900529849 25 (.n (.n .e 923349842 42 .e) 987088639 32 .e))))
def Qbih:Sw:=.x 28 (.x 30 (.x 32 (.x 34 (.x 36 (.x 37 (.x 42 (.run (.leaf .ret lgE9 [(0,0)] [(0,.w 0),(1,.i 1),(2,.i 2),(3,.u 3),(4,.u 4),(5,.i 5),(8,.s 40),(6,.s 6),(7,.i 7)] []))))))))
def Qbig:KdT:=kdN 0x300000000000003002002002003122010122114 6 1 0
noncomputable def Q47:Ing:={m:=14,ins:=Q5u,G:=Qni,T:=Q45,tab:=Qa,lsts:=Qs,kb:=43,kt:=Qbig}
noncomputable def Q46:Ing:={Q47 with mh:=Qbr (kdX Q47) [sf24,sf11]}
theorem Q48:okLT 14 Qni Q45=true:=by kernel_rfl
theorem Qbii (F:List Fact):Hooks Tryd.prog (cxOf Q46 F):=
  Qcy (l:=[sf24,sf11]) rfl rfl rfl rfl rfl Q48 rfl rfl rfl ⟨c24,c11,trivial⟩ F
theorem Qbij:SegOk Tryd.prog Qa 97 ((Qe (Qc Tryd.f9)).drop 7) lgM9 Q46 Qbih:=
  ⟨Q48,by kernel_rfl,Qbii,rfl,by kernel_rfl,by kernel_rfl,rfl,rfl,fun _=>trivial,by kernel_rfl⟩
structure M9 (g:Sig) (C:ByteArray) (n N i:Nat) (V:Sig):Prop where
 s:V.s 6=C
 n0:V.i 1=n
 nN:V.i 7=N
 v0:V.i 0=g.i 0
 v2:V.i 2=g.i 2
 v3:V.i 3=g.i 3
 v4:V.i 4=g.i 4
 v5:V.i 5=g.i 5
 r:V.i 9=(Qj zeE C i).r
 b:V.i 10=(Qj zeE C i).b
 k:V.i 11=(Qj zeE C i).k
 v:V.i 12=(Qj zeE C i).v
 c:V.s 13=bs (encI (g.i 0) C i)
 le:n<=N
 hi:i<=n
 sz:N<=1000000
 s1:n<=1000
 xe:V.ext=g.ext
theorem M9.agree {g:Sig} {C:ByteArray} {n N i:Nat} {V U:Sig} (ag:Agree 14 V U) (h:M9 g C n N i V):M9 g C n N i U:=by
  cases h;constructor<;>first|assumption|(simp (disch:=decide) only [ag.iv,ag.bv,ag.sv,ag.xv];assumption)
structure J9 (g:Sig) (C:ByteArray) (n N i:Nat) (V:Sig):Prop where
 m:M9 g C n N i V
 i0:V.i 8=i
theorem J9.agree {g:Sig} {C:ByteArray} {n N i:Nat} {V U:Sig} (ag:Agree 14 V U) (h:J9 g C n N i V):J9 g C n N i U:=
 ⟨h.m.agree ag,by rw [<-(ag.val 8 (by decide)).1];exact h.i0⟩
def L9:Asg:=[(8,.s 8),(6,.s 6),(7,.i 7)]
abbrev Z9 (g:Inj) (w:World):Exit->Act->World->Prop:=bodyPost Tryd.prog Tryd.f9 (MemR Qa sfE9 g w)
theorem cat1 {C D E:ByteArray} {P:List Int} {x b:Int} (hc:C=bs P) (hd:D=bs [b]) (hb:b=x) (he:E=C++D):E=bs (P++[x]):=by
 rw [he,hc,hd,Qdu,hb]
theorem catN {U:Sig} (ht:U.tab=Qa) {C D E:ByteArray} {P:List Int} {x y:Int} (hc:C=bs P) (hd:D=decS (U.tab 192 [y])) (hy:y=x%18446744073709551616) (he:E=C++D):E=bs (P++pbL x):=by
 rw [ht,lg_pb,hy,Qw1] at hd;rw [he,hc,hd,Qdu]
set_option maxHeartbeats 1000000 in
theorem cE9:SymFOk Tryd.prog Qa (fun _=>True) sfE9:=
 Qb5 Tryd.func9 rfl (n:=97) rfl (by decide) (by decide) rfl rfl (by kernel_rfl) (fun g w hg _ hE hI hpc hH=>by
  have q0:=hpc (.bin .leq (.int .i64 0) (.symi .i64 1)) (by simp [sfE9,lgQ]);have q1:=hpc (.bin .leq (.symi .i64 1) (.symi .i64 7)) (by simp [sfE9,lgQ]);have q2:=hpc (.bin .leq (.symi .i64 7) (.int .i64 1000000)) (by simp [sfE9,lgQ]);have q3:=hpc (.bin .leq (.symi .i64 1) (.int .i64 1000)) (by simp [sfE9,lgQ]);have q4:=hpc (.fnb 448 lgF) (by simp [sfE9,lgQ]);simp only [Qb,den,binS,intA,if_true,Option.some.injEq,AVal.bool.injEq,decide_eq_true_eq] at q0 q1 q2 q3;obtain ⟨n,hgn⟩: ∃n:Nat,g.sig.i 1=n:=⟨(g.sig.i 1).toNat,by omega⟩;obtain ⟨N,hgN⟩: ∃n:Nat,g.sig.i 7=n:=⟨(g.sig.i 7).toNat,by omega⟩;have g8:g.sig.s 8=bs (encG (lgG g.sig n)):=by
   have h:g.sig.s 8=decS (g.sig.tab 512 [g.sig.i 0,encB (g.sig.s 6),g.sig.i 1,g.sig.i 2,g.sig.i 3,g.sig.i 4,g.sig.i 5]):=eqFs (hE.at 0 _ rfl rfl);rw [h,hg,hgn,Qnr];rfl
  have hlast:Qf Tryd.prog Qa 97 (Qu g w sfE9.pre.length) (Z9 g w) ((Qe (Qc Tryd.f9)).drop 7) lgM9 14 Q5u (M9 g.sig (g.sig.s 6) n N n):=by
   refine Qf.last mixed Qbij ⟨rfl,rfl⟩ (fun V U ag h=>h.agree ag) (fun U h=>Qv) (fun U e ht hi hj=> ?_) (pin0 (by kernel_rfl));refine Qp ?_;have hs1:=hj.s1;have hlen:=Qje (g.sig.i 0) (g.sig.s 6) n;have F:Facs U 14 Qni:=facs e;dsimp only [Qni,Facs,fac1,facI,facS,facB,oI,oK,oB,oS,nmL,nm,Nat.reduceAdd] at F;obtain ⟨s14,i15,s16,s17,i18,s19,s20,i21,s22,s23,i24,-,s26,i27,b28,i29,b30,i31,b32,i33,b34,i35,b36,b37,i38,-,s40,i41,b42,-⟩:=F;have s25:U.s 25=bs [U.i 24]:=p9.eqText (e.at 11 _ rfl rfl);have s39:U.s 39=bs [U.i 38]:=p9.eqText (e.at 25 _ rfl rfl);have tr: ∀{P:Prop} {b:Bool} [Decidable P],b=decide P->b=false->P->False:=fun hb hf hp=>by rw [hb,decide_eq_false_iff_not] at hf;exact hf hp
   have c1:=cat1 hj.c (rfl:bs [255]=bs [255]) rfl s14;have p1:=Qcc (g.sig.i 2);have p2:=Qcc (g.sig.i 3-(Qj zeE (g.sig.s 6) n).r);have p3:=Qcc (g.sig.i 4-(Qj zeE (g.sig.s 6) n).b);rw [Qg,hj.v2] at i15;rw [Qg,hj.v3,hj.r] at i18;rw [Qg,hj.v4,hj.b] at i21;rw [wr_u8,hj.v5] at i24;have c2:=catN ht c1 s16 i15 s17;have c3:=catN ht c2 s19 i18 s20;have c4:=catN ht c3 s22 i21 s23;have c5:=cat1 c4 s25 i24 s26;have z14:(U.s 14).size<=20000:=by rw [c1,Qbk,List.length_append];simp only [List.length_cons,List.length_nil];omega
   have z17:(U.s 17).size<=20008:=by rw [s17,s16,ht,lg_pb,ByteArray.size_append,Qbk];have:=Qcc (U.i 15);omega
   have z20:(U.s 20).size<=20016:=by rw [s20,s19,ht,lg_pb,ByteArray.size_append,Qbk];have:=Qcc (U.i 18);omega
   have z23:(U.s 23).size<=20024:=by rw [s23,s22,ht,lg_pb,ByteArray.size_append,Qbk];have:=Qcc (U.i 21);omega
   have z26:(U.s 26).size<=20025:=by rw [s26,s25,ByteArray.size_append,Qbk];simp only [List.length_cons,List.length_nil];omega
   have z40:(U.s 40).size<=20026:=by rw [s40,s39,ByteArray.size_append,Qbk];simp only [List.length_cons,List.length_nil];omega
   have eP:encI (g.sig.i 0) (g.sig.s 6) n++[255]++pbL (g.sig.i 2)++pbL (g.sig.i 3-(Qj zeE (g.sig.s 6) n).r)++pbL (g.sig.i 4-(Qj zeE (g.sig.s 6) n).b)++[g.sig.i 5%256]=encI (g.sig.i 0) (g.sig.s 6) n++finB (Qj zeE (g.sig.s 6) n) (lgG g.sig n):=by
    simp only [finB,lgG,List.append_assoc]
   rw [eP] at c5;have hby:=(Qpm (g.sig.i 0) (g.sig.s 6) n).app (Q0x (Qj zeE (g.sig.s 6) n) (lgG g.sig n));have hsum:=Qd5 (encI (g.sig.i 0) (g.sig.s 6) n++finB (Qj zeE (g.sig.s 6) n) (lgG g.sig n));rw [ht,c5,Qff,Qoj hby,wr_u8] at i38;have c6:=cat1 c5 s39 (show U.i 38=sumL (encI (g.sig.i 0) (g.sig.s 6) n++finB (Qj zeE (g.sig.s 6) n) (lgG g.sig n)) by omega) s40;have fin:EndZ Qa 97 (Qu g w sfE9.pre.length) (Z9 g w) .ret lgE9 (asgS U ([(0,.symi .u32 0),(1,.symi .i64 1),(2,.symi .i64 2),(3,.symi .u64 3),(4,.symi .u64 4),(5,.symi .i64 5),(8,.syms 40),(6,.syms 6),(7,.symi .i64 7)]++[])):=by
    refine Qb8 (M:=9) (l:=L9) (vs:=[.syms 8,.int .i64 0]) (by kernel_rfl) rfl rfl hH hg rfl rfl rfl (by kernel_rfl) (by kernel_rfl) ⟨?_,congrArg AVal.str hj.s,congrArg (AVal.int .i64) (hj.nN.trans hgN.symm),trivial⟩ (by decide) (extS hj.xe) (.inl rfl);show AVal.str (U.s 40)=AVal.str (g.sig.s 8);rw [c6,g8];show _=AVal.str (bs (encG ⟨g.sig.i 0,lstE (g.sig.s 6) n,g.sig.i 2,g.sig.i 3,g.sig.i 4,g.sig.i 5⟩));rw [Q0a];rfl
   exact ⟨fun f28=>⟨fun f30=>⟨fun f32=>⟨fun f34=>⟨fun f36=>⟨fun f37=>⟨fun f42=>fin,fun f=>tr b42 f (by omega)⟩,fun f=>tr b37 f (by omega)⟩,fun f=>tr b36 f (by omega)⟩,fun f=>tr b34 f (by omega)⟩,fun f=>tr b32 f (by omega)⟩,fun f=>tr b30 f (by omega)⟩,fun f=>tr b28 f (by omega)⟩
  rw [show Qe (Qc Tryd.f9)=(Qe (Qc Tryd.f9)).take 6++(.block (idOf (Qc Tryd.f9)) (.loop (Qbn (Qc Tryd.f9)))::(Qe (Qc Tryd.f9)).drop 7) from rfl];have hloop:Qf Tryd.prog Qa 97 (Qu g w sfE9.pre.length) (Z9 g w) (.block (idOf (Qc Tryd.f9)) (.loop (Qbn (Qc Tryd.f9)))::(Qe (Qc Tryd.f9)).drop 7) lgH9 14 Qvq (fun V=> ∃i,J9 g.sig (g.sig.s 6) n N i V):=by
   refine Qf.loop (μ:=fun V=>(V.i 1-V.i 8).toNat) mixed Qbif ⟨rfl,rfl⟩ (fun V U ag h=>let ⟨i,hi⟩:=h;⟨i,hi.agree ag⟩) (fun V U ag=>by rw [(ag.val 1 (by decide)).1,(ag.val 8 (by decide)).1]) (fun U h=>Qv) hlast (fun U e ht hi hj=> ?_) (pin0 (by kernel_rfl));obtain ⟨i,⟨hj,hi0⟩⟩:=hj;refine Qp ?_;have hn0:=hj.n0;have hnN:=hj.nN;have hle:=hj.le;have hhi:=hj.hi;have hsz:=hj.sz;have hs1:=hj.s1;have hlen:=Qje (g.sig.i 0) (g.sig.s 6) i;have F:Facs U 14 Qnh:=facs e;dsimp only [Qnh,Facs,fac1,facI,facS,facB,oI,oK,oB,oS,nmL,nm,Nat.reduceAdd] at F;obtain ⟨b14,b15,-,-,-,-,i20,-,s22,i23,s24,s25,i26,s27,s28,-,s30,i31,b32,b33,i34,b35,i36,b37,i38,b39,b40,i41,-,s43,i44,b45,i46,-⟩:=F;have i16:U.i 16=(rowE (U.s 6) (U.i 8:Int).toNat).r:=Qbl (e.at 2 _ rfl rfl) rfl;have i17:U.i 17=(rowE (U.s 6) (U.i 8:Int).toNat).b:=Qbl (e.at 3 _ rfl rfl) rfl;have i18:U.i 18=(rowE (U.s 6) (U.i 8:Int).toNat).k:=Qbl (e.at 4 _ rfl rfl) rfl;have i19:U.i 19=(rowE (U.s 6) (U.i 8:Int).toNat).v:=Qbl (e.at 5 _ rfl rfl) rfl;have s21:U.s 21=bs [U.i 20]:=p9.eqText (e.at 7 _ rfl rfl);have s29:U.s 29=bs [U.i 19]:=p9.eqText (e.at 15 _ rfl rfl);have s42:U.s 42=bs [U.i 41]:=p9.eqText (e.at 28 _ rfl rfl);have tr: ∀{P:Prop} {b:Bool} [Decidable P],b=decide P->b=false->P->False:=fun hb hf hp=>by rw [hb,decide_eq_false_iff_not] at hf;exact hf hp
   refine ⟨fun f14=> ?_,fun f14=> ?_⟩;rw [b14,decide_eq_true_eq] at f14;have hlt:i<n:=by omega
   rw [hj.s,hi0,Int.toNat_natCast] at i16 i17 i18 i19;rw [wr_u8,i18] at i20;rw [Qg,i16,hj.r] at i23;rw [Qg,i17,hj.b] at i26;have c1:=cat1 hj.c s21 i20 s22;have c2:=catN ht c1 s24 i23 s25;have c3:=catN ht c2 s27 i26 s28;have hv:=(Q8f (g.sig.s 6) i).2.2.2;rw [wr_u8] at hv;have c4:=cat1 c3 s29 (show U.i 19=(rowE (g.sig.s 6) i).v%256 by rw [i19];omega) s30;have z22:(U.s 22).size<=20000:=by rw [c1,Qbk,List.length_append];simp only [List.length_cons,List.length_nil];omega
   have z25:(U.s 25).size<=20008:=by rw [s25,s24,ht,lg_pb,ByteArray.size_append,Qbk];have:=Qcc (U.i 23);omega
   have z28:(U.s 28).size<=20016:=by rw [s28,s27,ht,lg_pb,ByteArray.size_append,Qbk];have:=Qcc (U.i 26);omega
   have z30:(U.s 30).size<=20017:=by rw [s30,s29,ByteArray.size_append,Qbk];simp only [List.length_cons,List.length_nil];omega
   have z43:(U.s 43).size<=20018:=by rw [s43,s42,ByteArray.size_append,Qbk];simp only [List.length_cons,List.length_nil];omega
   have eP:encI (g.sig.i 0) (g.sig.s 6) i++[(rowE (g.sig.s 6) i).k%256]++pbL ((rowE (g.sig.s 6) i).r-(Qj zeE (g.sig.s 6) i).r)++pbL ((rowE (g.sig.s 6) i).b-(Qj zeE (g.sig.s 6) i).b)++[(rowE (g.sig.s 6) i).v%256]=encI (g.sig.i 0) (g.sig.s 6) i++entB (Qj zeE (g.sig.s 6) i) (rowE (g.sig.s 6) i):=by
    simp only [entB,List.append_assoc]
   rw [eP] at c4;have hby:=(Qpm (g.sig.i 0) (g.sig.s 6) i).app (Qt7 (Qj zeE (g.sig.s 6) i) (rowE (g.sig.s 6) i));have hsum:=Qd5 (encI (g.sig.i 0) (g.sig.s 6) i++entB (Qj zeE (g.sig.s 6) i) (rowE (g.sig.s 6) i));rw [ht,c4,Qff,Qoj hby,wr_u8] at i41;have c5:=cat1 c4 s42 (show U.i 41=sumL (encI (g.sig.i 0) (g.sig.s 6) i++entB (Qj zeE (g.sig.s 6) i) (rowE (g.sig.s 6) i)) by omega) s43;rw [<-Qpn] at c5;rw [Qh] at i46
   have fin:(SEx.normal=.normal/\lgH9=lgH9/\Qx (asgS U ([(0,.symi .u32 0),(1,.symi .i64 1),(2,.symi .i64 2),(3,.symi .u64 3),(4,.symi .u64 4),(5,.symi .i64 5),(13,.syms 43),(8,.symi .i64 46),(6,.syms 6),(7,.symi .i64 7),(0,.symi .u32 0),(1,.symi .i64 1),(2,.symi .i64 2),(3,.symi .u64 3),(4,.symi .u64 4),(5,.symi .i64 5),(9,.symi .u64 16),(10,.symi .u64 17),(11,.symi .i64 18),(12,.symi .u8 19)]++[])) 14 Qvq/\(∃i,J9 g.sig (g.sig.s 6) n N i (asgS U ([(0,.symi .u32 0),(1,.symi .i64 1),(2,.symi .i64 2),(3,.symi .u64 3),(4,.symi .u64 4),(5,.symi .i64 5),(13,.syms 43),(8,.symi .i64 46),(6,.syms 6),(7,.symi .i64 7),(0,.symi .u32 0),(1,.symi .i64 1),(2,.symi .i64 2),(3,.symi .u64 3),(4,.symi .u64 4),(5,.symi .i64 5),(9,.symi .u64 16),(10,.symi .u64 17),(11,.symi .i64 18),(12,.symi .u8 19)]++[])))/\(asgS U ([(0,.symi .u32 0),(1,.symi .i64 1),(2,.symi .i64 2),(3,.symi .u64 3),(4,.symi .u64 4),(5,.symi .i64 5),(13,.syms 43),(8,.symi .i64 46),(6,.syms 6),(7,.symi .i64 7),(0,.symi .u32 0),(1,.symi .i64 1),(2,.symi .i64 2),(3,.symi .u64 3),(4,.symi .u64 4),(5,.symi .i64 5),(9,.symi .u64 16),(10,.symi .u64 17),(11,.symi .i64 18),(12,.symi .u8 19)]++[])).tab=Qa/\((asgS U ([(0,.symi .u32 0),(1,.symi .i64 1),(2,.symi .i64 2),(3,.symi .u64 3),(4,.symi .u64 4),(5,.symi .i64 5),(13,.syms 43),(8,.symi .i64 46),(6,.syms 6),(7,.symi .i64 7),(0,.symi .u32 0),(1,.symi .i64 1),(2,.symi .i64 2),(3,.symi .u64 3),(4,.symi .u64 4),(5,.symi .i64 5),(9,.symi .u64 16),(10,.symi .u64 17),(11,.symi .i64 18),(12,.symi .u8 19)]++[])).i 1-(asgS U ([(0,.symi .u32 0),(1,.symi .i64 1),(2,.symi .i64 2),(3,.symi .u64 3),(4,.symi .u64 4),(5,.symi .i64 5),(13,.syms 43),(8,.symi .i64 46),(6,.syms 6),(7,.symi .i64 7),(0,.symi .u32 0),(1,.symi .i64 1),(2,.symi .i64 2),(3,.symi .u64 3),(4,.symi .u64 4),(5,.symi .i64 5),(9,.symi .u64 16),(10,.symi .u64 17),(11,.symi .i64 18),(12,.symi .u8 19)]++[])).i 8).toNat<(U.i 1-U.i 8).toNat):=by
    refine ⟨rfl,rfl,insK (X:=Qq0) e hi,⟨i+1,⟨⟨hj.s,hj.n0,hj.nN,hj.v0,hj.v2,hj.v3,hj.v4,hj.v5,i16,i17,i18,i19,c5,hle,hlt,hsz,hs1,extS hj.xe⟩,?_⟩⟩,tabS ht,?_⟩;show U.i 46=_;omega;show (U.i 1-U.i 46).toNat<(U.i 1-U.i 8).toNat;omega
   exact ⟨fun f15=>⟨fun f32=>⟨fun f33=>⟨fun f35=>⟨fun f37=>⟨fun f39=>⟨fun f40=>⟨fun f45=> .inl fin,fun f=>tr b45 f (by omega)⟩,fun f=>tr b40 f (by omega)⟩,fun f=>tr b39 f (by omega)⟩,fun f=>tr b37 f (by omega)⟩,fun f=>tr b35 f (by omega)⟩,fun f=>tr b33 f (by omega)⟩,fun f=>tr b32 f (by omega)⟩,fun f=>tr b15 f (by omega)⟩;rw [b14,decide_eq_false_iff_not] at f14;obtain rfl:i=n:=by omega
   exact .inr (.inl ⟨rfl,rfl,insK (X:=Qq0) e hi,⟨hj.s,hj.n0,hj.nN,hj.v0,hj.v2,hj.v3,hj.v4,hj.v5,hj.r,hj.b,hj.k,hj.v,hj.c,hle,hhi,hsz,hs1,extS hj.xe⟩,tabS ht⟩)
  refine Qf.seg mixed Qbib ⟨rfl,rfl⟩ (fun V U (ag:Agree 8 V U) (h:Agree 8 g.sig V)=>h.trans' ag) (fun U h=>Qv) hloop (fun U e ht hi ag=> ?_) (pin0 (by kernel_rfl));refine Qp ?_;have a:=fun i h=>(ag.val i h).1.symm;have a0:=a 0 (by decide);have a1:=a 1 (by decide);have a2:=a 2 (by decide);have a3:=a 3 (by decide);have a4:=a 4 (by decide);have a5:=a 5 (by decide);have a7:=a 7 (by decide);have a6:U.s 6=g.sig.s 6:=(ag.val 6 (by decide)).2.2.symm;have w0:=hi 0 .u32 (by decide) rfl;rw [Qd7] at w0;have F:Facs U 8 Qng:=facs e;dsimp only [Qng,Facs,fac1,facI,facS,facB,oI,oK,oB,oS,nmL,nm,Nat.reduceAdd] at F;obtain ⟨b8,b9,b10,b11,-,i13,-,i15,-,i17,i18,-⟩:=F;have i12:U.i 12=U.i 0/16777216:=(eqI (x:=(U.i 0:Int).fdiv (2^(min (24:Int).toNat IntKind.u32.bits))) (e.at 4 _ rfl rfl) rfl).trans (by rw [show (2:Int)^(min (24:Int).toNat IntKind.u32.bits)=16777216 by decide];exact Qbf (by decide));have i14:U.i 14=U.i 0/65536:=(eqI (x:=(U.i 0:Int).fdiv (2^(min (16:Int).toNat IntKind.u32.bits))) (e.at 6 _ rfl rfl) rfl).trans (by rw [show (2:Int)^(min (16:Int).toNat IntKind.u32.bits)=65536 by decide];exact Qbf (by decide));have i16:U.i 16=U.i 0/256:=(eqI (x:=(U.i 0:Int).fdiv (2^(min (8:Int).toNat IntKind.u32.bits))) (e.at 8 _ rfl rfl) rfl).trans (by rw [show (2:Int)^(min (8:Int).toNat IntKind.u32.bits)=256 by decide];exact Qbf (by decide));have s19:U.s 19=bs [U.i 13,U.i 15,U.i 17,U.i 18]:=p9.eqText (e.at 11 _ rfl rfl)
  have s20:U.s 20=bs [80,76,1,U.i 13,U.i 15,U.i 17,U.i 18]:=p9.eqText (e.at 12 _ rfl rfl);have tr: ∀{P:Prop} {b:Bool} [Decidable P],b=decide P->b=false->P->False:=fun hb hf hp=>by rw [hb,decide_eq_false_iff_not] at hf;exact hf hp
  rw [wr_u8] at i13 i15 i17 i18;have hq:(!(g.sig.tab 448 [g.sig.i 0,encB (g.sig.s 6),g.sig.i 1,g.sig.i 2,g.sig.i 3,g.sig.i 4,g.sig.i 5]==0))=true:=by
   simp only [lgF,Qb,List.map,den,numS,Option.some.injEq,AVal.bool.injEq] at q4;exact q4
  have f11:U.b 11=true:=by rw [b11,a0,a1,a2,a3,a4,a5,a6,ht,<-hg];exact hq
  have hb:U.s 20=bs (encI (g.sig.i 0) (g.sig.s 6) 0):=by
   rw [s20];show _=bs (head (g.sig.i 0));unfold head;rw [show U.i 13=g.sig.i 0/16777216%256 by omega,show U.i 15=g.sig.i 0/65536%256 by omega,show U.i 17=g.sig.i 0/256%256 by omega,show U.i 18=g.sig.i 0%256 by omega]
  exact ⟨fun f8=>⟨fun f9=>⟨fun f10=>⟨fun f11=> .inl ⟨rfl,rfl,insK (X:=Qvl) e hi,⟨0,⟨⟨a6,a1.trans hgn,a7.trans hgN,a0,a2,a3,a4,a5,rfl,rfl,rfl,rfl,hb,by omega,Nat.zero_le _,by omega,by omega,extS ag.ext.symm⟩,rfl⟩⟩,tabS ht⟩,fun f=>by rw [f11] at f;cases f⟩,fun f=>tr b10 f (by omega)⟩,fun f=>tr b9 f (by omega)⟩,fun f=>tr b8 f (by omega)⟩)
end Go.Proofs.YtelimhjceiamcaaDoor.lg
