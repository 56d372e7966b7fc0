/-
 Contract of drafted, of a row: a log of drafts.
 No conditions.
-/
import Derived.Test.YtelimhjceiamcaaDoorTLg15
import Derived.Test.YtelimhjceiamcaaDoorTEv8
set_option maxRecDepth 100000
namespace Go.Proofs.YtelimhjceiamcaaDoor.lg
open Go.Ev Go.RowKit Go.Wbp Go.Lgp
open Go.Proofs.YtelimhjceiamcaaDoor.lgn (mixed sf48 Qbu)
set_option linter.unusedVariables false
set_option linter.unusedSimpArgs false
def lgD:List AVal:=[.symi .u16 2,.symi .u16 3,.c 4,.c 5]
def lgZ:List AVal:=[.int .u32 0,.nilslice,.z 0,.o 0,.o 0,.z 0]
def Q5l:List (Option IntKind):=[some .u32,some .i64,some .u16,some .u16,some .u8,some .u8,none]
def Qbi4:Shape:=⟨argT 0 [.w 0,.row 0,.agg lgD],[]⟩
def Q50:List (Nat×AVal):=[(1,.row 0),(5,.ptr 0 0),(6,.ptr 1 0),(7,.ptr 2 0),(8,.ptr 3 0)]
def Q5f:List Blk:=[.cells lgD 33,.cells lgZ 26,.cells [.symi .u32 8,.lsl 4 4 true (.int .i64 0) (.symi .i64 14),.symi .i64 15,.int .u64 0,.int .u64 0,.symi .i64 16] 26,.cells [.symi .u64 9,.symi .u64 10,.symi .i64 11,.symi .u8 12] 61,.lst (.syms 13) (.symi .i64 14) cl4 61]
def Qf7:Shape:=⟨Q50++[(9,.i 0)],Q5f⟩
def Qno:Shape:=⟨Q50,Q5f⟩
def Qj4:List (Option IntKind):=[some .i64,some .i64,some .u16,some .u16,some .u8,some .u8,none,none,some .u32,some .u64,some .u64,some .i64,some .u8,none,some .i64,some .i64,some .i64]
def Q5t:List (Option IntKind):=[none,none,some .u16,some .u16,some .u8,some .u8,none,none,some .u32,some .u64,some .u64,some .i64,some .u8,none,some .i64,some .i64,some .i64]
def Qbiu:Shape:=⟨[(6,.ptr 1 0)],[.lst (.s 7) (.i 8) cl4 61,.cells [.w 0,.lsl 0 4 true (.z 0) (.i 8),.i 10,.u 11,.u 12,.i 14] 26]⟩
def sf8r:SymF:=
 {f:=8,m:=7,ins:=Q5l,args:=[.w 0,.row 0,.agg lgD],pre:=[],pcs:=[],xs:=[.i 1,.s 6],
  G:=[.sop (.fs 640) [.s 6,.i 1],.fn 641 .i64 [.s 6,.i 1],.conv .i64 (.symi .u16 2),.q .mul (.i 9) (.z 100),.fn 642 .u64 [.s 6,.i 1,.symi .u16 2,.symi .u16 3],.fn 643 .u64 [.s 6,.i 1,.symi .u16 2,.symi .u16 3],.conv .i64 (.c 4),.q .rem (.i 13) (.z 7)],
  v:=.agg [.w 0,.lsl 0 4 true (.z 0) (.i 8),.i 10,.u 11,.u 12,.i 14],post:=[.lst (.s 7) (.i 8) cl4 61,.cells [.w 0,.lsl 0 4 true (.z 0) (.i 8),.i 10,.u 11,.u 12,.i 14] 26]}
def Qnc:List SDef:=[.conv .i64 (.symi .u16 2),
 .q .mul (.i 7) (.z 100),
 .conv .i64 (.c 4),
 .q .rem (.i 9) (.z 7)]
def Q4v:LT:=Go.Wbp.fT 7 Qnc (.n (.n (.n .e 206000950 7 .e) 412001568 9 .e) 712015952 8 (.n .e 909363317 10 .e))
def Qbhw:Sw:=.run (.leaf .normal Qf7 [(0,0),(1,0),(2,0),(3,0),(1000004,0)] [(0,.z 0),(2,.symi .u16 2),(3,.symi .u16 3),(4,.c 4),(5,.c 5),(8,.w 0),(14,.z 0),(15,.i 8),(16,.i 10),(9,.o 0),(10,.o 0),(11,.z (-1)),(12,.int .u8 0),(13,.str ⟨#[]⟩),(14,.z 0)] [(1,.i 1)])
def Qbhv:KdT:=kdN 0x11110335514 4 1 0
noncomputable def Q4w:Ing:={m:=7,ins:=Q5l,G:=Qnc,T:=Q4v,tab:=Qa,lsts:=Qs,kb:=11,kt:=Qbhv,rows:=[⟨.symi .i64 1,[]⟩]}
theorem Qbhx:okLT 7 Qnc Q4v=true:=by kernel_rfl
theorem Qbhy:SegOk Tryd.prog Qa 116 ((Qe (Qc Tryd.f8)).take 4) Qbi4 Q4w Qbhw:=
  ⟨Qbhx,by kernel_rfl,fun F=>Qbw rfl F,rfl,by kernel_rfl,by kernel_rfl,rfl,rfl,fun _=>trivial,by kernel_rfl⟩
def Qnd:List SDef:=[.q .lss (.i 0) (.i 1),
 .q .lss (.i 0) (.z 60),
 .q .eql (.symi .u16 17) (.int .u16 0),
 .q .rem (.c 19) (.int .u8 3),
 .conv .i64 (.c 24),
 .q .leq (.i 25) (.i 11),
 .conv .u64 (.symi .u16 17),
 .q .add (.u 9) (.u 27),
 .q .add (.u 28) (.o 1),
 .q .gtr (.u 28) (.u 9),
 .q .gtr (.u 29) (.u 9),
 .q .leq (.z 0) (.i 0),
 .conv .u64 (.symi .u16 18),
 .q .add (.u 10) (.u 33),
 .low [.u 29,.u 34],
 .sop (.row [.some .u64,.some .u64,.some .i64,.some .u8]) [.u 29,.u 35,.i 25,.c 20],
 .sop .cat [.s 13,.s 36],
 .q .add (.i 14) (.z 1),
 .q .leq (.z 0) (.i 38),
 .q .leq (.i 38) (.z 4398046511104),
 .q .add (.i 0) (.z 1),
 .low [.u 28,.u 34],
 .sop (.row [.some .u64,.some .u64,.some .i64,.some .u8]) [.u 28,.u 42,.i 25,.c 20],
 .sop .cat [.s 13,.s 43],
 .sop (.row [.some .u64,.some .u64,.some .i64,.some .u8]) [.u 28,.u 10,.i 25,.c 20],
 .sop .cat [.s 13,.s 45]]
def Q4x:LT:=Go.Wbp.fT 21 Qnd (.n (.n (.n (.n (.n .e 30227 32 .e) 60352 41 (.n .e 1966368 40 .e)) 3012508 22 (.n (.n .e 52213784 45 .e) 162564267 39 .e)) 324524094 25 (.n (.n (.n .e 340322767 38 .e) 343384000 21 (.n .e 360469418 43 .e)) 378494437 44 (.n (.n .e 515903221 28 .e) 529541338 34 .e))) 549511987 30 (.n (.n (.n (.n .e 643273718 23 .e) 645375712 37 (.n .e 650512290 31 .e)) 677263758 27 (.n (.n .e 680585182 29 .e) 780264067 33 .e)) 795583320 36 (.n (.n (.n .e 845424380 24 .e) 884084961 42 .e) 933218227 26 (.n (.n .e 991085282 35 .e) 1069201092 46 .e))))
def Qbh0:Sw:=.n 21 (.n 22 (.n 23 (.n 26 (.x 31 (.x 32 (.run (.node 39 (.node 40 (.leaf .normal Qf7 [(0,0),(1,0),(2,0),(3,0),(7,0)] [(0,.i 41),(2,.symi .u16 2),(3,.symi .u16 3),(4,.c 4),(5,.c 5),(8,.w 8),(14,.i 38),(15,.i 15),(16,.i 16),(9,.u 29),(10,.u 35),(11,.i 25),(12,.c 20),(13,.s 37),(14,.i 38)] [(1,.i 1)]) (.dead)) (.dead))))) (.x 32 (.run (.node 30 (.dead) (.node 39 (.node 40 (.leaf .normal Qf7 [(0,0),(1,0),(2,0),(3,0),(7,0)] [(0,.i 41),(2,.symi .u16 2),(3,.symi .u16 3),(4,.c 4),(5,.c 5),(8,.w 8),(14,.i 38),(15,.i 15),(16,.i 16),(9,.u 28),(10,.u 10),(11,.i 25),(12,.c 20),(13,.s 46),(14,.i 38)] [(1,.i 1)]) (.dead)) (.dead)))))) (.x 30 (.x 32 (.run (.node 39 (.node 40 (.leaf .normal Qf7 [(0,0),(1,0),(2,0),(3,0),(7,0)] [(0,.i 41),(2,.symi .u16 2),(3,.symi .u16 3),(4,.c 4),(5,.c 5),(8,.w 8),(14,.i 38),(15,.i 15),(16,.i 16),(9,.u 28),(10,.u 42),(11,.i 25),(12,.c 20),(13,.s 44),(14,.i 38)] [(1,.i 1)]) (.dead)) (.dead)))))) (.run (.leaf (.exit 0) Qno [(0,0),(1,0),(2,0),(3,0),(4,0)] [(2,.symi .u16 2),(3,.symi .u16 3),(4,.c 4),(5,.c 5),(8,.w 8),(14,.i 14),(15,.i 15),(16,.i 16),(9,.u 9),(10,.u 10),(11,.i 11),(12,.c 12),(13,.s 13),(14,.i 14)] []))) (.run (.leaf (.exit 0) Qno [(0,0),(1,0),(2,0),(3,0),(4,0)] [(2,.symi .u16 2),(3,.symi .u16 3),(4,.c 4),(5,.c 5),(8,.w 8),(14,.i 14),(15,.i 15),(16,.i 16),(9,.u 9),(10,.u 10),(11,.i 11),(12,.c 12),(13,.s 13),(14,.i 14)] []))
def Qbhz:KdT:=kdN 0x2100100222000222013000335511103122400335511 6 1 0
noncomputable def Qne:Ing:={m:=21,ins:=(Qj4++[some .u16,some .u16,some .u8,some .u8]),G:=Qnd,T:=Q4x,tab:=Qa,lsts:=Qs,kb:=47,kt:=Qbhz,rows:=[⟨.symi .i64 1,[(.symi .i64 0,Qdx 17 [.i .u16,.i .u16,.i .u8,.i .u8])]⟩]}
theorem Qbh1:okLT 21 Qnd Q4x=true:=by kernel_rfl
theorem Qbh2:SegOk Tryd.prog Qa 116 ([Qbn (Qc Tryd.f8)]) Qf7 Qne Qbh0:=
  ⟨Qbh1,by kernel_rfl,fun F=>Qbw rfl F,rfl,by kernel_rfl,by kernel_rfl,rfl,rfl,fun _=>trivial,by kernel_rfl⟩
def Qnf:List SDef:=[.conv .u64 (.symi .u16 2),
 .q .add (.u 9) (.u 17),
 .conv .u64 (.symi .u16 3),
 .q .add (.u 10) (.u 19),
 .low [.u 18,.u 20]]
def Q4y:LT:=Go.Wbp.fT 17 Qnf (.n (.n (.n .e 17558554 20 .e) 206000950 17 .e) 303592922 18 (.n (.n .e 309001259 19 .e) 620582825 21 .e))
def Qbh4:Sw:=.run (.leaf .ret Qbiu [(4,0),(1,0)] [(7,.s 13),(8,.i 14),(0,.w 8),(8,.i 14),(10,.i 15),(11,.u 18),(12,.u 21),(14,.i 16)] [])
def Qbh3:KdT:=kdN 0x2222211103122400335500 5 1 0
noncomputable def Qbh5:Ing:={m:=17,ins:=Q5t,G:=Qnf,T:=Q4y,tab:=Qa,lsts:=Qs,kb:=22,kt:=Qbh3}
theorem Qbh6:okLT 17 Qnf Q4y=true:=by kernel_rfl
theorem Qbh7:SegOk Tryd.prog Qa 116 ((Qe (Qc Tryd.f8)).drop 5) Qno Qbh5 Qbh4:=
  ⟨Qbh6,by kernel_rfl,fun F=>Qbw rfl F,rfl,by kernel_rfl,by kernel_rfl,rfl,rfl,fun _=>trivial,by kernel_rfl⟩
structure M8 (g:Sig) (C:ByteArray) (i:Nat) (V:Sig):Prop where
 v8:V.i 8=g.i 0
 v2:V.i 2=g.i 2
 v3:V.i 3=g.i 3
 v4:V.i 4=g.i 4
 v5:V.i 5=g.i 5
 r:V.i 9=(Qk noE (draL C i)).r
 b:V.i 10=(Qk noE (draL C i)).b
 k:V.i 11=(Qk noE (draL C i)).k
 v:V.i 12=(Qk noE (draL C i)).v
 c:V.s 13=Lgp.encL (draL C i)
 m:V.i 14=(i:Nat)
 cy:V.i 15=g.i 2*100
 ou:V.i 16=g.i 4%7
 h60:i<=60
theorem M8.agree {g:Sig} {C:ByteArray} {i:Nat} {V U:Sig} (ag:Agree 17 V U) (h:M8 g C i V):M8 g C i U:=by
  cases h;constructor<;>first|assumption|(simp (disch:=decide) only [ag.iv,ag.bv,ag.sv,ag.xv];assumption)
def d4:List Cl:=[.i .u16,.i .u16,.i .u8,.i .u8]
structure Inv8 (E:Nat->Option Fz) (X:Fz) (V:Sig):Prop where
 ext:V.ext=E
 len:V.i 1=X.len
 str:StrX V (.syms 6) cl4d X
theorem Q8g {X:Fz} {V:Sig} {k:Nat} {E:Nat->Option Fz} (he:V.ext=E) (hE0: ∀Y,E 0=some Y->Y=X) (hk:V.i k=X.len):Qd8 V [⟨.symi .i64 k,[]⟩]:=by
 intro i r Y hr hY;have hr0:i=0:=by
  cases i with
  |zero=>rfl
  |succ i=>simp at hr
 subst hr0;rw [he] at hY;have:=hE0 Y hY;subst this;simp only [List.getElem?_cons_zero,Option.some.injEq] at hr;subst hr;exact ⟨by show AVal.int .i64 _=_;rw [hk],fun p hp=>by cases hp⟩
def L8:Asg:=[(0,.w 0),(8,.i 8),(10,.i 10),(11,.u 11),(12,.u 12),(14,.i 14),(7,.s 7),(8,.i 8),(0,.w 0),(8,.i 8),(10,.i 10),(11,.u 11),(12,.u 12),(14,.i 14)]
abbrev Z8 (g:Inj) (w:World):Exit->Act->World->Prop:=bodyPost Tryd.prog Tryd.f8 (MemR Qa sf8r g w)
theorem go8 {g:Sig} {C:ByteArray} {i:Nat} {U:Sig} {rr bb ss:Nat} (hj:M8 g C i U) (h6:i<60) (h38:U.i 38=((i+1:Nat):Int)) (hr:U.i rr=(Qc3 (Qk noE (draL C i)) (rowD C i)).r) (hb:U.i bb=(Qc3 (Qk noE (draL C i)) (rowD C i)).b) (hk:U.i 25=(rowD C i).k%3) (hv:U.i 20=(rowD C i).v)
  (hs:U.s ss=U.s 13++encX ⟨U.i rr,U.i bb,U.i 25,U.i 20⟩):M8 g C (i+1) (asgS U ([(0,.symi .i64 41),(2,.symi .u16 2),(3,.symi .u16 3),(4,.symi .u8 4),(5,.symi .u8 5),(8,.symi .u32 8),(14,.symi .i64 38),(15,.symi .i64 15),(16,.symi .i64 16),(9,.symi .u64 rr),(10,.symi .u64 bb),(11,.symi .i64 25),(12,.symi .u8 20),(13,.syms ss),(14,.symi .i64 38)]++[(1,.symi .i64 1)])):=by
 have e:Qk noE (draL C (i+1))=Qc3 (Qk noE (draL C i)) (rowD C i):=by rw [draL,Qju]
 refine ⟨hj.v8,hj.v2,hj.v3,hj.v4,hj.v5,?_,?_,?_,?_,?_,h38,hj.cy,hj.ou,h6⟩;rw [e];exact hr;rw [e];exact hb;rw [e];exact hk;rw [e];exact hv;show U.s ss=_;rw [hs,hj.c,draL,Lgp.encL_snoc,hr,hb,hk,hv];rfl
theorem dst1 {a:En} {d:Dr} (h:d.m=0) (hk:d.k%3<=a.k):(Qc3 a d).r=a.r+1/\(Qc3 a d).b=min (a.r+1) (a.b+d.t):=by
 unfold Qc3;simp only [h,hk,and_self,if_true];rw [if_pos (by omega)];exact ⟨by omega,by rw [Int.add_zero]⟩
theorem dst2 {a:En} {d:Dr} (h:d.m=0) (hk: ¬d.k%3<=a.k):(Qc3 a d).r=a.r/\(Qc3 a d).b=a.b:=by
 unfold Qc3;simp only [h,hk,and_false,if_false];rw [if_neg (by omega)];exact ⟨by omega,rfl⟩
theorem dst3 {a:En} {d:Dr} (h: ¬d.m=0) (h0:0<=d.m):(Qc3 a d).r=a.r+d.m/\(Qc3 a d).b=min (a.r+d.m) (a.b+d.t):=by
 unfold Qc3;simp only [h,false_and,if_false,true_and];rw [if_pos (by omega)]
set_option maxHeartbeats 1000000 in
theorem c8r {E:Nat->Option Fz} {WX:World} {vX:Value} {X:Fz} (hX:RowV WX d4 vX X) (hE0: ∀Y,E 0=some Y->Y=X):SymFOk Tryd.prog Qa (Inv8 E X) sf8r:=
 Qb5 Tryd.func8 rfl (n:=116) rfl (by decide) (by decide) rfl rfl (by kernel_rfl) (fun g w hg hv0 hE hI hpc hH=>by
  obtain ⟨hvx,hvl,hz,S,hS,hSl,hSv⟩:=hv0;have hC:g.sig.s 6=S:=AVal.str.inj hS;have w2:=hI 2 .u16 (by decide) rfl;have w3:=hI 3 .u16 (by decide) rfl;have w4:=hI 4 .u8 (by decide) rfl;rw [Qov] at w2 w3;rw [wr_u8] at w4;have hlast:Qf Tryd.prog Qa 116 (Qu g w 0) (Z8 g w) ((Qe (Qc Tryd.f8)).drop 5) Qno 17 Q5t (fun V=>M8 g.sig S (min X.len 60) V/\V.ext=E):=by
   refine Qf.last mixed Qbh7 ⟨rfl,rfl⟩ (fun V U ag h=>⟨h.1.agree ag,by rw [<-ag.ext];exact h.2⟩) (fun U h=>Qv) (fun U e ht hi hj=> ?_) (pin0 (by kernel_rfl));obtain ⟨hj,hxe⟩:=hj;refine Qp ?_;have hr:=hj.r;have hb:=hj.b;have v2:=hj.v2;have v3:=hj.v3;have hm:=hj.m;have dl:=Qtt S (min X.len 60);obtain ⟨o1,o2,o3,o4,o5,_,_⟩:=Qh0 S (min X.len 60);obtain ⟨t0,t1,t2,t3⟩:=Q51 S X.len (g.sig.i 2) (g.sig.i 3);have F:Facs U 17 Qnf:=facs e;dsimp only [Qnf,Facs,fac1,facI,facS,facB,oI,oK,oB,oS,nmL,nm,Nat.reduceAdd] at F;obtain ⟨i17,i18,i19,i20,i21,-⟩:=F;have g7:g.sig.s 7=decS (g.sig.tab 640 [encB (g.sig.s 6),g.sig.i 1]):=eqFs (hE.at 0 _ rfl rfl);have g8:g.sig.i 8=IntKind.i64.wrap (g.sig.tab 641 [encB (g.sig.s 6),g.sig.i 1]):=eqFn (hE.at 1 _ rfl rfl);have g9:g.sig.i 9=IntKind.i64.wrap (g.sig.i 2):=eqI (hE.at 2 _ rfl rfl) rfl;have g10:g.sig.i 10=IntKind.i64.wrap (g.sig.i 9*100):=eqI (hE.at 3 _ rfl rfl) rfl;have g11:g.sig.i 11=IntKind.u64.wrap (g.sig.tab 642 [encB (g.sig.s 6),g.sig.i 1,g.sig.i 2,g.sig.i 3]):=eqFn (hE.at 4 _ rfl rfl);have g12:g.sig.i 12=IntKind.u64.wrap (g.sig.tab 643 [encB (g.sig.s 6),g.sig.i 1,g.sig.i 2,g.sig.i 3]):=eqFn (hE.at 5 _ rfl rfl);have g13:g.sig.i 13=IntKind.i64.wrap (g.sig.i 4):=eqI (hE.at 6 _ rfl rfl) rfl;have g14:g.sig.i 14=(g.sig.i 13).tmod 7:=eqI (hE.at 7 _ rfl rfl) rfl;rw [hg,hvl,hC,t0] at g7;rw [hg,hvl,hC,t1,Qh] at g8;rw [hg,hvl,hC,t2,Qg] at g11;rw [hg,hvl,hC,t3,Qg] at g12;rw [Qh] at g9 g10 g13;rw [Qb1 _ (by omega)] at g14;rw [Qg] at i17 i18 i19 i20
   have e12:(draG 0 S X.len (g.sig.i 2) (g.sig.i 3) 0).ret=(Qk noE (draL S (min X.len 60))).r+g.sig.i 2:=rfl;have e13:(draG 0 S X.len (g.sig.i 2) (g.sig.i 3) 0).br=min ((Qk noE (draL S (min X.len 60))).r+g.sig.i 2) ((Qk noE (draL S (min X.len 60))).b+g.sig.i 3):=rfl;rw [e12] at g11;rw [e13] at g12;have hc:=hj.c;have hcy:=hj.cy;have hou:=hj.ou;have z8:U.i 14=g.sig.i 8:=by omega
   have z11:U.i 18=g.sig.i 11:=by omega
   have z12:U.i 21=g.sig.i 12:=by
    rw [i21];split<;>omega
   have z10:U.i 15=g.sig.i 10:=by omega
   have z14:U.i 16=g.sig.i 14:=by omega
   have z7:U.s 13=g.sig.s 7:=by rw [hc,g7]
   exact Qb8 (M:=15) (l:=L8) (vs:=[.agg [.symi .u32 0,.lsl 0 4 true (.int .i64 0) (.symi .i64 8),.symi .i64 10,.symi .u64 11,.symi .u64 12,.symi .i64 14]]) (by kernel_rfl) rfl rfl hH hg rfl rfl rfl (by kernel_rfl) (by kernel_rfl) ⟨congrArg (AVal.int .u32) hj.v8,congrArg (AVal.int .i64) z8,congrArg (AVal.int .i64) z10,congrArg (AVal.int .u64) z11,congrArg (AVal.int .u64) z12,congrArg (AVal.int .i64) z14,congrArg AVal.str z7,congrArg (AVal.int .i64) z8,congrArg (AVal.int .u32) hj.v8,congrArg (AVal.int .i64) z8,congrArg (AVal.int .i64) z10,congrArg (AVal.int .u64) z11,congrArg (AVal.int .u64) z12,congrArg (AVal.int .i64) z14,trivial⟩ (by decide) (extS (hxe.trans hvx.symm)) (.inl rfl)
  have hbody: ∀k (_:Unit),Qf Tryd.prog Qa 116 (Qu g w 0) (Qfs Tryd.prog (idOf (Qc Tryd.f8)) ((Qe (Qc Tryd.f8)).drop 5) (Z8 g w) (InvF Qa 116 (Qu g w 0) (fun _:Unit=>Qf7) 17 Qj4 (fun _ V=>RowE E X V/\ ∃i,M8 g.sig S i V/\V.i 0=(i:Nat)) (fun V=>((X.len:Int)-V.i 0).toNat)) k) [Qbn (Qc Tryd.f8)] Qf7 (17+d4.length) (Qj4++d4.map Qfd) (fun U=>Qft 17 d4 E X U/\(∃i,M8 g.sig S i U/\U.i 0=(i:Nat))/\((X.len:Int)-U.i 0).toNat=k):=by
   intro k _;refine Qf.last mixed Qbh2 ⟨rfl,rfl⟩ (fun V U ag h=>⟨h.1.agree ag,(let ⟨i,hi,h0⟩:=h.2.1;⟨i,hi.agree (ag.less (by decide)),by rw [<-(ag.val 0 (by decide)).1];exact h0⟩),by rw [<-(ag.val 0 (by decide)).1];exact h.2.2⟩) (fun U h=>h.1.rows hX hE0 (by decide)) (fun U e ht hi hj=> ?_) (pin0 (by kernel_rfl));obtain ⟨hrow,⟨i,hj,hi0⟩,hkk⟩:=hj;have hrr:=hrow.hd (by decide);have hlen:=hrr.len;have hlo:=hrr.lo;have hhi:=hrr.hi;have hXl:=hX.len;refine Qp ?_;have h60:=hj.h60;have hr:=hj.r;have hb:=hj.b;have hk:=hj.k;have hm:=hj.m;obtain ⟨o1,o2,o3,o4,o5,_,_⟩:=Qh0 S i;obtain ⟨⟨d1,d2⟩,⟨d3,d4'⟩,⟨d5,d6⟩,d7,d8⟩:=Q8d S i;have F:Facs U 21 Qnd:=facs e;dsimp only [Qnd,Facs,fac1,facI,facS,facB,oI,oK,oB,oS,nmL,nm,Nat.reduceAdd] at F;obtain ⟨b21,b22,b23,-,i25,b26,i27,i28,i29,b30,b31,b32,i33,i34,i35,-,s37,i38,b39,b40,i41,i42,-,s44,-,s46,-⟩:=F;have i24:U.i 24=(U.i 19).tmod (3):=eqI (e.at 3 _ rfl rfl) rfl;have s36:U.s 36=encX ⟨U.i 29,U.i 35,U.i 25,U.i 20⟩:=Qbx (e.at 15 _ rfl rfl);have s43:U.s 43=encX ⟨U.i 28,U.i 42,U.i 25,U.i 20⟩:=Qbx (e.at 22 _ rfl rfl);have s45:U.s 45=encX ⟨U.i 28,U.i 10,U.i 25,U.i 20⟩:=Qbx (e.at 24 _ rfl rfl);have tr: ∀{P:Prop} {b:Bool} [Decidable P],b=decide P->b=false->P->False:=fun hb hf hp=>by rw [hb,decide_eq_false_iff_not] at hf;exact hf hp
   have outs: ¬(i<X.len/\i<60)->EndZ Qa 116 (Qu g w 0) (Qfs Tryd.prog (idOf (Qc Tryd.f8)) ((Qe (Qc Tryd.f8)).drop 5) (Z8 g w) (InvF Qa 116 (Qu g w 0) (fun _:Unit=>Qf7) 17 Qj4 (fun _ V=>RowE E X V/\ ∃i,M8 g.sig S i V/\V.i 0=(i:Nat)) (fun V=>((X.len:Int)-V.i 0).toNat)) k) (.exit 0) Qno (asgS U ([(2,.symi .u16 2),(3,.symi .u16 3),(4,.symi .u8 4),(5,.symi .u8 5),(8,.symi .u32 8),(14,.symi .i64 14),(15,.symi .i64 15),(16,.symi .i64 16),(9,.symi .u64 9),(10,.symi .u64 10),(11,.symi .i64 11),(12,.symi .u8 12),(13,.syms 13),(14,.symi .i64 14)]++[])):=by
    intro h;have hm2:i=min X.len 60:=by omega
    subst hm2;exact EndZ.out (by simp) (EndZ.blk hlast (.inr rfl) (insK (X:=Qne) e hi) ⟨⟨hj.v8,hj.v2,hj.v3,hj.v4,hj.v5,hj.r,hj.b,hj.k,hj.v,hj.c,hj.m,hj.cy,hj.ou,h60⟩,extS hrr.ext⟩ (tabS ht))
   refine ⟨fun f21=>⟨fun f22=> ?_,fun f22=>outs ?_⟩,fun f21=>outs ?_⟩;rw [b21,decide_eq_true_eq] at f21;rw [b22,decide_eq_true_eq] at f22;have hlt:i<X.len:=by omega
   have h6:i<60:=by omega
   have el: ∀j,j<4->U.i (17+j)=iOf (Qm cl4d S i j):=by
    intro j hj3;obtain ⟨V,ag,hh⟩:=hrow;have t0:U.i 0=V.i 0:=by rw [<-(ag.val 0 (by decide)).1];simp [Qcg]
    rw [<-(ag.val (17+j) (by simp [d4];omega)).1];have hm:(V.i 0).toNat=i:=by omega
    simp only [Qcg,hm,hlt,if_true,Nat.add_sub_cancel_left];rw [if_neg (by omega),hSv i j hlt (by rw [<-hz];exact hj3)]
   have v17:U.i 17=(rowD S i).m:=el 0 (by omega);have v18:U.i 18=(rowD S i).t:=el 1 (by omega);have v19:U.i 19=(rowD S i).k:=el 2 (by omega);have v20:U.i 20=(rowD S i).v:=el 3 (by omega);rw [v19,Qb1 _ d5] at i24;rw [Qh,i24] at i25;rw [Qg,v17] at i27;rw [Qg,i27,hr] at i28;rw [Qg] at i29;rw [Qg,v18] at i33;rw [Qg,i33,hb] at i34;rw [Qh] at i38 i41;rw [v17] at b23;have e25:U.i 25=(rowD S i).k%3:=by omega
   rw [e25,hk] at b26;have e28:U.i 28=(Qk noE (draL S i)).r+(rowD S i).m:=by omega
   have e29:U.i 29=(Qk noE (draL S i)).r+(rowD S i).m+1:=by omega
   have e34:U.i 34=(Qk noE (draL S i)).b+(rowD S i).t:=by omega
   have e38:U.i 38=((i+1:Nat):Int):=by omega
   have e41:U.i 41=((i+1:Nat):Int):=by omega
   have e35:U.i 35=min (U.i 29) (U.i 34):=by rw [i35];split<;>omega
   have e42:U.i 42=min (U.i 28) (U.i 34):=by rw [i42];split<;>omega
   refine ⟨fun f23=>⟨fun f26=> ?_,fun f26=> ?_⟩,fun f23=> ?_⟩;rw [b23,beq_iff_eq] at f23;rw [b26,decide_eq_true_eq] at f26;obtain ⟨x1,x2⟩:=dst1 f23 f26;exact ⟨fun f31=>⟨fun f32=>⟨fun f39=>⟨fun f40=>EndZ.loopF () rfl (insK (X:=Qne) e hi) ⟨⟨extS hrr.ext,hrr.len,(by show 0<=U.i 41;omega),(by show U.i 41<=_;omega)⟩,i+1,go8 (rr:=29) (bb:=35) (ss:=37) hj h6 e38 (by rw [x1,e29,f23];omega) (by rw [x2,e35,e29,e34,f23,Int.add_zero]) e25 v20 (by rw [s37,s36]),e41⟩ (tabS ht) (by show ((X.len:Int)-U.i 41).toNat<k;omega),fun f=>tr b40 f (by omega)⟩,fun f=>tr b39 f (by omega)⟩,fun f=>tr b32 f (by omega)⟩,fun f=>tr b31 f (by omega)⟩;rw [b23,beq_iff_eq] at f23;rw [b26,decide_eq_false_iff_not] at f26;obtain ⟨x1,x2⟩:=dst2 f23 f26;exact ⟨fun f32=>⟨fun f=>absurd (of_decide_eq_true (b30.symm.trans f)) (by omega),fun f30=>⟨fun f39=>⟨fun f40=>EndZ.loopF () rfl (insK (X:=Qne) e hi) ⟨⟨extS hrr.ext,hrr.len,(by show 0<=U.i 41;omega),(by show U.i 41<=_;omega)⟩,i+1,go8 (rr:=28) (bb:=10) (ss:=46) hj h6 e38 (by rw [x1,e28,f23];omega) (by rw [x2];exact hb) e25 v20 (by rw [s46,s45]),e41⟩ (tabS ht) (by show ((X.len:Int)-U.i 41).toNat<k;omega),fun f=>tr b40 f (by omega)⟩,fun f=>tr b39 f (by omega)⟩⟩,fun f=>tr b32 f (by omega)⟩;rw [b23] at f23;have f23: ¬(rowD S i).m=0:=by intro h;rw [h] at f23;cases f23
   obtain ⟨x1,x2⟩:=dst3 f23 d1;exact ⟨fun f30=>⟨fun f32=>⟨fun f39=>⟨fun f40=>EndZ.loopF () rfl (insK (X:=Qne) e hi) ⟨⟨extS hrr.ext,hrr.len,(by show 0<=U.i 41;omega),(by show U.i 41<=_;omega)⟩,i+1,go8 (rr:=28) (bb:=42) (ss:=44) hj h6 e38 (by rw [x1,e28]) (by rw [x2,e42,e28,e34]) e25 v20 (by rw [s44,s43]),e41⟩ (tabS ht) (by show ((X.len:Int)-U.i 41).toNat<k;omega),fun f=>tr b40 f (by omega)⟩,fun f=>tr b39 f (by omega)⟩,fun f=>tr b32 f (by omega)⟩,fun f=>tr b30 f (by omega)⟩;rw [b22,decide_eq_false_iff_not] at f22;omega;rw [b21,decide_eq_false_iff_not] at f21;omega
  rw [show Qe (Qc Tryd.f8)=(Qe (Qc Tryd.f8)).take 4++(.block (idOf (Qc Tryd.f8)) (.loop (Qbn (Qc Tryd.f8)))::(Qe (Qc Tryd.f8)).drop 5) from rfl];refine Qf.seg (q2:=17) (ins2:=Qj4) (S2:=Qf7) (J2:=fun V=>RowE E X V/\ ∃i,M8 g.sig S i V/\V.i 0=(i:Nat)) mixed Qbhy ⟨rfl,rfl⟩ (fun V U (ag:Agree 7 V U) (h:Agree 7 g.sig V)=>h.trans' ag) (fun U (h:Agree 7 g.sig U)=>Q8g (X:=X) (k:=1) (h.ext.symm.trans hvx) hE0 (by rw [<-(h.val 1 (by decide)).1];exact hvl)) (Qf.rowLoopF (J:=fun _ V=> ∃i,M8 g.sig S i V/\V.i 0=(i:Nat)) (q:=17) (insq:=Qj4) hX rfl (by decide) (fun _=>by kernel_rfl) (fun _ V U ag h=>let ⟨i,h1,h0⟩:=h;⟨i,h1.agree ag,by rw [<-(ag.val 0 (by decide)).1];exact h0⟩) hbody ()) (fun U e ht hi ag=> ?_) (pin0 (by kernel_rfl));refine Qp ?_;have a:=fun i h=>(ag.val i h).1.symm;have a2:=a 2 (by decide);have a4:=a 4 (by decide);have a1:=a 1 (by decide);have F:Facs U 7 Qnc:=facs e;dsimp only [Qnc,Facs,fac1,facI,facS,facB,oI,oK,oB,oS,nmL,nm,Nat.reduceAdd] at F;obtain ⟨i7,i8,i9,-⟩:=F;have i10:U.i 10=(U.i 9).tmod (7):=eqI (e.at 3 _ rfl rfl) rfl;rw [Qh] at i7 i8 i9;rw [Qb1 _ (by omega)] at i10;exact .inl ⟨rfl,rfl,insK (X:=Q4w) e hi,⟨⟨extS (ag.ext.symm.trans hvx),(a1.trans hvl),Int.le_refl 0,Int.natCast_nonneg _⟩,0,⟨a 0 (by decide),a 2 (by decide),a 3 (by decide),a 4 (by decide),a 5 (by decide),rfl,rfl,rfl,rfl,rfl,rfl,(by show U.i 8=_;omega),(by show U.i 10=_;omega),Nat.zero_le _⟩,rfl⟩,tabS ht⟩)
end Go.Proofs.YtelimhjceiamcaaDoor.lg
