/-
 Contract of log.Encode: a log's bytes.
 No conditions.
-/
import Derived.Test.YtelimhjceiamcaaDoorTWbp
set_option linter.unusedVariables false
set_option linter.unusedSimpArgs false
set_option maxRecDepth 100000
namespace Go.Proofs.YtelimhjceiamcaaDoor.lg
open Go.Ev Go.RowKit Go.Wbp Go.Lgp
open Go.Proofs.YtelimhjceiamcaaDoor.lgn (mixed sf48 Qbu)
def Q5w:Shape:=⟨argT 0 [lgA],[eL 6 7]⟩
def Qj2:Shape:=⟨[(1,.ptr 1 0),(4,.lsl 3 1 true (.z 0) (.i 14)),(6,.ptr 2 0),(28,eS),(29,.i 1),(30,.i 8)],[eL 6 7,.cells lgC 26,.cells [.u 9,.u 10,.i 11,.c 12] 61,bl 13 14]⟩
def Qvp:List (Option IntKind):=lgK++[some .i64,some .u64,some .u64,some .i64,some .u8,none,some .i64]
def Q5s:List (Option IntKind):=lgK++[none,some .u64,some .u64,some .i64,some .u8,none,some .i64]
def Qvt:Shape:=⟨[(1,.ptr 1 0),(4,.lsl 3 1 true (.z 0) (.i 14)),(6,.ptr 2 0),(28,eS)],[eL 6 7,.cells lgC 26,.cells [.u 9,.u 10,.i 11,.c 12] 61,bl 13 14]⟩
def Q5g:Shape:=⟨[(2,.s 8),(3,.z 0),(28,eS)],[eL 6 7]⟩
def sf15:SymF:=
 {f:=15,m:=8,ins:=lgK,args:=[lgA],pre:=[eL 6 7],pcs:=lgQ++[.fnb 448 lgF,.q .leq (.i 1) (.z 1000)],G:=[.sop (.fs 512) lgF],v:=.tuple [.s 8,.z 0],post:=[eL 6 7]}
def Qmq:List SDef:=[.q .leq (.z 0) (.i 1),
 .q .leq (.i 1) (.i 7),
 .q .leq (.i 7) (.z 1000000),
 .fnb 448 [.w 0,.s 6,.i 1,.i 2,.u 3,.u 4,.i 5],
 .q .shr (.w 0) (.z 24),
 .conv .u8 (.w 12),
 .sop (.row [.some .u8,.some .u8,.some .u8]) [.int .u8 80,.int .u8 76,.int .u8 1],
 .sop (.row [.some .u8]) [.c 13],
 .sop .cat [.s 14,.s 15],
 .q .shr (.w 0) (.z 16),
 .conv .u8 (.w 17),
 .sop (.row [.some .u8]) [.c 18],
 .sop .cat [.s 16,.s 19],
 .q .shr (.w 0) (.z 8),
 .conv .u8 (.w 21),
 .sop (.row [.some .u8]) [.c 22],
 .sop .cat [.s 20,.s 23],
 .q .shr (.w 0) (.z 0),
 .conv .u8 (.w 25),
 .sop (.row [.some .u8]) [.c 26],
 .sop .cat [.s 24,.s 27]]
def Q2w:LT:=Go.Wbp.fT 8 Qmq (.n (.n (.n (.n (.n .e 10380 25 .e) 410660 21 .e) 810940 17 (.n (.n .e 1211220 12 .e) 7977499 14 .e)) 9180275 24 (.n (.n (.n .e 15523167 22 .e) 23528613 15 .e) 47051472 27 (.n .e 107225903 20 .e))) 162262213 13 (.n (.n (.n (.n .e 276146667 10 .e) 320878263 11 .e) 343383805 8 (.n (.n .e 357022124 9 .e) 427524403 26 .e)) 452791295 23 (.n (.n (.n .e 539283889 16 .e) 677263758 18 .e) 858531118 19 (.n .e 984876474 28 .e))))
def Qbe2:Sw:=.x 8 (.x 9 (.x 10 (.x 11 (.run (.leaf .normal Qj2 [(0,0),(1,0),(11,0),(10,0)] [(14,.z 7),(1,.i 1),(1,.i 1),(8,.z 0),(6,.s 6),(7,.i 7),(0,.w 0),(1,.i 1),(2,.i 2),(3,.u 3),(4,.u 4),(5,.i 5),(9,.o 0),(10,.o 0),(11,.z 0),(12,.int .u8 0),(13,.s 28),(14,.z 7)] [])))))
def Qbe1:KdT:=kdN 0x340034003400034000010122114 5 1 0
noncomputable def Q2x:Ing:={m:=8,ins:=lgK,G:=Qmq,T:=Q2w,tab:=Qa,lsts:=Qs,kb:=29,kt:=Qbe1}
noncomputable def Qu5:Ing:={Q2x with mh:=Qbr (kdX Q2x) [sf17]}
theorem Q2y:okLT 8 Qmq Q2w=true:=by kernel_rfl
theorem Qbe3 (F:List Fact):Hooks Tryd.prog (cxOf Qu5 F):=
  Qcy (l:=[sf17]) rfl rfl rfl rfl rfl Q2y rfl rfl rfl ⟨c17,trivial⟩ F
theorem Qbe4:SegOk Tryd.prog Qa 68 ((Qe (Qc Tryd.f15)).take 8) Q5w Qu5 Qbe2:=
  ⟨Q2y,by kernel_rfl,Qbe3,rfl,by kernel_rfl,by kernel_rfl,rfl,rfl,fun _=>trivial,by kernel_rfl⟩
def Qmr:List SDef:=[.q .lss (.i 8) (.i 1),
 .q .lss (.i 8) (.i 7),
 .q .leq (.z 0) (.i 14),
 .q .leq (.i 14) (.z 900000),
 .sop (.cell [.some .u64,.some .u64,.some .i64,.some .u8] 0) [.s 6,.i 8],
 .sop (.cell [.some .u64,.some .u64,.some .i64,.some .u8] 1) [.s 6,.i 8],
 .sop (.cell [.some .u64,.some .u64,.some .i64,.some .u8] 2) [.s 6,.i 8],
 .sop (.cell [.some .u64,.some .u64,.some .i64,.some .u8] 3) [.s 6,.i 8],
 .conv .u8 (.i 21),
 .sop (.row [.some .u8]) [.c 23],
 .sop .cat [.s 13,.s 24],
 .q .add (.i 14) (.z 1),
 .q .sub (.u 19) (.u 9),
 .q .leq (.z 0) (.i 26),
 .q .leq (.i 26) (.z 1000000),
 .sop (.fs 192) [.u 27],
 .sop .cat [.s 25,.s 30],
 .fn 193 .i64 [.u 27],
 .q .add (.i 26) (.i 32),
 .q .sub (.u 20) (.u 10),
 .q .leq (.z 0) (.i 33),
 .q .leq (.i 33) (.z 1000000),
 .sop (.fs 192) [.u 34],
 .sop .cat [.s 31,.s 37],
 .fn 193 .i64 [.u 34],
 .q .add (.i 33) (.i 39),
 .sop (.row [.some .u8]) [.c 22],
 .sop .cat [.s 38,.s 41],
 .q .add (.i 40) (.z 1),
 .sop .len [.s 42],
 .q .leq (.i 44) (.z 1000000),
 .q .leq (.z 0) (.i 8),
 .q .leq (.i 26) (.z 140737488355328),
 .q .leq (.z 0) (.i 43),
 .q .leq (.i 43) (.z 140737488355328),
 .q .lss (.z 0) (.i 43),
 .fn 384 .u8 [.s 42],
 .sop (.row [.some .u8]) [.c 51],
 .sop .cat [.s 42,.s 52],
 .q .add (.i 43) (.z 1),
 .q .leq (.z 0) (.i 54),
 .q .leq (.i 54) (.z 140737488355328),
 .q .add (.i 8) (.z 1)]
def Q2z:LT:=Go.Wbp.fT 15 Qmr (.n (.n (.n (.n (.n (.n .e 15523167 23 .e) 47668770 29 .e) 48106073 54 (.n (.n .e 77644597 15 .e) 84863043 34 .e)) 131324965 47 (.n (.n (.n .e 133516500 51 .e) 159058854 39 .e) 214243975 30 (.n .e 238743867 38 .e))) 274616096 18 (.n (.n (.n (.n .e 276789873 53 .e) 287512380 55 .e) 309505655 37 (.n (.n .e 315797930 32 .e) 337288639 28 .e)) 340322767 26 (.n (.n (.n .e 452791295 41 .e) 512013011 17 .e) 542408004 19 (.n .e 542408006 20 .e)))) 542408008 21 (.n (.n (.n (.n (.n .e 542408010 22 .e) 571815642 44 .e) 577329895 31 (.n (.n .e 593280031 35 .e) 599375197 46 .e)) 617702467 40 (.n (.n (.n .e 619791796 24 .e) 641716776 42 .e) 714250989 27 (.n .e 728450781 33 .e))) 754670891 36 (.n (.n (.n (.n .e 774588289 49 .e) 791932397 45 .e) 796103090 25 (.n (.n .e 805590323 50 .e) 805590330 48 .e)) 808062776 57 (.n (.n (.n .e 811849795 56 .e) 818846991 43 .e) 1000838516 52 (.n .e 1064024238 16 .e)))))
def Qbe6:Sw:=.n 15 (.x 16 (.x 17 (.x 18 (.x 28 (.x 29 (.x 35 (.x 36 (.x 45 (.x 46 (.x 47 (.x 48 (.x 49 (.x 50 (.x 55 (.x 56 (.run (.leaf .normal Qj2 [(0,0),(1,0),(2,0),(14,0)] [(14,.i 54),(1,.i 1),(1,.i 1),(8,.i 57),(6,.s 6),(7,.i 7),(0,.w 0),(1,.i 1),(2,.i 2),(3,.u 3),(4,.u 4),(5,.i 5),(9,.u 19),(10,.u 20),(11,.i 21),(12,.c 22),(13,.s 53),(14,.i 54)] []))))))))))))))))) (.run (.leaf (.exit 2) Qvt [(0,0),(1,0),(2,0),(3,0)] [(14,.i 14),(1,.i 1),(6,.s 6),(7,.i 7),(0,.w 0),(1,.i 1),(2,.i 2),(3,.u 3),(4,.u 4),(5,.i 5),(9,.u 9),(10,.u 10),(11,.i 11),(12,.c 12),(13,.s 13),(14,.i 14)] []))
def Qbe5:KdT:=kdN 0x1001003000000010011000021100002100331220000103122110122114 6 1 0
noncomputable def Q20:Ing:={m:=15,ins:=Qvp,G:=Qmr,T:=Q2z,tab:=Qa,lsts:=Qs,kb:=58,kt:=Qbe5}
noncomputable def Qqw:Ing:={Q20 with mh:=Qbr (kdX Q20) [sf9,sf20]}
theorem Q21:okLT 15 Qmr Q2z=true:=by kernel_rfl
theorem Qbe7 (F:List Fact):Hooks Tryd.prog (cxOf Qqw F):=
  Qcy (l:=[sf9,sf20]) rfl rfl rfl rfl rfl Q21 rfl rfl rfl ⟨p9.c9,c20,trivial⟩ F
theorem Qbe8:SegOk Tryd.prog Qa 68 ([Qid 8 (Qc Tryd.f15)]) Qj2 Qqw Qbe6:=
  ⟨Q21,by kernel_rfl,Qbe7,rfl,by kernel_rfl,by kernel_rfl,rfl,rfl,fun _=>trivial,by kernel_rfl⟩
def Qms:List SDef:=[.q .leq (.z 0) (.i 14),
 .q .leq (.i 14) (.z 900000),
 .sop (.row [.some .u8]) [.int .u8 255],
 .sop .cat [.s 13,.s 17],
 .q .add (.i 14) (.z 1),
 .conv .u64 (.i 2),
 .q .leq (.z 0) (.i 19),
 .q .leq (.i 19) (.z 1000000),
 .sop (.fs 192) [.u 20],
 .sop .cat [.s 18,.s 23],
 .fn 193 .i64 [.u 20],
 .q .add (.i 19) (.i 25),
 .q .sub (.u 3) (.u 9),
 .q .leq (.z 0) (.i 26),
 .q .leq (.i 26) (.z 1000000),
 .sop (.fs 192) [.u 27],
 .sop .cat [.s 24,.s 30],
 .fn 193 .i64 [.u 27],
 .q .add (.i 26) (.i 32),
 .q .sub (.u 4) (.u 10),
 .q .leq (.z 0) (.i 33),
 .q .leq (.i 33) (.z 1000000),
 .sop (.fs 192) [.u 34],
 .sop .cat [.s 31,.s 37],
 .fn 193 .i64 [.u 34],
 .q .add (.i 33) (.i 39),
 .conv .u8 (.i 5),
 .sop (.row [.some .u8]) [.c 41],
 .sop .cat [.s 38,.s 42],
 .q .add (.i 40) (.z 1),
 .sop .len [.s 43],
 .q .leq (.i 45) (.z 1000000),
 .q .leq (.i 19) (.z 140737488355328),
 .q .leq (.z 0) (.i 44),
 .q .leq (.i 44) (.z 140737488355328),
 .q .lss (.z 0) (.i 44),
 .fn 384 .u8 [.s 43],
 .sop (.row [.some .u8]) [.c 51],
 .sop .cat [.s 43,.s 52],
 .q .add (.i 44) (.z 1),
 .q .leq (.z 0) (.i 54),
 .q .leq (.i 54) (.z 140737488355328),
 .q .lss (.z 0) (.i 54)]
def Q22:LT:=Go.Wbp.fT 15 Qms (.n (.n (.n (.n (.n (.n .e 218345 17 .e) 47668770 29 .e) 75202074 50 (.n (.n .e 75202081 48 .e) 81297247 21 .e)) 118982295 23 (.n (.n (.n .e 149106376 54 .e) 159058854 39 .e) 171987968 27 (.n .e 206000950 20 .e))) 214243975 30 (.n (.n (.n (.n .e 238743867 38 .e) 264521347 51 .e) 274616096 16 (.n (.n .e 287512373 57 .e) 287512380 55 .e)) 309505655 37 (.n (.n (.n .e 315797930 32 .e) 337288639 28 .e) 340322767 19 (.n .e 404575333 42 .e)))) 410323716 31 (.n (.n (.n (.n (.n .e 414408476 22 .e) 443796052 53 .e) 450199190 43 (.n (.n .e 472537006 25 .e) 498064671 47 .e)) 512013011 15 (.n (.n (.n .e 515001877 41 .e) 593280031 35 .e) 616341849 34 (.n .e 617702467 40 .e))) 728450781 33 (.n (.n (.n (.n .e 738821821 45 .e) 748909744 24 .e) 754670891 36 (.n (.n .e 811849795 56 .e) 818846991 44 .e)) 839199095 26 (.n (.n (.n .e 875588592 49 .e) 892932700 46 .e) 1000838516 52 (.n .e 1062984365 18 .e)))))
def Qbfa:Sw:=.x 15 (.x 16 (.x 21 (.x 22 (.x 28 (.x 29 (.x 35 (.x 36 (.x 46 (.x 47 (.x 48 (.x 49 (.x 50 (.x 55 (.x 56 (.x 57 (.run (.leaf .ret Q5g [(0,0)] [(8,.s 53),(1,.i 1),(6,.s 6),(7,.i 7)] [])))))))))))))))))
def Qbe9:KdT:=kdN 0x1003000000100311000021100002110000210000103122010122114 6 1 0
noncomputable def Q24:Ing:={m:=15,ins:=Q5s,G:=Qms,T:=Q22,tab:=Qa,lsts:=Qs,kb:=58,kt:=Qbe9}
noncomputable def Q23:Ing:={Q24 with mh:=Qbr (kdX Q24) [sf9,sf20]}
theorem Q25:okLT 15 Qms Q22=true:=by kernel_rfl
theorem Qbfb (F:List Fact):Hooks Tryd.prog (cxOf Q23 F):=
  Qcy (l:=[sf9,sf20]) rfl rfl rfl rfl rfl Q25 rfl rfl rfl ⟨p9.c9,c20,trivial⟩ F
theorem Qbfc:SegOk Tryd.prog Qa 68 ((Qe (Qc Tryd.f15)).drop 9) Qvt Q23 Qbfa:=
  ⟨Q25,by kernel_rfl,Qbfb,rfl,by kernel_rfl,by kernel_rfl,rfl,rfl,fun _=>trivial,by kernel_rfl⟩
structure M15 (g:Sig) (C:ByteArray) (n N i:Nat) (V:Sig):Prop where
 s:V.s 6=C
 n0:V.i 1=n
 nN:V.i 7=N
 v0:V.i 0=g.i 0
 v2:V.i 2=g.i 2
 v3:V.i 3=g.i 3
 v4:V.i 4=g.i 4
 v5:V.i 5=g.i 5
 r:V.i 9=(Qj zeE C i).r
 b:V.i 10=(Qj zeE C i).b
 k:V.i 11=(Qj zeE C i).k
 v:V.i 12=(Qj zeE C i).v
 c:V.s 13=bs (encI (g.i 0) C i)
 m:V.i 14=((encI (g.i 0) C i).length:Nat)
 le:n<=N
 hi:i<=n
 sz:N<=1000000
 s1:n<=1000
 xe:V.ext=g.ext
theorem M15.agree {g:Sig} {C:ByteArray} {n N i:Nat} {V U:Sig} (ag:Agree 15 V U) (h:M15 g C n N i V):M15 g C n N i U:=by
  cases h;constructor<;>first|assumption|(simp (disch:=decide) only [ag.iv,ag.bv,ag.sv,ag.xv];assumption)
structure J15 (g:Sig) (C:ByteArray) (n N i:Nat) (V:Sig):Prop where
 m:M15 g C n N i V
 i0:V.i 8=i
theorem J15.agree {g:Sig} {C:ByteArray} {n N i:Nat} {V U:Sig} (ag:Agree 15 V U) (h:J15 g C n N i V):J15 g C n N i U:=
 ⟨h.m.agree ag,by rw [<-(ag.val 8 (by decide)).1];exact h.i0⟩
def L15:Asg:=[(8,.s 8),(6,.s 6),(7,.i 7)]
abbrev Z15 (g:Inj) (w:World):Exit->Act->World->Prop:=bodyPost Tryd.prog Tryd.f15 (MemR Qa sf15 g w)
theorem Qkf {C D E:ByteArray} {P:List Int} {x b:Int} {n m:Int} (hc:C=bs P) (hn:n=(P.length:Int)) (hd:D=bs [b%256]) (hb:b%256=x) (he:E=C++D) (hm:m=IntKind.i64.wrap (n+1)) (hl:P.length<=900000):E=bs (P++[x])/\m=((P++[x]).length:Int):=by
 rw [Qh] at hm;rw [he,hc,hd,Qdu,hb];refine ⟨rfl,?_⟩;simp only [List.length_append,List.length_cons,List.length_nil];omega
theorem Qn0 {U:Sig} (ht:U.tab=Qa) {C D E:ByteArray} {P:List Int} {x y l:Int} {n m:Int} (hc:C=bs P) (hn:n=(P.length:Int)) (hd:D=decS (U.tab 192 [y])) (hy:y=x%18446744073709551616) (he:E=C++D) (hk:l=IntKind.i64.wrap (U.tab 193 [y])) (hm:m=IntKind.i64.wrap (n+l)) (hl:P.length<=900000):E=bs (P++pbL x)/\m=((P++pbL x).length:Int):=by
 have hp:=Qcc x;rw [ht,lg_pb,hy,Qw1] at hd;rw [ht,lg_pl,hy,Qw1,Qh] at hk;rw [Qh] at hm;rw [he,hc,hd,Qdu];refine ⟨rfl,?_⟩;rw [List.length_append];omega
theorem bs3 {a b c d:Int}:bs [80,76,1]++bs [a]++bs [b]++bs [c]++bs [d]=bs [80,76,1,a,b,c,d]:=by
 rw [Qdu,Qdu,Qdu,Qdu];rfl
set_option maxHeartbeats 1000000 in
theorem c15:SymFOk Tryd.prog Qa (fun _=>True) sf15:=
 Qb5 Tryd.func15 rfl (n:=68) rfl (by decide) (by decide) rfl rfl (by kernel_rfl) (fun g w hg _ hE hI hpc hH=>by
  have q0:=hpc (.bin .leq (.int .i64 0) (.symi .i64 1)) (by simp [sf15,lgQ]);have q1:=hpc (.bin .leq (.symi .i64 1) (.symi .i64 7)) (by simp [sf15,lgQ]);have q2:=hpc (.bin .leq (.symi .i64 7) (.int .i64 1000000)) (by simp [sf15,lgQ]);have q3:=hpc (.bin .leq (.symi .i64 1) (.int .i64 1000)) (by simp [sf15,lgQ]);have q4:=hpc (.fnb 448 lgF) (by simp [sf15,lgQ]);simp only [Qb,den,binS,intA,if_true,Option.some.injEq,AVal.bool.injEq,decide_eq_true_eq] at q0 q1 q2 q3;obtain ⟨n,hgn⟩: ∃n:Nat,g.sig.i 1=n:=⟨(g.sig.i 1).toNat,by omega⟩;obtain ⟨N,hgN⟩: ∃n:Nat,g.sig.i 7=n:=⟨(g.sig.i 7).toNat,by omega⟩;have g8:g.sig.s 8=bs (encG (lgG g.sig n)):=by
   have h:g.sig.s 8=decS (g.sig.tab 512 [g.sig.i 0,encB (g.sig.s 6),g.sig.i 1,g.sig.i 2,g.sig.i 3,g.sig.i 4,g.sig.i 5]):=eqFs (hE.at 0 _ rfl rfl);rw [h,hg,hgn,Qnr];rfl
  have hlast:Qf Tryd.prog Qa 68 (Qu g w sf15.pre.length) (Z15 g w) ((Qe (Qc Tryd.f15)).drop 9) Qvt 15 Q5s (M15 g.sig (g.sig.s 6) n N n):=by
   refine Qf.last mixed Qbfc ⟨rfl,rfl⟩ (fun V U ag h=>h.agree ag) (fun U h=>Qv) (fun U e ht hi hj=> ?_) (pin0 (by kernel_rfl));refine Qp ?_;have hs1:=hj.s1;have hlen:=Qje (g.sig.i 0) (g.sig.s 6) n;have hm:=hj.m;have s17:U.s 17=bs [255%256]:=Qe8 (e.at 2 _ rfl rfl) rfl;have F:Facs U 15 Qms:=facs e;dsimp only [Qms,Facs,fac1,facI,facS,facB,oI,oK,oB,oS,nmL,nm,Nat.reduceAdd] at F;obtain ⟨b15,b16,-,s18,i19,i20,b21,b22,s23,s24,i25,i26,i27,b28,b29,s30,s31,i32,i33,i34,b35,b36,s37,s38,i39,i40,i41,-,s43,i44,i45,b46,b47,b48,b49,b50,i51,-,s53,i54,b55,b56,b57,-⟩:=F;have s42:U.s 42=bs [U.i 41%256]:=Qe8 (e.at 27 _ rfl rfl) rfl;have s52:U.s 52=bs [U.i 51%256]:=Qe8 (e.at 37 _ rfl rfl) rfl;have tr: ∀{P:Prop} {b:Bool} [Decidable P],b=decide P->b=false->P->False:=fun hb hf hp=>by rw [hb,decide_eq_false_iff_not] at hf;exact hf hp
   obtain ⟨c1,m1⟩:=Qkf hj.c hm s17 (show (255:Int)%256=255 by decide) s18 i19 (by omega);have l1:(encI (g.sig.i 0) (g.sig.s 6) n++[255]).length<=7+19*n+1:=by simp only [List.length_append,List.length_cons,List.length_nil];omega
   have p1:=Qcc (g.sig.i 2);have p2:=Qcc (g.sig.i 3-(Qj zeE (g.sig.s 6) n).r);have p3:=Qcc (g.sig.i 4-(Qj zeE (g.sig.s 6) n).b);rw [Qg,hj.v2] at i20;rw [Qg,hj.v3,hj.r] at i27;rw [Qg,hj.v4,hj.b] at i34;obtain ⟨c2,m2⟩:=Qn0 ht c1 m1 s23 i20 s24 i25 i26 (by omega);have l2:=Qhc (encI (g.sig.i 0) (g.sig.s 6) n++[255]) (pbL (g.sig.i 2));obtain ⟨c3,m3⟩:=Qn0 ht c2 m2 s30 i27 s31 i32 i33 (by omega);have l3:=Qhc (encI (g.sig.i 0) (g.sig.s 6) n++[255]++pbL (g.sig.i 2)) (pbL (g.sig.i 3-(Qj zeE (g.sig.s 6) n).r));obtain ⟨c4,m4⟩:=Qn0 ht c3 m3 s37 i34 s38 i39 i40 (by omega);have l4:=Qhc (encI (g.sig.i 0) (g.sig.s 6) n++[255]++pbL (g.sig.i 2)++pbL (g.sig.i 3-(Qj zeE (g.sig.s 6) n).r)) (pbL (g.sig.i 4-(Qj zeE (g.sig.s 6) n).b));rw [wr_u8,hj.v5] at i41;obtain ⟨c5,m5⟩:=Qkf c4 m4 s42 (show U.i 41%256=g.sig.i 5%256 by omega) s43 i44 (by omega);have eP:encI (g.sig.i 0) (g.sig.s 6) n++[255]++pbL (g.sig.i 2)++pbL (g.sig.i 3-(Qj zeE (g.sig.s 6) n).r)++pbL (g.sig.i 4-(Qj zeE (g.sig.s 6) n).b)++[g.sig.i 5%256]=encI (g.sig.i 0) (g.sig.s 6) n++finB (Qj zeE (g.sig.s 6) n) (lgG g.sig n):=by
    simp only [finB,lgG,List.append_assoc]
   rw [eP] at c5 m5;have hby:=(Qpm (g.sig.i 0) (g.sig.s 6) n).app (Q0x (Qj zeE (g.sig.s 6) n) (lgG g.sig n));have hfl:=Q0y (Qj zeE (g.sig.s 6) n) (lgG g.sig n);have l5:=Qhc (encI (g.sig.i 0) (g.sig.s 6) n) (finB (Qj zeE (g.sig.s 6) n) (lgG g.sig n));have hsum:=Qd5 (encI (g.sig.i 0) (g.sig.s 6) n++finB (Qj zeE (g.sig.s 6) n) (lgG g.sig n));rw [c5,Qbk] at i45;rw [ht,c5,Qff,Qoj hby,wr_u8] at i51;obtain ⟨c6,m6⟩:=Qkf c5 m5 s52 (show U.i 51%256=sumL (encI (g.sig.i 0) (g.sig.s 6) n++finB (Qj zeE (g.sig.s 6) n) (lgG g.sig n)) by omega) s53 i54 (by omega);have l6:=Qhc (encI (g.sig.i 0) (g.sig.s 6) n++finB (Qj zeE (g.sig.s 6) n) (lgG g.sig n)) [sumL (encI (g.sig.i 0) (g.sig.s 6) n++finB (Qj zeE (g.sig.s 6) n) (lgG g.sig n))];rw [List.length_singleton] at l6;have fin:EndZ Qa 68 (Qu g w sf15.pre.length) (Z15 g w) .ret Q5g (asgS U ([(8,.syms 53),(1,.symi .i64 1),(6,.syms 6),(7,.symi .i64 7)]++[])):=by
    refine Qb8 (M:=9) (l:=L15) (vs:=[.syms 8,.int .i64 0]) (by kernel_rfl) rfl rfl hH hg rfl rfl rfl (by kernel_rfl) (by kernel_rfl) ⟨?_,congrArg AVal.str hj.s,congrArg (AVal.int .i64) (hj.nN.trans hgN.symm),trivial⟩ (by decide) (extS hj.xe) (.inl rfl);show AVal.str (U.s 53)=AVal.str (g.sig.s 8);rw [c6,g8];show _=AVal.str (bs (encG ⟨g.sig.i 0,lstE (g.sig.s 6) n,g.sig.i 2,g.sig.i 3,g.sig.i 4,g.sig.i 5⟩));rw [Q0a];rfl
   exact ⟨fun f15=>⟨fun f16=>⟨fun f21=>⟨fun f22=>⟨fun f28=>⟨fun f29=>⟨fun f35=>⟨fun f36=>⟨fun f46=>⟨fun f47=>⟨fun f48=>⟨fun f49=>⟨fun f50=>⟨fun f55=>⟨fun f56=>⟨fun f57=>fin,fun f=>tr b57 f (by omega)⟩,fun f=>tr b56 f (by omega)⟩,fun f=>tr b55 f (by omega)⟩,fun f=>tr b50 f (by omega)⟩,fun f=>tr b49 f (by omega)⟩,fun f=>tr b48 f (by omega)⟩,fun f=>tr b47 f (by omega)⟩,fun f=>tr b46 f (by omega)⟩,fun f=>tr b36 f (by omega)⟩,fun f=>tr b35 f (by omega)⟩,fun f=>tr b29 f (by omega)⟩,fun f=>tr b28 f (by omega)⟩,fun f=>tr b22 f (by omega)⟩,fun f=>tr b21 f (by omega)⟩,fun f=>tr b16 f (by omega)⟩,fun f=>tr b15 f (by omega)⟩
  rw [show Qe (Qc Tryd.f15)=(Qe (Qc Tryd.f15)).take 8++(.block 2 (.loop (Qid 8 (Qc Tryd.f15)))::(Qe (Qc Tryd.f15)).drop 9) from rfl];have hloop:Qf Tryd.prog Qa 68 (Qu g w sf15.pre.length) (Z15 g w) (.block 2 (.loop (Qid 8 (Qc Tryd.f15)))::(Qe (Qc Tryd.f15)).drop 9) Qj2 15 Qvp (fun V=> ∃i,J15 g.sig (g.sig.s 6) n N i V):=by
   refine Qf.loop (μ:=fun V=>(V.i 1-V.i 8).toNat) mixed Qbe8 ⟨rfl,rfl⟩ (fun V U ag h=>let ⟨i,hi⟩:=h;⟨i,hi.agree ag⟩) (fun V U ag=>by rw [(ag.val 1 (by decide)).1,(ag.val 8 (by decide)).1]) (fun U h=>Qv) hlast (fun U e ht hi hj=> ?_) (pin0 (by kernel_rfl));obtain ⟨i,⟨hj,hi0⟩⟩:=hj;refine Qp ?_;have hn0:=hj.n0;have hnN:=hj.nN;have hle:=hj.le;have hhi:=hj.hi;have hsz:=hj.sz;have hs1:=hj.s1;have hlen:=Qje (g.sig.i 0) (g.sig.s 6) i;have hm:=hj.m;have F:Facs U 15 Qmr:=facs e;dsimp only [Qmr,Facs,fac1,facI,facS,facB,oI,oK,oB,oS,nmL,nm,Nat.reduceAdd] at F;obtain ⟨b15,b16,b17,b18,-,-,-,-,i23,-,s25,i26,i27,b28,b29,s30,s31,i32,i33,i34,b35,b36,s37,s38,i39,i40,-,s42,i43,i44,b45,b46,b47,b48,b49,b50,i51,-,s53,i54,b55,b56,i57,-⟩:=F;have i19:U.i 19=(rowE (U.s 6) (U.i 8:Int).toNat).r:=Qbl (e.at 4 _ rfl rfl) rfl;have i20:U.i 20=(rowE (U.s 6) (U.i 8:Int).toNat).b:=Qbl (e.at 5 _ rfl rfl) rfl;have i21:U.i 21=(rowE (U.s 6) (U.i 8:Int).toNat).k:=Qbl (e.at 6 _ rfl rfl) rfl;have i22:U.i 22=(rowE (U.s 6) (U.i 8:Int).toNat).v:=Qbl (e.at 7 _ rfl rfl) rfl;have s24:U.s 24=bs [U.i 23%256]:=Qe8 (e.at 9 _ rfl rfl) rfl;have s41:U.s 41=bs [U.i 22%256]:=Qe8 (e.at 26 _ rfl rfl) rfl;have s52:U.s 52=bs [U.i 51%256]:=Qe8 (e.at 37 _ rfl rfl) rfl;have tr: ∀{P:Prop} {b:Bool} [Decidable P],b=decide P->b=false->P->False:=fun hb hf hp=>by rw [hb,decide_eq_false_iff_not] at hf;exact hf hp
   refine ⟨fun f15=> ?_,fun f15=> ?_⟩;rw [b15,decide_eq_true_eq] at f15;have hlt:i<n:=by omega
   rw [hj.s,hi0,Int.toNat_natCast] at i19 i20 i21 i22;have p2:=Qcc ((rowE (g.sig.s 6) i).r-(Qj zeE (g.sig.s 6) i).r);have p3:=Qcc ((rowE (g.sig.s 6) i).b-(Qj zeE (g.sig.s 6) i).b);rw [wr_u8,i21] at i23;rw [Qg,i19,hj.r] at i27;rw [Qg,i20,hj.b] at i34;obtain ⟨c1,m1⟩:=Qkf hj.c hm s24 (show U.i 23%256=(rowE (g.sig.s 6) i).k%256 by omega) s25 i26 (by omega);have l1:(encI (g.sig.i 0) (g.sig.s 6) i++[(rowE (g.sig.s 6) i).k%256]).length<=7+19*i+1:=by simp only [List.length_append,List.length_cons,List.length_nil];omega
   obtain ⟨c2,m2⟩:=Qn0 ht c1 m1 s30 i27 s31 i32 i33 (by omega);have l2:=Qhc (encI (g.sig.i 0) (g.sig.s 6) i++[(rowE (g.sig.s 6) i).k%256]) (pbL ((rowE (g.sig.s 6) i).r-(Qj zeE (g.sig.s 6) i).r));obtain ⟨c3,m3⟩:=Qn0 ht c2 m2 s37 i34 s38 i39 i40 (by omega);have l3:=Qhc (encI (g.sig.i 0) (g.sig.s 6) i++[(rowE (g.sig.s 6) i).k%256]++pbL ((rowE (g.sig.s 6) i).r-(Qj zeE (g.sig.s 6) i).r)) (pbL ((rowE (g.sig.s 6) i).b-(Qj zeE (g.sig.s 6) i).b));obtain ⟨c4,m4⟩:=Qkf c3 m3 s41 (show U.i 22%256=(rowE (g.sig.s 6) i).v%256 by rw [i22]) s42 i43 (by omega);have eP:encI (g.sig.i 0) (g.sig.s 6) i++[(rowE (g.sig.s 6) i).k%256]++pbL ((rowE (g.sig.s 6) i).r-(Qj zeE (g.sig.s 6) i).r)++pbL ((rowE (g.sig.s 6) i).b-(Qj zeE (g.sig.s 6) i).b)++[(rowE (g.sig.s 6) i).v%256]=encI (g.sig.i 0) (g.sig.s 6) i++entB (Qj zeE (g.sig.s 6) i) (rowE (g.sig.s 6) i):=by
    simp only [entB,List.append_assoc]
   rw [eP] at c4 m4;have hby:=(Qpm (g.sig.i 0) (g.sig.s 6) i).app (Qt7 (Qj zeE (g.sig.s 6) i) (rowE (g.sig.s 6) i));have hel:=Qt8 (Qj zeE (g.sig.s 6) i) (rowE (g.sig.s 6) i);have l5:=Qhc (encI (g.sig.i 0) (g.sig.s 6) i) (entB (Qj zeE (g.sig.s 6) i) (rowE (g.sig.s 6) i));have hsum:=Qd5 (encI (g.sig.i 0) (g.sig.s 6) i++entB (Qj zeE (g.sig.s 6) i) (rowE (g.sig.s 6) i));rw [c4,Qbk] at i44;rw [ht,c4,Qff,Qoj hby,wr_u8] at i51;obtain ⟨c5,m5⟩:=Qkf c4 m4 s52 (show U.i 51%256=sumL (encI (g.sig.i 0) (g.sig.s 6) i++entB (Qj zeE (g.sig.s 6) i) (rowE (g.sig.s 6) i)) by omega) s53 i54 (by omega);rw [<-Qpn] at c5 m5;have m5':=m5;rw [Qpn,List.length_append] at m5';simp only [List.length_cons,List.length_nil] at m5';rw [Qh] at i57
   have fin:(SEx.normal=.normal/\Qj2=Qj2/\Qx (asgS U ([(14,.symi .i64 54),(1,.symi .i64 1),(1,.symi .i64 1),(8,.symi .i64 57),(6,.syms 6),(7,.symi .i64 7),(0,.symi .u32 0),(1,.symi .i64 1),(2,.symi .i64 2),(3,.symi .u64 3),(4,.symi .u64 4),(5,.symi .i64 5),(9,.symi .u64 19),(10,.symi .u64 20),(11,.symi .i64 21),(12,.symi .u8 22),(13,.syms 53),(14,.symi .i64 54)]++[])) 15 Qvp/\(∃i,J15 g.sig (g.sig.s 6) n N i (asgS U ([(14,.symi .i64 54),(1,.symi .i64 1),(1,.symi .i64 1),(8,.symi .i64 57),(6,.syms 6),(7,.symi .i64 7),(0,.symi .u32 0),(1,.symi .i64 1),(2,.symi .i64 2),(3,.symi .u64 3),(4,.symi .u64 4),(5,.symi .i64 5),(9,.symi .u64 19),(10,.symi .u64 20),(11,.symi .i64 21),(12,.symi .u8 22),(13,.syms 53),(14,.symi .i64 54)]++[])))/\(asgS U ([(14,.symi .i64 54),(1,.symi .i64 1),(1,.symi .i64 1),(8,.symi .i64 57),(6,.syms 6),(7,.symi .i64 7),(0,.symi .u32 0),(1,.symi .i64 1),(2,.symi .i64 2),(3,.symi .u64 3),(4,.symi .u64 4),(5,.symi .i64 5),(9,.symi .u64 19),(10,.symi .u64 20),(11,.symi .i64 21),(12,.symi .u8 22),(13,.syms 53),(14,.symi .i64 54)]++[])).tab=Qa/\((asgS U ([(14,.symi .i64 54),(1,.symi .i64 1),(1,.symi .i64 1),(8,.symi .i64 57),(6,.syms 6),(7,.symi .i64 7),(0,.symi .u32 0),(1,.symi .i64 1),(2,.symi .i64 2),(3,.symi .u64 3),(4,.symi .u64 4),(5,.symi .i64 5),(9,.symi .u64 19),(10,.symi .u64 20),(11,.symi .i64 21),(12,.symi .u8 22),(13,.syms 53),(14,.symi .i64 54)]++[])).i 1-(asgS U ([(14,.symi .i64 54),(1,.symi .i64 1),(1,.symi .i64 1),(8,.symi .i64 57),(6,.syms 6),(7,.symi .i64 7),(0,.symi .u32 0),(1,.symi .i64 1),(2,.symi .i64 2),(3,.symi .u64 3),(4,.symi .u64 4),(5,.symi .i64 5),(9,.symi .u64 19),(10,.symi .u64 20),(11,.symi .i64 21),(12,.symi .u8 22),(13,.syms 53),(14,.symi .i64 54)]++[])).i 8).toNat<(U.i 1-U.i 8).toNat):=by
    refine ⟨rfl,rfl,insK (X:=Qqw) e hi,⟨i+1,⟨⟨hj.s,hj.n0,hj.nN,hj.v0,hj.v2,hj.v3,hj.v4,hj.v5,i19,i20,i21,i22,c5,m5,hle,hlt,hsz,hs1,extS hj.xe⟩,?_⟩⟩,tabS ht,?_⟩;show U.i 57=_;omega;show (U.i 1-U.i 57).toNat<(U.i 1-U.i 8).toNat;omega
   exact ⟨fun f16=>⟨fun f17=>⟨fun f18=>⟨fun f28=>⟨fun f29=>⟨fun f35=>⟨fun f36=>⟨fun f45=>⟨fun f46=>⟨fun f47=>⟨fun f48=>⟨fun f49=>⟨fun f50=>⟨fun f55=>⟨fun f56=> .inl fin,fun f=>tr b56 f (by omega)⟩,fun f=>tr b55 f (by omega)⟩,fun f=>tr b50 f (by omega)⟩,fun f=>tr b49 f (by omega)⟩,fun f=>tr b48 f (by omega)⟩,fun f=>tr b47 f (by omega)⟩,fun f=>tr b46 f (by omega)⟩,fun f=>tr b45 f (by omega)⟩,fun f=>tr b36 f (by omega)⟩,fun f=>tr b35 f (by omega)⟩,fun f=>tr b29 f (by omega)⟩,fun f=>tr b28 f (by omega)⟩,fun f=>tr b18 f (by omega)⟩,fun f=>tr b17 f (by omega)⟩,fun f=>tr b16 f (by omega)⟩;rw [b15,decide_eq_false_iff_not] at f15;obtain rfl:i=n:=by omega
   refine .inr (.inl ⟨rfl,rfl,insK (X:=Qqw) e hi,⟨hj.s,hj.n0,hj.nN,hj.v0,hj.v2,hj.v3,hj.v4,hj.v5,hj.r,hj.b,hj.k,hj.v,hj.c,hj.m,hle,hhi,hsz,hs1,extS hj.xe⟩,tabS ht⟩)
  refine Qf.seg mixed Qbe4 ⟨rfl,rfl⟩ (fun V U (ag:Agree 8 V U) (h:Agree 8 g.sig V)=>h.trans' ag) (fun U h=>Qv) hloop (fun U e ht hi ag=> ?_) (pin0 (by kernel_rfl));refine Qp ?_;have a:=fun i h=>(ag.val i h).1.symm;have a0:=a 0 (by decide);have a1:=a 1 (by decide);have a2:=a 2 (by decide);have a3:=a 3 (by decide);have a4:=a 4 (by decide);have a5:=a 5 (by decide);have a7:=a 7 (by decide);have a6:U.s 6=g.sig.s 6:=(ag.val 6 (by decide)).2.2.symm;have w0:=hi 0 .u32 (by decide) rfl;rw [Qd7] at w0;have F:Facs U 8 Qmq:=facs e;dsimp only [Qmq,Facs,fac1,facI,facS,facB,oI,oK,oB,oS,nmL,nm,Nat.reduceAdd] at F;obtain ⟨b8,b9,b10,b11,-,i13,-,-,s16,-,i18,-,s20,-,i22,-,s24,-,i26,-,s28,-⟩:=F;have i12:U.i 12=U.i 0/16777216:=(eqI (x:=(U.i 0:Int).fdiv (2^(min (24:Int).toNat IntKind.u32.bits))) (e.at 4 _ rfl rfl) rfl).trans (by rw [show (2:Int)^(min (24:Int).toNat IntKind.u32.bits)=16777216 by decide];exact Qbf (by decide));have s14:U.s 14=bs [80,76,1]:=(Qbx (e.at 6 _ rfl rfl)).trans rfl;have s15:U.s 15=bs [U.i 13%256]:=Qe8 (e.at 7 _ rfl rfl) rfl;have i17:U.i 17=U.i 0/65536:=(eqI (x:=(U.i 0:Int).fdiv (2^(min (16:Int).toNat IntKind.u32.bits))) (e.at 9 _ rfl rfl) rfl).trans (by rw [show (2:Int)^(min (16:Int).toNat IntKind.u32.bits)=65536 by decide];exact Qbf (by decide));have s19:U.s 19=bs [U.i 18%256]:=Qe8 (e.at 11 _ rfl rfl) rfl
  have i21:U.i 21=U.i 0/256:=(eqI (x:=(U.i 0:Int).fdiv (2^(min (8:Int).toNat IntKind.u32.bits))) (e.at 13 _ rfl rfl) rfl).trans (by rw [show (2:Int)^(min (8:Int).toNat IntKind.u32.bits)=256 by decide];exact Qbf (by decide));have s23:U.s 23=bs [U.i 22%256]:=Qe8 (e.at 15 _ rfl rfl) rfl;have i25:U.i 25=U.i 0/1:=(eqI (x:=(U.i 0:Int).fdiv (2^(min (0:Int).toNat IntKind.u32.bits))) (e.at 17 _ rfl rfl) rfl).trans (by rw [show (2:Int)^(min (0:Int).toNat IntKind.u32.bits)=1 by decide];exact Qbf (by decide));have s27:U.s 27=bs [U.i 26%256]:=Qe8 (e.at 19 _ rfl rfl) rfl;have tr: ∀{P:Prop} {b:Bool} [Decidable P],b=decide P->b=false->P->False:=fun hb hf hp=>by rw [hb,decide_eq_false_iff_not] at hf;exact hf hp
  rw [wr_u8] at i13 i18 i22 i26;have hq:(!(g.sig.tab 448 [g.sig.i 0,encB (g.sig.s 6),g.sig.i 1,g.sig.i 2,g.sig.i 3,g.sig.i 4,g.sig.i 5]==0))=true:=by
   simp only [lgF,Qb,List.map,den,numS,Option.some.injEq,AVal.bool.injEq] at q4;exact q4
  have f11:U.b 11=true:=by rw [b11,a0,a1,a2,a3,a4,a5,a6,ht,<-hg];exact hq
  have hb:U.s 28=bs (encI (g.sig.i 0) (g.sig.s 6) 0):=by
   rw [s28,s24,s20,s16,s14,s15,s19,s23,s27,bs3];show _=bs (head (g.sig.i 0));unfold head;rw [show U.i 13%256=g.sig.i 0/16777216%256 by omega,show U.i 18%256=g.sig.i 0/65536%256 by omega,show U.i 22%256=g.sig.i 0/256%256 by omega,show U.i 26%256=g.sig.i 0%256 by omega]
  exact ⟨fun f8=>⟨fun f9=>⟨fun f10=>⟨fun f11=> .inl ⟨rfl,rfl,insK (X:=Qu5) e hi,⟨0,⟨⟨a6,a1.trans hgn,a7.trans hgN,a0,a2,a3,a4,a5,rfl,rfl,rfl,rfl,hb,rfl,by omega,Nat.zero_le _,by omega,by omega,extS ag.ext.symm⟩,rfl⟩⟩,tabS ht⟩,fun f=>by rw [f11] at f;cases f⟩,fun f=>tr b10 f (by omega)⟩,fun f=>tr b9 f (by omega)⟩,fun f=>tr b8 f (by omega)⟩)
end Go.Proofs.YtelimhjceiamcaaDoor.lg
set_option maxRecDepth 100000
namespace Go.Proofs.YtelimhjceiamcaaDoor.lg
open Go.Ev Go.RowKit Go.Wbp Go.Lgp
open Go.Proofs.YtelimhjceiamcaaDoor.lgn (mixed sf48 Qbu)
def Qbi1:Shape:=⟨argT 0 [lgA],[eL 6 7]⟩
def Qbio:List Blk:=[eL 6 7,.cells lgC 39,.cells [.symi .u64 9,.symi .u64 10,.symi .i64 11,.symi .u8 12] 67]
def Qh9:Shape:=⟨[(0,lgA),(1,.ptr 1 0),(3,.ptr 2 0),(4,.i 8)],Qbio⟩
def Qeh:Shape:=⟨[(0,lgA),(2,.symb 8)],[eL 6 7]⟩
def sf22:SymF:=
 {f:=22,m:=8,ins:=lgK,args:=[lgA],pre:=[eL 6 7],pcs:=lgQ,G:=[.fnb 448 lgF],v:=.symb 8,post:=[eL 6 7]}
def Q3o:List SDef:=[]
def Q3p:LT:=.e
def Qbgc:Sw:=.run (.leaf .normal Qh9 [(0,0),(1,0),(2,0)] [(0,.w 0),(1,.i 1),(2,.i 2),(3,.u 3),(4,.u 4),(5,.i 5),(8,.z 0),(6,.s 6),(7,.i 7),(0,.w 0),(1,.i 1),(2,.i 2),(3,.u 3),(4,.u 4),(5,.i 5),(9,.o 0),(10,.o 0),(11,.z (-1)),(12,.int .u8 0)] [])
def Qbgb:KdT:=kdN 0x10122114 4 1 0
noncomputable def Q3q:Ing:={m:=8,ins:=lgK,G:=Q3o,T:=Q3p,tab:=Qa,lsts:=Qs,kb:=8,kt:=Qbgb}
theorem Qbgd:okLT 8 Q3o Q3p=true:=by kernel_rfl
theorem Qbge:SegOk Tryd.prog Qa 78 ((Qe (Qc Tryd.f22)).take 3) Qbi1 Q3q Qbgc:=
  ⟨Qbgd,by kernel_rfl,fun F=>Qbw rfl F,rfl,by kernel_rfl,by kernel_rfl,rfl,rfl,fun _=>trivial,by kernel_rfl⟩
def Qmz:List SDef:=[.q .lss (.i 8) (.i 1),
 .q .lss (.i 8) (.i 7),
 .q .leq (.z 0) (.i 8),
 .sop (.cell [.some .u64,.some .u64,.some .i64,.some .u8] 0) [.s 6,.i 8],
 .sop (.cell [.some .u64,.some .u64,.some .i64,.some .u8] 1) [.s 6,.i 8],
 .sop (.cell [.some .u64,.some .u64,.some .i64,.some .u8] 2) [.s 6,.i 8],
 .sop (.cell [.some .u64,.some .u64,.some .i64,.some .u8] 3) [.s 6,.i 8],
 .q .lss (.i 18) (.z 0),
 .q .gtr (.i 18) (.z 2),
 .q .gtr (.u 16) (.o 1099511627776),
 .q .gtr (.u 17) (.u 16),
 .q .lss (.u 17) (.u 10),
 .q .lss (.u 16) (.u 9),
 .q .gtr (.u 16) (.u 9),
 .q .gtr (.i 18) (.i 11),
 .q .eql (.u 17) (.u 10),
 .ite (.symb 27) (.symb 28) (.bool false),
 .ite (.symb 26) (.bool true) (.symb 29),
 .ite (.symb 25) (.bool false) (.symb 30),
 .ite (.symb 24) (.bool false) (.symb 31),
 .ite (.symb 23) (.bool false) (.symb 32),
 .ite (.symb 22) (.bool false) (.symb 33),
 .un .not (.symb 34),
 .q .add (.i 8) (.z 1)]
def Q3r:LT:=Go.Wbp.fT 13 Qmz (.n (.n (.n (.n (.n .e 77644597 13 .e) 212888567 35 (.n .e 226216113 27 .e)) 388565923 22 (.n (.n .e 409073380 29 .e) 411250164 25 .e)) 411250178 26 (.n (.n (.n .e 477075008 30 .e) 489076000 31 .e) 501076396 32 (.n (.n .e 513076792 33 .e) 525077188 34 .e))) 542408004 16 (.n (.n (.n (.n .e 542408006 17 .e) 542408008 18 .e) 542408010 19 (.n (.n .e 599375197 15 .e) 744274035 20 .e)) 744374119 21 (.n (.n (.n .e 768241873 23 .e) 808062776 36 .e) 855604031 28 (.n (.n .e 855604045 24 .e) 1064024238 14 .e))))
def Qbgg:Sw:=.n 13 (.x 14 (.x 15 (.run (.node 20 (.leaf .ret Qeh [(0,0)] [(0,.w 0),(1,.i 1),(2,.i 2),(3,.u 3),(4,.u 4),(5,.i 5),(8,.bool false),(6,.s 6),(7,.i 7)] []) (.node 21 (.leaf .ret Qeh [(0,0)] [(0,.w 0),(1,.i 1),(2,.i 2),(3,.u 3),(4,.u 4),(5,.i 5),(8,.bool false),(6,.s 6),(7,.i 7)] []) (.node 35 (.leaf .ret Qeh [(0,0)] [(0,.w 0),(1,.i 1),(2,.i 2),(3,.u 3),(4,.u 4),(5,.i 5),(8,.bool false),(6,.s 6),(7,.i 7)] []) (.leaf .normal Qh9 [(0,0),(1,0),(2,0)] [(0,.w 0),(1,.i 1),(2,.i 2),(3,.u 3),(4,.u 4),(5,.i 5),(8,.i 36),(6,.s 6),(7,.i 7),(0,.w 0),(1,.i 1),(2,.i 2),(3,.u 3),(4,.u 4),(5,.i 5),(9,.u 16),(10,.u 17),(11,.i 18),(12,.c 19)] []))))))) (.run (.leaf (.exit 0) Qh9 [(0,0),(1,0),(2,0)] [(0,.w 0),(1,.i 1),(2,.i 2),(3,.u 3),(4,.u 4),(5,.i 5),(8,.i 8),(6,.s 6),(7,.i 7),(0,.w 0),(1,.i 1),(2,.i 2),(3,.u 3),(4,.u 4),(5,.i 5),(9,.u 9),(10,.u 10),(11,.i 11),(12,.c 12)] []))
def Qbgf:KdT:=kdN 0x1000000000000000031220003122110122114 6 1 0
noncomputable def Qu8:Ing:={m:=13,ins:=Qhf,G:=Qmz,T:=Q3r,tab:=Qa,lsts:=Qs,kb:=37,kt:=Qbgf}
theorem Qbgh:okLT 13 Qmz Q3r=true:=by kernel_rfl
theorem Qbgi:SegOk Tryd.prog Qa 78 ([Qbn (Qc Tryd.f22)]) Qh9 Qu8 Qbgg:=
  ⟨Qbgh,by kernel_rfl,fun F=>Qbw rfl F,rfl,by kernel_rfl,by kernel_rfl,rfl,rfl,fun _=>trivial,by kernel_rfl⟩
def Qm0:List SDef:=[.q .leq (.u 3) (.o 1099511627776),
 .q .leq (.u 4) (.u 3),
 .q .geq (.u 3) (.u 9),
 .q .geq (.u 4) (.u 10),
 .q .geq (.i 2) (.z 0),
 .q .leq (.i 2) (.z 1073741824),
 .q .geq (.i 5) (.z 0),
 .q .leq (.i 5) (.z 6)]
def Q3s:LT:=Go.Wbp.fT 13 Qm0 (.n (.n (.n (.n .e 149303804 13 .e) 171988073 15 .e) 201860916 18 (.n .e 202011035 17 .e)) 360350548 14 (.n (.n .e 505011944 19 .e) 505312140 20 (.n .e 616341954 16 .e)))
def Qbgk:Sw:=.run (.node 13 (.node 14 (.node 15 (.node 16 (.node 17 (.node 18 (.node 19 (.leaf .ret Qeh [(0,0)] [(0,.w 0),(1,.i 1),(2,.i 2),(3,.u 3),(4,.u 4),(5,.i 5),(8,.symb 20),(6,.s 6),(7,.i 7)] []) (.leaf .ret Qeh [(0,0)] [(0,.w 0),(1,.i 1),(2,.i 2),(3,.u 3),(4,.u 4),(5,.i 5),(8,.bool false),(6,.s 6),(7,.i 7)] [])) (.leaf .ret Qeh [(0,0)] [(0,.w 0),(1,.i 1),(2,.i 2),(3,.u 3),(4,.u 4),(5,.i 5),(8,.bool false),(6,.s 6),(7,.i 7)] [])) (.leaf .ret Qeh [(0,0)] [(0,.w 0),(1,.i 1),(2,.i 2),(3,.u 3),(4,.u 4),(5,.i 5),(8,.bool false),(6,.s 6),(7,.i 7)] [])) (.leaf .ret Qeh [(0,0)] [(0,.w 0),(1,.i 1),(2,.i 2),(3,.u 3),(4,.u 4),(5,.i 5),(8,.bool false),(6,.s 6),(7,.i 7)] [])) (.leaf .ret Qeh [(0,0)] [(0,.w 0),(1,.i 1),(2,.i 2),(3,.u 3),(4,.u 4),(5,.i 5),(8,.bool false),(6,.s 6),(7,.i 7)] [])) (.leaf .ret Qeh [(0,0)] [(0,.w 0),(1,.i 1),(2,.i 2),(3,.u 3),(4,.u 4),(5,.i 5),(8,.bool false),(6,.s 6),(7,.i 7)] [])) (.leaf .ret Qeh [(0,0)] [(0,.w 0),(1,.i 1),(2,.i 2),(3,.u 3),(4,.u 4),(5,.i 5),(8,.bool false),(6,.s 6),(7,.i 7)] []))
def Qbgj:KdT:=kdN 0x3122110122114 5 1 0
noncomputable def Qbgl:Ing:={m:=13,ins:=Qhf,G:=Qm0,T:=Q3s,tab:=Qa,lsts:=Qs,kb:=21,kt:=Qbgj}
theorem Qbgm:okLT 13 Qm0 Q3s=true:=by kernel_rfl
theorem Qbgn:SegOk Tryd.prog Qa 78 ((Qe (Qc Tryd.f22)).drop 4) Qh9 Qbgl Qbgk:=
  ⟨Qbgm,by kernel_rfl,fun F=>Qbw rfl F,rfl,by kernel_rfl,by kernel_rfl,rfl,rfl,fun _=>trivial,by kernel_rfl⟩
structure J22 (g:Sig) (C:ByteArray) (n N i:Nat) (V:Sig):Prop where
 s:V.s 6=C
 n0:V.i 1=n
 nN:V.i 7=N
 v0:V.i 0=g.i 0
 v2:V.i 2=g.i 2
 v3:V.i 3=g.i 3
 v4:V.i 4=g.i 4
 v5:V.i 5=g.i 5
 i0:V.i 8=i
 r:V.i 9=(Qj noE C i).r
 b:V.i 10=(Qj noE C i).b
 k:V.i 11=(Qj noE C i).k
 v:V.i 12=(Qj noE C i).v
 le:n<=N
 hi:i<=n
 sz:N<=1000000
 xe:V.ext=g.ext
 ok:Qc9 noE (lstE C n) ⟨g.i 3,g.i 4,255,0⟩=Qc9 (Qj noE C i) ((lstE C n).drop i) ⟨g.i 3,g.i 4,255,0⟩
theorem J22.agree {g:Sig} {C:ByteArray} {n N i:Nat} {V U:Sig} (ag:Agree 13 V U) (h:J22 g C n N i V):J22 g C n N i U:=by
  cases h;constructor<;>first|assumption|(simp (disch:=decide) only [ag.iv,ag.bv,ag.sv,ag.xv];assumption)
def L22:Asg:=[(8,.symb 8),(6,.s 6),(7,.i 7)]
theorem Qblm {g:Inj} {n:Nat} (hg:g.sig.tab=Qa) (hE:Eqs g.sig sf22.m sf22.G) (hn:g.sig.i 1=n):g.sig.b 8=right (lgG g.sig n):=by
 have h:g.sig.b 8= !(g.sig.tab 448 [g.sig.i 0,encB (g.sig.s 6),g.sig.i 1,g.sig.i 2,g.sig.i 3,g.sig.i 4,g.sig.i 5]==0):=Qlz (hE.at 0 _ rfl rfl);rw [h,hg,hn,Qj6];rfl
abbrev Z22 (g:Inj) (w:World):Exit->Act->World->Prop:=bodyPost Tryd.prog Tryd.f22 (MemR Qa sf22 g w)
theorem Q0w {g:Inj} {w:World} {n N:Nat} (hg:g.sig.tab=Qa) (hE:Eqs g.sig sf22.m sf22.G) (hH:HRel (cx0 Qa) g sf22.pre w) (hgn:g.sig.i 1=n) (hgN:g.sig.i 7=N) {U:Sig} {b:AVal} {bv:Bool} (hs:U.s 6=g.sig.s 6) (hN:U.i 7=N) (hx:U.ext=g.sig.ext) (hb:valS U b=.bool bv) (h:bv=right (lgG g.sig n)):
  EndZ Qa 78 (Qu g w sf22.pre.length) (Z22 g w) .ret Qeh (asgS U ([(0,.symi .u32 0),(1,.symi .i64 1),(2,.symi .i64 2),(3,.symi .u64 3),(4,.symi .u64 4),(5,.symi .i64 5),(8,b),(6,.syms 6),(7,.symi .i64 7)]++[])):=by
 refine Qb8 (M:=9) (l:=L22) (vs:=[.symb 8]) (by kernel_rfl) rfl rfl hH hg rfl rfl rfl (by kernel_rfl) (by kernel_rfl) ⟨?_,congrArg AVal.str hs,congrArg (AVal.int .i64) (hN.trans hgN.symm),trivial⟩ (by decide) (extS hx) (.inl rfl);show AVal.bool (bOf (valS U b))=AVal.bool (g.sig.b 8);rw [hb,Qblm hg hE hgn,<-h];rfl
set_option maxHeartbeats 1000000 in
theorem c22:SymFOk Tryd.prog Qa (fun _=>True) sf22:=
 Qb5 Tryd.func22 rfl (n:=78) rfl (by decide) (by decide) rfl rfl (by kernel_rfl) (fun g w hg _ hE hI hpc hH=>by
  have q0:=hpc (.bin .leq (.int .i64 0) (.symi .i64 1)) (by simp [sf22,lgQ]);have q1:=hpc (.bin .leq (.symi .i64 1) (.symi .i64 7)) (by simp [sf22,lgQ]);have q2:=hpc (.bin .leq (.symi .i64 7) (.int .i64 1000000)) (by simp [sf22,lgQ]);simp only [Qb,den,binS,intA,if_true,Option.some.injEq,AVal.bool.injEq,decide_eq_true_eq] at q0 q1 q2;obtain ⟨n,hgn⟩: ∃n:Nat,g.sig.i 1=n:=⟨(g.sig.i 1).toNat,by omega⟩;obtain ⟨N,hgN⟩: ∃n:Nat,g.sig.i 7=n:=⟨(g.sig.i 7).toNat,by omega⟩;have hlast:Qf Tryd.prog Qa 78 (Qu g w sf22.pre.length) (Z22 g w) ((Qe (Qc Tryd.f22)).drop 4) Qh9 13 Qhf (J22 g.sig (g.sig.s 6) n N n):=by
   refine Qf.last mixed Qbgn ⟨rfl,rfl⟩ (fun V U ag h=>h.agree ag) (fun U h=>Qv) (fun U e ht hi hj=> ?_) (pin0 (by kernel_rfl));refine Qp ?_;have hok:=hj.ok;rw [Q8a] at hok;have v2:=hj.v2;have v3:=hj.v3;have v4:=hj.v4;have v5:=hj.v5;have hr:=hj.r;have hb:=hj.b;have F:Facs U 13 Qm0:=facs e;dsimp only [Qm0,Facs,fac1,facI,facS,facB,oI,oK,oB,oS,nmL,nm,Nat.reduceAdd] at F;obtain ⟨b13,b14,b15,b16,b17,b18,b19,b20,-⟩:=F;have key:right (lgG g.sig n)=true↔(U.b 13=true/\U.b 14=true/\U.b 15=true/\U.b 16=true/\U.b 17=true/\U.b 18=true/\U.b 19=true/\U.b 20=true):=by
    rw [Qhl];show Qc9 noE (lstE (g.sig.s 6) n) ⟨g.sig.i 3,g.sig.i 4,255,0⟩=true/\0<=g.sig.i 2/\g.sig.i 2<=1073741824/\0<=g.sig.i 5/\g.sig.i 5<=6↔_;rw [hok,Qll];simp only [b13,b14,b15,b16,b17,b18,b19,b20,v2,v3,v4,v5,hr,hb,sb,beq_iff_eq];omega
   have f0:=fun (b:AVal) (bv:Bool)=>Q0w (b:=b) (bv:=bv) hg hE hH hgn hgN hj.s hj.nN hj.xe;have no: ∀i,U.b i=false->(right (lgG g.sig n)=true->U.b i=true)->false=right (lgG g.sig n):=fun i h1 h2=>by
    rw [eq_comm,Bool.eq_false_iff,ne_eq];intro h;rw [h2 h] at h1;cases h1
   refine ⟨fun f13=>⟨fun f14=>⟨fun f15=>⟨fun f16=>⟨fun f17=>⟨fun f18=>⟨fun f19=>f0 _ _ rfl ?_,fun f=>f0 _ _ rfl (no 19 f fun h=>(key.1 h).2.2.2.2.2.2.1)⟩,fun f=>f0 _ _ rfl (no 18 f fun h=>(key.1 h).2.2.2.2.2.1)⟩,fun f=>f0 _ _ rfl (no 17 f fun h=>(key.1 h).2.2.2.2.1)⟩,fun f=>f0 _ _ rfl (no 16 f fun h=>(key.1 h).2.2.2.1)⟩,fun f=>f0 _ _ rfl (no 15 f fun h=>(key.1 h).2.2.1)⟩,fun f=>f0 _ _ rfl (no 14 f fun h=>(key.1 h).2.1)⟩,fun f=>f0 _ _ rfl (no 13 f fun h=>(key.1 h).1)⟩;rw [Bool.eq_iff_iff,key];simp only [f13,f14,f15,f16,f17,f18,f19,true_and]
  rw [show Qe (Qc Tryd.f22)=(Qe (Qc Tryd.f22)).take 3++(.block (idOf (Qc Tryd.f22)) (.loop (Qbn (Qc Tryd.f22)))::(Qe (Qc Tryd.f22)).drop 4) from rfl];have hloop:Qf Tryd.prog Qa 78 (Qu g w sf22.pre.length) (Z22 g w) (.block (idOf (Qc Tryd.f22)) (.loop (Qbn (Qc Tryd.f22)))::(Qe (Qc Tryd.f22)).drop 4) Qh9 13 Qhf (fun V=> ∃i,J22 g.sig (g.sig.s 6) n N i V):=by
   refine Qf.loop (μ:=fun V=>(V.i 1-V.i 8).toNat) mixed Qbgi ⟨rfl,rfl⟩ (fun V U ag h=>let ⟨i,hi⟩:=h;⟨i,hi.agree ag⟩) (fun V U ag=>by rw [(ag.val 1 (by decide)).1,(ag.val 8 (by decide)).1]) (fun U h=>Qv) hlast (fun U e ht hi hj=> ?_) (pin0 (by kernel_rfl));obtain ⟨i,hj⟩:=hj;refine Qp ?_;have hn0:=hj.n0;have hnN:=hj.nN;have hi0:=hj.i0;have hle:=hj.le;have hhi:=hj.hi;have hsz:=hj.sz;have hr:=hj.r;have hb:=hj.b;have hk:=hj.k;have F:Facs U 13 Qmz:=facs e;dsimp only [Qmz,Facs,fac1,facI,facS,facB,oI,oK,oB,oS,nmL,nm,Nat.reduceAdd] at F;obtain ⟨b13,b14,b15,-,-,-,-,b20,b21,b22,b23,b24,b25,b26,b27,b28,b29,b30,b31,b32,b33,b34,b35,i36,-⟩:=F;have i16:U.i 16=(rowE (U.s 6) (U.i 8:Int).toNat).r:=Qbl (e.at 3 _ rfl rfl) rfl;have i17:U.i 17=(rowE (U.s 6) (U.i 8:Int).toNat).b:=Qbl (e.at 4 _ rfl rfl) rfl;have i18:U.i 18=(rowE (U.s 6) (U.i 8:Int).toNat).k:=Qbl (e.at 5 _ rfl rfl) rfl;have i19:U.i 19=(rowE (U.s 6) (U.i 8:Int).toNat).v:=Qbl (e.at 6 _ rfl rfl) rfl;have tr: ∀{P:Prop} {b:Bool} [Decidable P],b=decide P->b=false->P->False:=fun hb hf hp=>by rw [hb,decide_eq_false_iff_not] at hf;exact hf hp
   refine ⟨fun f13=>⟨fun f14=>⟨fun f15=> ?_,fun f=>tr b15 f (by omega)⟩,fun f=>tr b14 f (by rw [b13,decide_eq_true_eq] at f13;omega)⟩,fun f13=> ?_⟩;rw [b13,decide_eq_true_eq] at f13;rw [Qh] at i36;have hlt:i<n:=by omega
   have hok:=hj.ok;rw [Q8b noE hlt] at hok;rw [hj.s,hi0,Int.toNat_natCast] at i16 i17 i18 i19;have key:Qcx (Qj noE (g.sig.s 6) i) (rowE (g.sig.s 6) i)=true↔ ¬(U.b 20=true\/U.b 21=true\/U.b 35=true):=by
    rw [Qso];simp only [b20,b21,b22,b23,b24,b25,b26,b27,b28,b29,b30,b31,b32,b33,b34,b35,i16,i17,i18,hr,hb,hk,sb,beq_iff_eq];omega
   have f0:=fun (b:AVal) (bv:Bool)=>Q0w (b:=b) (bv:=bv) hg hE hH hgn hgN hj.s hj.nN hj.xe;have bad:(U.b 20=true\/U.b 21=true\/U.b 35=true)->false=right (lgG g.sig n):=by
    intro h;rw [eq_comm,Bool.eq_false_iff,ne_eq,Qhl];show¬(Qc9 noE (lstE (g.sig.s 6) n) ⟨g.sig.i 3,g.sig.i 4,255,0⟩=true/\_);rw [hok,Bool.and_eq_true,key];exact fun h'=>h'.1.1 h
   refine ⟨fun f20=> .inr (.inr ⟨rfl,f0 _ _ rfl (bad (.inl f20))⟩),fun f20=>⟨fun f21=> .inr (.inr ⟨rfl,f0 _ _ rfl (bad (.inr (.inl f21)))⟩),fun f21=>⟨fun f35=> .inr (.inr ⟨rfl,f0 _ _ rfl (bad (.inr (.inr f35)))⟩),fun f35=> .inl ⟨rfl,rfl,insK (X:=Qu8) e hi,⟨i+1,hj.s,hj.n0,hj.nN,hj.v0,hj.v2,hj.v3,hj.v4,hj.v5,?_,i16,i17,i18,i19,hle,hlt,hsz,extS hj.xe,?_⟩,tabS ht,?_⟩⟩⟩⟩;show U.i 36=_;omega;rw [hok,key.2 (by rw [f20,f21,f35];simp),Bool.true_and];show (U.i 1-U.i 36).toNat<(U.i 1-U.i 8).toNat;omega;rw [b13,decide_eq_false_iff_not] at f13;obtain rfl:i=n:=by omega
   exact .inr (.inl ⟨rfl,rfl,insK (X:=Qu8) e hi,⟨hj.s,hj.n0,hj.nN,hj.v0,hj.v2,hj.v3,hj.v4,hj.v5,hj.i0,hj.r,hj.b,hj.k,hj.v,hle,hhi,hsz,extS hj.xe,hj.ok⟩,tabS ht⟩)
  refine Qf.seg mixed Qbge ⟨rfl,rfl⟩ (fun V U (ag:Agree 8 V U) (h:Agree 8 g.sig V)=>h.trans' ag) (fun U h=>Qv) hloop (fun U e ht hi ag=> ?_) (pin0 (by kernel_rfl));refine Qp ?_;have a:=fun i h=>(ag.val i h).1.symm;exact .inl ⟨rfl,rfl,insK (X:=Q3q) e hi,⟨0,(ag.val 6 (by decide)).2.2.symm,(a 1 (by decide)).trans hgn,(a 7 (by decide)).trans hgN,a 0 (by decide),a 2 (by decide),a 3 (by decide),a 4 (by decide),a 5 (by decide),rfl,rfl,rfl,rfl,rfl,by omega,Nat.zero_le _,by omega,extS ag.ext.symm,rfl⟩,tabS ht⟩)
end Go.Proofs.YtelimhjceiamcaaDoor.lg
set_option maxRecDepth 100000
namespace Go.Proofs.YtelimhjceiamcaaDoor.lg
open Go.Ev Go.RowKit Go.Wbp Go.Lgp
open Go.Proofs.YtelimhjceiamcaaDoor.lgn (mixed sf48 Qbu)
def Qbiw:Shape:=⟨argT 0 [.s 0],[]⟩
def Qq3:Shape:=⟨[(0,.s 0),(3,.c 1),(4,.i 2)],[]⟩
def Q5n:List (Option IntKind):=[none,some .u8,some .i64]
def Qvs:Shape:=⟨[(3,.c 1)],[]⟩
def Q5r:List (Option IntKind):=[none,some .u8]
def Qbir:Shape:=⟨[(2,.c 2)],[]⟩
def sf11:SymF:=
 {f:=11,m:=1,ins:=Qj3,args:=[.s 0],pre:=[],pcs:=[.q .leq (.i 1) (.z 1000000)],
  G:=[.sop .len [.s 0],.fn 384 .u8 [.s 0]],v:=.c 2,post:=[]}
def Q2m:List SDef:=[]
def Q2n:LT:=.e
def Qbei:Sw:=.run (.leaf .normal Qq3 [] [(0,.s 0),(1,.int .u8 0),(2,.z 0)] [])
def Qbeh:KdT:=kdN 0x0 1 1 0
noncomputable def Q2o:Ing:={m:=1,ins:=Qj3,G:=Q2m,T:=Q2n,tab:=Qa,lsts:=Qs,kb:=1,kt:=Qbeh}
theorem Qbej:okLT 1 Q2m Q2n=true:=by kernel_rfl
theorem Qbek:SegOk Tryd.prog Qa 22 ((Qe (Qc Tryd.f11)).take 3) Qbiw Q2o Qbei:=
  ⟨Qbej,by kernel_rfl,fun F=>Qbw rfl F,rfl,by kernel_rfl,by kernel_rfl,rfl,rfl,fun _=>trivial,by kernel_rfl⟩
def Qmo:List SDef:=[.sop .len [.s 0],
 .q .lss (.i 2) (.i 3),
 .q .shl (.c 1) (.o 1),
 .q .shr (.c 1) (.o 7),
 .q .or (.c 5) (.c 6),
 .q .leq (.z 0) (.i 2),
 .sop .at [.s 0,.i 2],
 .q .add (.c 7) (.c 9),
 .q .add (.i 2) (.z 1)]
def Q2p:LT:=Go.Wbp.fT 3 Qmo (.n (.n (.n (.n .e 7086 3 .e) 101060711 5 .e) 101360928 6 (.n .e 158349935 4 .e)) 202060958 11 (.n (.n (.n .e 417669702 7 .e) 575989173 10 .e) 686737383 8 (.n .e 690532547 9 .e)))
def Qbem:Sw:=.n 4 (.x 8 (.run (.leaf .normal Qq3 [] [(0,.s 0),(1,.c 10),(2,.i 11)] []))) (.run (.leaf (.exit 0) Qvs [] [(1,.c 1)] []))
def Qbel:KdT:=kdN 0x133033300130 4 1 0
noncomputable def Qu3:Ing:={m:=3,ins:=Q5n,G:=Qmo,T:=Q2p,tab:=Qa,lsts:=Qs,kb:=12,kt:=Qbel}
theorem Qben:okLT 3 Qmo Q2p=true:=by kernel_rfl
theorem Qbeo:SegOk Tryd.prog Qa 22 ([Qbn (Qc Tryd.f11)]) Qq3 Qu3 Qbem:=
  ⟨Qben,by kernel_rfl,fun F=>Qbw rfl F,rfl,by kernel_rfl,by kernel_rfl,rfl,rfl,fun _=>trivial,by kernel_rfl⟩
def Q2q:List SDef:=[]
def Q2r:LT:=.e
def Qbeq:Sw:=.run (.leaf .ret Qbir [] [(2,.c 1)] [])
def Qbep:KdT:=kdN 0x30 2 1 0
noncomputable def Qber:Ing:={m:=2,ins:=Q5r,G:=Q2q,T:=Q2r,tab:=Qa,lsts:=Qs,kb:=2,kt:=Qbep}
theorem Qbes:okLT 2 Q2q Q2r=true:=by kernel_rfl
theorem Qbet:SegOk Tryd.prog Qa 22 ((Qe (Qc Tryd.f11)).drop 4) Qvs Qber Qbeq:=
  ⟨Qbes,by kernel_rfl,fun F=>Qbw rfl F,rfl,by kernel_rfl,by kernel_rfl,rfl,rfl,fun _=>trivial,by kernel_rfl⟩
structure J11 (S:ByteArray) (i:Nat) (V:Sig):Prop where
 s:V.s 0=S
 c:V.i 1=sumL ((ints S).take i)
 i0:V.i 2=i
 hi:i<=S.size
 sz:S.size<=1000000
theorem J11.agree {S:ByteArray} {i:Nat} {V U:Sig} (ag:Agree 3 V U) (h:J11 S i V):J11 S i U:=by
  cases h;constructor<;>first|assumption|(simp (disch:=decide) only [ag.iv,ag.bv,ag.sv,ag.xv];assumption)
def L11:Asg:=[(2,.c 2)]
set_option maxHeartbeats 1000000 in
theorem c11:SymFOk Tryd.prog Qa (fun _=>True) sf11:=
 Qb5 Tryd.func11 rfl (n:=22) rfl (by decide) (by decide) rfl rfl (by kernel_rfl) (fun g w hg _ hE hI hpc hH=>by
  have q0:=hpc (.bin .leq (.symi .i64 1) (.int .i64 1000000)) (by simp [sf11]);simp only [Qb,den,binS,intA,if_true,Option.some.injEq,AVal.bool.injEq,decide_eq_true_eq] at q0;have g1:g.sig.i 1=((g.sig.s 0).size:Nat):=Qet (hE.at 0 _ rfl rfl);have g2:g.sig.i 2=sumS (g.sig.s 0):=by
   have h:g.sig.i 2=IntKind.u8.wrap (g.sig.tab 384 [encB (g.sig.s 0)]):=eqFn (hE.at 1 _ rfl rfl);have:=Qd5 (ints (g.sig.s 0));rw [hg,Qff,wr_u8] at h;unfold sumS at h⊢;omega
  have hlast:Qf Tryd.prog Qa 22 (Qu g w sf11.pre.length) (bodyPost Tryd.prog Tryd.f11 (MemR Qa sf11 g w)) ((Qe (Qc Tryd.f11)).drop 4) Qvs 2 Q5r (fun V=>V.i 1=sumS (g.sig.s 0)/\V.ext=g.sig.ext):=by
   refine Qf.last mixed Qbet ⟨rfl,rfl⟩ (fun V U ag h=>⟨by rw [<-(ag.val 1 (by decide)).1];exact h.1,by rw [<-ag.ext];exact h.2⟩) (fun U h=>Qv) (fun U e ht hi hj=> ?_) (pin0 (by kernel_rfl));refine Qp ?_;exact Qb8 (M:=3) (l:=L11) (vs:=[.symi .u8 2]) (by kernel_rfl) rfl rfl hH hg rfl rfl rfl (by kernel_rfl) (by kernel_rfl) ⟨congrArg (AVal.int .u8) (hj.1.trans g2.symm),trivial⟩ (by decide) (extS hj.2) (.inl rfl)
  rw [show Qe (Qc Tryd.f11)=(Qe (Qc Tryd.f11)).take 3++(.block (idOf (Qc Tryd.f11)) (.loop (Qbn (Qc Tryd.f11)))::(Qe (Qc Tryd.f11)).drop 4) from rfl];have hloop:Qf Tryd.prog Qa 22 (Qu g w sf11.pre.length) (bodyPost Tryd.prog Tryd.f11 (MemR Qa sf11 g w)) (.block (idOf (Qc Tryd.f11)) (.loop (Qbn (Qc Tryd.f11)))::(Qe (Qc Tryd.f11)).drop 4) Qq3 3 Q5n (fun V=>(∃i,J11 (g.sig.s 0) i V)/\V.ext=g.sig.ext):=by
   refine Qf.loop (μ:=fun V=>((g.sig.s 0).size-V.i 2).toNat) mixed Qbeo ⟨rfl,rfl⟩ (fun V U ag h=>⟨(let ⟨i,hi⟩:=h.1;⟨i,hi.agree ag⟩),by rw [<-ag.ext];exact h.2⟩) (fun V U ag=>by rw [(ag.val 2 (by decide)).1]) (fun U h=>Qv) hlast (fun U e ht hi hj=> ?_) (pin0 (by kernel_rfl));obtain ⟨⟨i,hj⟩,hx⟩:=hj;refine Qp ?_;have hs:=hj.s;have hi0:=hj.i0;have hc:=hj.c;have hhi:=hj.hi;have hsz:=hj.sz;have hc0:=Qd5 ((ints (g.sig.s 0)).take i);have F:Facs U 3 Qmo:=facs e;dsimp only [Qmo,Facs,fac1,facI,facS,facB,oI,oK,oB,oS,nmL,nm,Nat.reduceAdd] at F;obtain ⟨i3,b4,-,-,-,b8,i9,i10,i11,-⟩:=F;have i5:U.i 5=IntKind.u8.wrap (U.i 1*2):=(eqI (x:=IntKind.u8.wrap (U.i 1*2^(min (1:Int).toNat IntKind.u8.bits))) (e.at 2 _ rfl rfl) rfl).trans (by rw [show (2:Int)^(min (1:Int).toNat IntKind.u8.bits)=2 by decide]);have i6:U.i 6=U.i 1/128:=(eqI (x:=(U.i 1:Int).fdiv (2^(min (7:Int).toNat IntKind.u8.bits))) (e.at 3 _ rfl rfl) rfl).trans (by rw [show (2:Int)^(min (7:Int).toNat IntKind.u8.bits)=128 by decide];exact Qbf (by decide));have i7:U.i 7=IntKind.u8.wrap (BitVec.ofInt IntKind.u8.bits (U.i 5)|||BitVec.ofInt IntKind.u8.bits (U.i 6)).toNat:=eqI (e.at 4 _ rfl rfl) rfl;have tr: ∀{P:Prop} {b:Bool} [Decidable P],b=decide P->b=false->P->False:=fun hb hf hp=>by rw [hb,decide_eq_false_iff_not] at hf;exact hf hp
   rw [hs] at i3 i9;refine ⟨fun f4=>⟨fun f8=> ?_,fun f=>tr b8 f (by omega)⟩,fun f4=> ?_⟩;rw [b4,decide_eq_true_eq] at f4;rw [Qh] at i11;rw [wr_u8] at i5 i10;have hlt:i<(g.sig.s 0).size:=by omega
   have hst:=roll (by omega) (by omega) i5 i6 i7 i10;rw [hi0] at i9;rw [hc] at hst;refine .inl ⟨rfl,rfl,insK (X:=Qu3) e hi,⟨⟨i+1,hs,?_,?_,hlt,hsz⟩,extS hx⟩,tabS ht,?_⟩;show U.i 10=_;rw [Q1x hlt,Qx6,hst,i9];show U.i 11=_;omega;show (((g.sig.s 0).size:Int)-U.i 11).toNat<(((g.sig.s 0).size:Int)-U.i 2).toNat;omega;rw [b4,decide_eq_false_iff_not] at f4;have hie:i=(ints (g.sig.s 0)).length:=by rw [Qqh];omega
   refine .inr (.inl ⟨rfl,rfl,insK (X:=Qu3) e hi,⟨?_,extS hx⟩,tabS ht⟩);show U.i 1=_;rw [hc,hie,List.take_length];rfl
  refine Qf.seg mixed Qbek ⟨rfl,rfl⟩ (fun V U (ag:Agree 1 V U) (h:Agree 1 g.sig V)=>h.trans' ag) (fun U h=>Qv) hloop (fun U e ht hi ag=> ?_) (pin0 (by kernel_rfl));refine Qp ?_;exact .inl ⟨rfl,rfl,insK (X:=Q2o) e hi,⟨⟨0,(ag.val 0 (by decide)).2.2.symm,rfl,rfl,Nat.zero_le _,by omega⟩,extS ag.ext.symm⟩,tabS ht⟩)
end Go.Proofs.YtelimhjceiamcaaDoor.lg
set_option maxRecDepth 100000
namespace Go.Proofs.YtelimhjceiamcaaDoor.lg
open Go.Ev Go.RowKit Go.Wbp Go.Lgp
open Go.Proofs.YtelimhjceiamcaaDoor.lgn (mixed sf48 Qbu)
def lgZ0:List AVal:=[.int .u32 0,.nilslice,.z 0,.o 0,.o 0,.z 0]
def Qbiv:Shape:=⟨argT 0 [lgA],[eL 6 7]⟩
def Q5z:List (Nat×AVal):=[(0,lgA),(1,.ptr 1 0),(2,.ptr 2 0),(3,.ptr 3 0)]
def Q5d:List Blk:=[eL 6 7,.cells lgC 26,.cells lgZ0 39,.cells [.symi .u32 0,.lsl 4 4 true (.int .i64 0) (.symi .i64 9),.symi .i64 2,.symi .u64 3,.symi .u64 4,.symi .i64 5] 39,.lst (.syms 10) (.symi .i64 9) cl4 67]
def Qq2:Shape:=⟨Q5z++[(4,.i 8)],Q5d⟩
def Qvr:Shape:=⟨Q5z,Q5d⟩
def Q5m:List (Option IntKind):=lgK++[some .i64,some .i64,none]
def Q5q:List (Option IntKind):=lgK++[none,some .i64,none]
def Qq7:List AVal:=[.w 0,.lsl 1 4 true (.z 0) (.i 1),.i 2,.u 3,.u 4,.i 5]
def Qbiq:Shape:=⟨[(0,lgA),(2,.ptr 2 0)],[eL 6 7,.lst (.s 8) (.i 1) cl4 67,.cells Qq7 39]⟩
def sf10:SymF:=
 {f:=10,m:=8,ins:=lgK,args:=[lgA],pre:=[eL 6 7],pcs:=lgQ,G:=[.sop (.fs 704) [.s 6,.i 1]],
  v:=.agg Qq7,post:=[eL 6 7,.lst (.s 8) (.i 1) cl4 67,.cells Qq7 39]}
def Q2g:List SDef:=[]
def Q2h:LT:=.e
def Qbd5:Sw:=.run (.leaf .normal Qq2 [(0,0),(1,0),(2,0),(3,0),(1000004,0)] [(0,.w 0),(1,.i 1),(2,.i 2),(3,.u 3),(4,.u 4),(5,.i 5),(8,.z 0),(6,.s 6),(7,.i 7),(0,.w 0),(1,.i 1),(2,.i 2),(3,.u 3),(4,.u 4),(5,.i 5),(0,.w 0),(9,.z 0),(2,.i 2),(3,.u 3),(4,.u 4),(5,.i 5),(10,.str ⟨#[]⟩),(9,.z 0)] [])
def Qbd4:KdT:=kdN 0x10122114 4 1 0
noncomputable def Q2i:Ing:={m:=8,ins:=lgK,G:=Q2g,T:=Q2h,tab:=Qa,lsts:=Qs,kb:=8,kt:=Qbd4}
theorem Qbd6:okLT 8 Q2g Q2h=true:=by kernel_rfl
theorem Qbd7:SegOk Tryd.prog Qa 34 ((Qe (Qc Tryd.f10)).take 3) Qbiv Q2i Qbd5:=
  ⟨Qbd6,by kernel_rfl,fun F=>Qbw rfl F,rfl,by kernel_rfl,by kernel_rfl,rfl,rfl,fun _=>trivial,by kernel_rfl⟩
def Qmn:List SDef:=[.q .lss (.i 8) (.i 1),
 .q .lss (.i 8) (.i 7),
 .q .leq (.z 0) (.i 8),
 .sop (.cell [.some .u64,.some .u64,.some .i64,.some .u8] 0) [.s 6,.i 8],
 .sop (.cell [.some .u64,.some .u64,.some .i64,.some .u8] 1) [.s 6,.i 8],
 .sop (.cell [.some .u64,.some .u64,.some .i64,.some .u8] 2) [.s 6,.i 8],
 .sop (.cell [.some .u64,.some .u64,.some .i64,.some .u8] 3) [.s 6,.i 8],
 .sop (.row [.some .u64,.some .u64,.some .i64,.some .u8]) [.u 14,.u 15,.i 16,.c 17],
 .sop .cat [.s 10,.s 18],
 .q .add (.i 9) (.z 1),
 .q .leq (.z 0) (.i 20),
 .q .leq (.i 20) (.z 4398046511104),
 .q .add (.i 8) (.z 1)]
def Q2j:LT:=Go.Wbp.fT 11 Qmn (.n (.n (.n (.n .e 77644597 11 .e) 331444568 22 (.n .e 370448242 19 .e)) 424650825 21 (.n (.n .e 521749651 18 .e) 542408004 14 .e)) 542408006 15 (.n (.n (.n .e 542408008 16 .e) 542408010 17 (.n .e 599375197 13 .e)) 808062776 23 (.n (.n .e 909063079 20 .e) 1064024238 12 .e)))
def Qbd9:Sw:=.n 11 (.x 12 (.x 13 (.x 21 (.x 22 (.run (.leaf .normal Qq2 [(0,0),(1,0),(2,0),(3,0),(6,0)] [(0,.w 0),(1,.i 1),(2,.i 2),(3,.u 3),(4,.u 4),(5,.i 5),(8,.i 23),(6,.s 6),(7,.i 7),(0,.w 0),(1,.i 1),(2,.i 2),(3,.u 3),(4,.u 4),(5,.i 5),(0,.w 0),(9,.i 20),(2,.i 2),(3,.u 3),(4,.u 4),(5,.i 5),(10,.s 19),(9,.i 20)] [])))))) (.run (.leaf (.exit 0) Qvr [(0,0),(1,0),(2,0),(3,0),(4,0)] [(0,.w 0),(1,.i 1),(2,.i 2),(3,.u 3),(4,.u 4),(5,.i 5),(6,.s 6),(7,.i 7),(0,.w 0),(1,.i 1),(2,.i 2),(3,.u 3),(4,.u 4),(5,.i 5),(0,.w 0),(9,.i 9),(2,.i 2),(3,.u 3),(4,.u 4),(5,.i 5),(10,.s 10),(9,.i 9)] []))
def Qbd8:KdT:=kdN 0x100100312200001110122114 5 1 0
noncomputable def Qu2:Ing:={m:=11,ins:=Q5m,G:=Qmn,T:=Q2j,tab:=Qa,lsts:=Qs,kb:=24,kt:=Qbd8}
theorem Qbea:okLT 11 Qmn Q2j=true:=by kernel_rfl
theorem Qbeb:SegOk Tryd.prog Qa 34 ([Qbn (Qc Tryd.f10)]) Qq2 Qu2 Qbd9:=
  ⟨Qbea,by kernel_rfl,fun F=>Qbw rfl F,rfl,by kernel_rfl,by kernel_rfl,rfl,rfl,fun _=>trivial,by kernel_rfl⟩
def Q2k:List SDef:=[]
def Q2l:LT:=.e
def Qbed:Sw:=.run (.leafE .ret Qbiq [(0,0),(4,0),(2,0)] [(0,.w 0),(1,.i 1),(2,.i 2),(3,.u 3),(4,.u 4),(5,.i 5),(6,.s 6),(7,.i 7),(8,.s 10),(1,.i 9),(0,.w 0),(1,.i 9),(2,.i 2),(3,.u 3),(4,.u 4),(5,.i 5)] [])
def Qbec:KdT:=kdN 0x1010122114 4 1 0
noncomputable def Qbee:Ing:={m:=11,ins:=Q5q,G:=Q2k,T:=Q2l,tab:=Qa,lsts:=Qs,kb:=11,kt:=Qbec}
theorem Qbef:okLT 11 Q2k Q2l=true:=by kernel_rfl
theorem Qbeg:SegOk Tryd.prog Qa 34 ((Qe (Qc Tryd.f10)).drop 4) Qvr Qbee Qbed:=
  ⟨Qbef,by kernel_rfl,fun F=>Qbw rfl F,rfl,by kernel_rfl,by kernel_rfl,rfl,rfl,fun _=>trivial,by kernel_rfl⟩
structure M10 (g:Sig) (C:ByteArray) (n N i:Nat) (V:Sig):Prop where
 s:V.s 6=C
 n0:V.i 1=n
 nN:V.i 7=N
 v0:V.i 0=g.i 0
 v2:V.i 2=g.i 2
 v3:V.i 3=g.i 3
 v4:V.i 4=g.i 4
 v5:V.i 5=g.i 5
 m:V.i 9=i
 c:V.s 10=Lgp.encL (lstE C i)
 le:n<=N
 hi:i<=n
 sz:N<=1000000
 xe:V.ext=g.ext
theorem M10.agree {g:Sig} {C:ByteArray} {n N i:Nat} {V U:Sig} (ag:Agree 11 V U) (h:M10 g C n N i V):M10 g C n N i U:=by
  cases h;constructor<;>first|assumption|(simp (disch:=decide) only [ag.iv,ag.bv,ag.sv,ag.xv];assumption)
structure J10 (g:Sig) (C:ByteArray) (n N i:Nat) (V:Sig):Prop where
 m:M10 g C n N i V
 i0:V.i 8=i
theorem J10.agree {g:Sig} {C:ByteArray} {n N i:Nat} {V U:Sig} (ag:Agree 11 V U) (h:J10 g C n N i V):J10 g C n N i U:=
 ⟨h.m.agree ag,by rw [<-(ag.val 8 (by decide)).1];exact h.i0⟩
def L10:Asg:=[(0,.w 0),(1,.i 1),(2,.i 2),(3,.u 3),(4,.u 4),(5,.i 5),(6,.s 6),(7,.i 7),(8,.s 8),(1,.i 1),(0,.w 0),(1,.i 1),(2,.i 2),(3,.u 3),(4,.u 4),(5,.i 5)]
abbrev Z10 (g:Inj) (w:World):Exit->Act->World->Prop:=bodyPost Tryd.prog Tryd.f10 (MemR Qa sf10 g w)
set_option maxHeartbeats 1000000 in
theorem c10:SymFOk Tryd.prog Qa (fun _=>True) sf10:=
 Qb5 Tryd.func10 rfl (n:=34) rfl (by decide) (by decide) rfl rfl (by kernel_rfl) (fun g w hg _ hE hI hpc hH=>by
  have q0:=hpc (.bin .leq (.int .i64 0) (.symi .i64 1)) (by simp [sf10,lgQ]);have q1:=hpc (.bin .leq (.symi .i64 1) (.symi .i64 7)) (by simp [sf10,lgQ]);have q2:=hpc (.bin .leq (.symi .i64 7) (.int .i64 1000000)) (by simp [sf10,lgQ]);simp only [Qb,den,binS,intA,if_true,Option.some.injEq,AVal.bool.injEq,decide_eq_true_eq] at q0 q1 q2;obtain ⟨n,hgn⟩: ∃n:Nat,g.sig.i 1=n:=⟨(g.sig.i 1).toNat,by omega⟩;obtain ⟨N,hgN⟩: ∃n:Nat,g.sig.i 7=n:=⟨(g.sig.i 7).toNat,by omega⟩;have g8:g.sig.s 8=decS (g.sig.tab 704 [encB (g.sig.s 6),g.sig.i 1]):=eqFs (hE.at 0 _ rfl rfl);rw [hg,hgn,Qra] at g8;have hlast:Qf Tryd.prog Qa 34 (Qu g w sf10.pre.length) (Z10 g w) ((Qe (Qc Tryd.f10)).drop 4) Qvr 11 Q5q (M10 g.sig (g.sig.s 6) n N n):=by
   refine Qf.last mixed Qbeg ⟨rfl,rfl⟩ (fun V U ag h=>h.agree ag) (fun U h=>Qv) (fun U e ht hi hj=> ?_) (pin0 (by kernel_rfl));refine Qp ?_;have h9:den U (.symi .i64 9)=den U (.symi .i64 1):=congrArg (AVal.int .i64) (hj.m.trans hj.n0.symm);have h1:U.i 1=g.sig.i 1:=hj.n0.trans hgn.symm;have h9g:U.i 9=g.sig.i 1:=hj.m.trans hgn.symm;refine ⟨⟨h9,h9,trivial⟩,?_⟩;exact Qb8 (M:=9) (l:=L10) (vs:=[.agg Qq7]) (by kernel_rfl) rfl rfl hH hg rfl rfl rfl (by kernel_rfl) (by kernel_rfl) ⟨congrArg (AVal.int .u32) hj.v0,congrArg (AVal.int .i64) h1,congrArg (AVal.int .i64) hj.v2,congrArg (AVal.int .u64) hj.v3,congrArg (AVal.int .u64) hj.v4,congrArg (AVal.int .i64) hj.v5,congrArg AVal.str hj.s,congrArg (AVal.int .i64) (hj.nN.trans hgN.symm),congrArg AVal.str (hj.c.trans g8.symm),congrArg (AVal.int .i64) h1,congrArg (AVal.int .u32) hj.v0,congrArg (AVal.int .i64) h1,congrArg (AVal.int .i64) hj.v2,congrArg (AVal.int .u64) hj.v3,congrArg (AVal.int .u64) hj.v4,congrArg (AVal.int .i64) hj.v5,trivial⟩ (by decide) (extS hj.xe) (.inl rfl)
  rw [show Qe (Qc Tryd.f10)=(Qe (Qc Tryd.f10)).take 3++(.block (idOf (Qc Tryd.f10)) (.loop (Qbn (Qc Tryd.f10)))::(Qe (Qc Tryd.f10)).drop 4) from rfl];have hloop:Qf Tryd.prog Qa 34 (Qu g w sf10.pre.length) (Z10 g w) (.block (idOf (Qc Tryd.f10)) (.loop (Qbn (Qc Tryd.f10)))::(Qe (Qc Tryd.f10)).drop 4) Qq2 11 Q5m (fun V=> ∃i,J10 g.sig (g.sig.s 6) n N i V):=by
   refine Qf.loop (μ:=fun V=>(V.i 1-V.i 8).toNat) mixed Qbeb ⟨rfl,rfl⟩ (fun V U ag h=>let ⟨i,hi⟩:=h;⟨i,hi.agree ag⟩) (fun V U ag=>by rw [(ag.val 1 (by decide)).1,(ag.val 8 (by decide)).1]) (fun U h=>Qv) hlast (fun U e ht hi hj=> ?_) (pin0 (by kernel_rfl));obtain ⟨i,⟨hj,hi0⟩⟩:=hj;refine Qp ?_;have hn0:=hj.n0;have hnN:=hj.nN;have hm:=hj.m;have hle:=hj.le;have hhi:=hj.hi;have hsz:=hj.sz;have F:Facs U 11 Qmn:=facs e;dsimp only [Qmn,Facs,fac1,facI,facS,facB,oI,oK,oB,oS,nmL,nm,Nat.reduceAdd] at F;obtain ⟨b11,b12,b13,-,-,-,-,-,s19,i20,b21,b22,i23,-⟩:=F;have i14:U.i 14=(rowE (U.s 6) (U.i 8:Int).toNat).r:=Qbl (e.at 3 _ rfl rfl) rfl;have i15:U.i 15=(rowE (U.s 6) (U.i 8:Int).toNat).b:=Qbl (e.at 4 _ rfl rfl) rfl;have i16:U.i 16=(rowE (U.s 6) (U.i 8:Int).toNat).k:=Qbl (e.at 5 _ rfl rfl) rfl;have i17:U.i 17=(rowE (U.s 6) (U.i 8:Int).toNat).v:=Qbl (e.at 6 _ rfl rfl) rfl;have s18:U.s 18=encX ⟨U.i 14,U.i 15,U.i 16,U.i 17⟩:=Qbx (e.at 7 _ rfl rfl);have tr: ∀{P:Prop} {b:Bool} [Decidable P],b=decide P->b=false->P->False:=fun hb hf hp=>by rw [hb,decide_eq_false_iff_not] at hf;exact hf hp
   refine ⟨fun f11=> ?_,fun f11=> ?_⟩;rw [b11,decide_eq_true_eq] at f11;have hlt:i<n:=by omega
   rw [hj.s,hi0,Int.toNat_natCast] at i14 i15 i16 i17;rw [i14,i15,i16,i17] at s18;rw [s18,hj.c] at s19;have hc:U.s 19=Lgp.encL (lstE (g.sig.s 6) (i+1)):=by
    rw [s19,Qwc,Lgp.encL_snoc]
   rw [Qh] at i20 i23;refine ⟨fun f12=>⟨fun f13=>⟨fun f21=>⟨fun f22=> .inl ⟨rfl,rfl,insK (X:=Qu2) e hi,⟨i+1,⟨hj.s,hj.n0,hj.nN,hj.v0,hj.v2,hj.v3,hj.v4,hj.v5,?_,hc,hle,hlt,hsz,extS hj.xe⟩,?_⟩,tabS ht,?_⟩,fun f=>tr b22 f (by omega)⟩,fun f=>tr b21 f (by omega)⟩,fun f=>tr b13 f (by omega)⟩,fun f=>tr b12 f (by omega)⟩;show U.i 20=_;omega;show U.i 23=_;omega;show (U.i 1-U.i 23).toNat<(U.i 1-U.i 8).toNat;omega;rw [b11,decide_eq_false_iff_not] at f11;obtain rfl:i=n:=by omega
   exact .inr (.inl ⟨rfl,rfl,insK (X:=Qu2) e hi,⟨hj.s,hj.n0,hj.nN,hj.v0,hj.v2,hj.v3,hj.v4,hj.v5,hj.m,hj.c,hle,hhi,hsz,extS hj.xe⟩,tabS ht⟩)
  refine Qf.seg mixed Qbd7 ⟨rfl,rfl⟩ (fun V U (ag:Agree 8 V U) (h:Agree 8 g.sig V)=>h.trans' ag) (fun U h=>Qv) hloop (fun U e ht hi ag=> ?_) (pin0 (by kernel_rfl));refine Qp ?_;have a:=fun i h=>(ag.val i h).1.symm;exact .inl ⟨rfl,rfl,insK (X:=Q2i) e hi,⟨0,⟨(ag.val 6 (by decide)).2.2.symm,(a 1 (by decide)).trans hgn,(a 7 (by decide)).trans hgN,a 0 (by decide),a 2 (by decide),a 3 (by decide),a 4 (by decide),a 5 (by decide),rfl,rfl,by omega,Nat.zero_le _,by omega,extS ag.ext.symm⟩,rfl⟩,tabS ht⟩)
end Go.Proofs.YtelimhjceiamcaaDoor.lg
set_option maxRecDepth 100000
namespace Go.Proofs.YtelimhjceiamcaaDoor.lg
open Go.Ev Go.RowKit Go.Wbp Go.Lgp
open Go.Proofs.YtelimhjceiamcaaDoor.lgn (mixed sf48 Qbu)
def lgA2:AVal:=.agg [.symi .u32 10,.lsl 1 4 false (.int .i64 0) (.symi .i64 11),.symi .i64 12,.symi .u64 13,.symi .u64 14,.symi .i64 15]
def lgC2:List AVal:=[.w 10,.lsl 1 4 false (.z 0) (.i 11),.i 12,.u 13,.u 14,.i 15]
def Qnl:List (Option IntKind):=lgK++[none,some .i64,some .u32,some .i64,some .i64,some .u64,some .u64,some .i64]
def Qbiz:Shape:=⟨argT 0 [lgA,lgA2],[eL 6 7,eL 8 9]⟩
def Qq5:Shape:=⟨[(0,lgA),(1,lgA2),(2,.ptr 2 0),(3,.ptr 3 0),(5,.i 16)],[eL 6 7,eL 8 9,.cells lgC 39,.cells lgC2 39]⟩
def Qvu:Shape:=⟨[(0,lgA),(1,lgA2)],[eL 6 7,eL 8 9]⟩
def Q5o:List (Option IntKind):=Qnl++[some .i64]
def Qbis:Shape:=⟨[(0,lgA),(1,lgA2),(4,.bool true)],[eL 6 7,eL 8 9]⟩
def Qej:List SDef:=lgQ++[.q .leq (.i 11) (.i 9),.q .leq (.i 9) (.z 1000000),.q .eql (.i 1) (.i 11),.q .eql (.w 0) (.w 10),.q .eql (.i 2) (.i 12),.q .eql (.u 3) (.u 13),.q .eql (.u 4) (.u 14),.q .eql (.i 5) (.i 15),.q .eql (.s 6) (.s 8)]
def sf18:SymF:=
 {f:=18,m:=16,ins:=Qnl,args:=[lgA,lgA2],pre:=[eL 6 7,eL 8 9],pcs:=Qej,G:=[],v:=.bool true,post:=[eL 6 7,eL 8 9]}
def Qmw:List SDef:=[.q .neq (.i 1) (.i 11),
 .q .neq (.w 0) (.w 10),
 .q .neq (.i 2) (.i 12),
 .q .neq (.u 3) (.u 13),
 .q .neq (.u 4) (.u 14),
 .q .neq (.i 5) (.i 15)]
def Q3f:LT:=Go.Wbp.fT 16 Qmw (.n (.n (.n .e 27306649 18 .e) 212340714 17 (.n .e 286626465 21 .e)) 471660530 19 (.n (.n .e 656694595 16 .e) 916014411 20 .e))
def Qbfv:Sw:=.y 16 (.y 17 (.y 18 (.y 19 (.y 20 (.y 21 (.run (.leaf .normal Qq5 [(0,0),(1,0),(2,0),(3,0)] [(0,.w 0),(1,.i 1),(2,.i 2),(3,.u 3),(4,.u 4),(5,.i 5),(10,.w 10),(11,.i 11),(12,.i 12),(13,.u 13),(14,.u 14),(15,.i 15),(16,.z 0),(6,.s 6),(7,.i 7),(8,.s 8),(9,.i 9),(0,.w 0),(1,.i 1),(2,.i 2),(3,.u 3),(4,.u 4),(5,.i 5),(10,.w 10),(11,.i 11),(12,.i 12),(13,.u 13),(14,.u 14),(15,.i 15)] [])))))))
def Qbfu:KdT:=kdN 0x1221141010122114 5 1 0
noncomputable def Q3g:Ing:={m:=16,ins:=Qnl,G:=Qmw,T:=Q3f,tab:=Qa,lsts:=Qs,kb:=22,kt:=Qbfu}
theorem Qbfw:okLT 16 Qmw Q3f=true:=by kernel_rfl
theorem Qbfx:SegOk Tryd.prog Qa 66 ((Qe (Qc Tryd.f18)).take 4) Qbiz Q3g Qbfv:=
  ⟨Qbfw,by kernel_rfl,fun F=>Qbw rfl F,rfl,by kernel_rfl,by kernel_rfl,rfl,rfl,fun _=>trivial,by kernel_rfl⟩
def Qmx:List SDef:=[.q .lss (.i 16) (.i 1),
 .q .lss (.i 16) (.i 7),
 .q .lss (.i 16) (.i 11),
 .q .lss (.i 16) (.i 9),
 .q .leq (.z 0) (.i 16),
 .sop (.cell [.some .u64,.some .u64,.some .i64,.some .u8] 0) [.s 6,.i 16],
 .sop (.cell [.some .u64,.some .u64,.some .i64,.some .u8] 1) [.s 6,.i 16],
 .sop (.cell [.some .u64,.some .u64,.some .i64,.some .u8] 2) [.s 6,.i 16],
 .sop (.cell [.some .u64,.some .u64,.some .i64,.some .u8] 3) [.s 6,.i 16],
 .sop (.cell [.some .u64,.some .u64,.some .i64,.some .u8] 0) [.s 8,.i 16],
 .sop (.cell [.some .u64,.some .u64,.some .i64,.some .u8] 1) [.s 8,.i 16],
 .sop (.cell [.some .u64,.some .u64,.some .i64,.some .u8] 2) [.s 8,.i 16],
 .sop (.cell [.some .u64,.some .u64,.some .i64,.some .u8] 3) [.s 8,.i 16],
 .all [(.u 22,.u 26),(.u 23,.u 27),(.i 24,.i 28),(.c 25,.c 29)],
 .q .add (.i 16) (.z 1)]
def Q3h:LT:=Go.Wbp.fT 17 Qmx (.n (.n (.n (.n .e 24215493 19 .e) 43828911 30 (.n .e 82600999 22 .e)) 82601001 23 (.n (.n .e 82601003 24 .e) 82601005 25 (.n .e 124978340 21 .e))) 411250164 20 (.n (.n (.n .e 416613357 26 .e) 416613359 27 (.n .e 416613361 28 .e)) 416613363 29 (.n (.n .e 542323373 31 .e) 798284835 18 (.n .e 885647021 17 .e))))
def Qbfz:Sw:=.n 17 (.x 18 (.x 19 (.x 20 (.x 21 (.x 30 (.run (.leaf .normal Qq5 [(0,0),(1,0),(2,0),(3,0)] [(0,.w 0),(1,.i 1),(2,.i 2),(3,.u 3),(4,.u 4),(5,.i 5),(10,.w 10),(11,.i 11),(12,.i 12),(13,.u 13),(14,.u 14),(15,.i 15),(16,.i 31),(6,.s 6),(7,.i 7),(8,.s 8),(9,.i 9),(0,.w 0),(1,.i 1),(2,.i 2),(3,.u 3),(4,.u 4),(5,.i 5),(10,.w 10),(11,.i 11),(12,.i 12),(13,.u 13),(14,.u 14),(15,.i 15)] []))))))) (.run (.leaf (.exit 0) Qvu [(0,0),(1,0)] [(0,.w 0),(1,.i 1),(2,.i 2),(3,.u 3),(4,.u 4),(5,.i 5),(10,.w 10),(11,.i 11),(12,.i 12),(13,.u 13),(14,.u 14),(15,.i 15),(6,.s 6),(7,.i 7),(8,.s 8),(9,.i 9)] []))
def Qbfy:KdT:=kdN 0x10312231220000011221141010122114 6 1 0
noncomputable def Qu7:Ing:={m:=17,ins:=Q5o,G:=Qmx,T:=Q3h,tab:=Qa,lsts:=Qs,kb:=32,kt:=Qbfy}
theorem Qbf0:okLT 17 Qmx Q3h=true:=by kernel_rfl
theorem Qbf1:SegOk Tryd.prog Qa 66 ([Qbn (Qc Tryd.f18)]) Qq5 Qu7 Qbfz:=
  ⟨Qbf0,by kernel_rfl,fun F=>Qbw rfl F,rfl,by kernel_rfl,by kernel_rfl,rfl,rfl,fun _=>trivial,by kernel_rfl⟩
def Q3i:List SDef:=[]
def Q3j:LT:=.e
def Qbf3:Sw:=.run (.leaf .ret Qbis [(0,0),(1,0)] [(0,.w 0),(1,.i 1),(2,.i 2),(3,.u 3),(4,.u 4),(5,.i 5),(10,.w 10),(11,.i 11),(12,.i 12),(13,.u 13),(14,.u 14),(15,.i 15),(6,.s 6),(7,.i 7),(8,.s 8),(9,.i 9)] [])
def Qbf2:KdT:=kdN 0x1221141010122114 5 1 0
noncomputable def Qbf4:Ing:={m:=16,ins:=Qnl,G:=Q3i,T:=Q3j,tab:=Qa,lsts:=Qs,kb:=16,kt:=Qbf2}
theorem Qbf5:okLT 16 Q3i Q3j=true:=by kernel_rfl
theorem Qbf6:SegOk Tryd.prog Qa 66 ((Qe (Qc Tryd.f18)).drop 5) Qvu Qbf4 Qbf3:=
  ⟨Qbf5,by kernel_rfl,fun F=>Qbw rfl F,rfl,by kernel_rfl,by kernel_rfl,rfl,rfl,fun _=>trivial,by kernel_rfl⟩
structure M18 (g:Sig) (n N:Nat) (V:Sig):Prop where
 s:V.s 6=g.s 6
 s8:V.s 8=g.s 6
 n0:V.i 1=n
 nN:V.i 7=N
 v9:V.i 9=g.i 9
 v0:V.i 0=g.i 0
 v2:V.i 2=g.i 2
 v3:V.i 3=g.i 3
 v4:V.i 4=g.i 4
 v5:V.i 5=g.i 5
 v10:V.i 10=g.i 10
 v12:V.i 12=g.i 12
 v13:V.i 13=g.i 13
 v14:V.i 14=g.i 14
 v15:V.i 15=g.i 15
 v11:V.i 11=n
 le:n<=N
 le9:(n:Int)<=g.i 9
 sz:N<=1000000
 xe:V.ext=g.ext
theorem M18.agree {g:Sig} {n N:Nat} {V U:Sig} (ag:Agree 16 V U) (h:M18 g n N V):M18 g n N U:=by
  cases h;constructor<;>first|assumption|(simp (disch:=decide) only [ag.iv,ag.bv,ag.sv,ag.xv];assumption)
structure J18 (g:Sig) (n N i:Nat) (V:Sig):Prop where
 m:M18 g n N V
 hi:i<=n
 i0:V.i 16=i
theorem J18.agree {g:Sig} {n N i:Nat} {V U:Sig} (ag:Agree 17 V U) (h:J18 g n N i V):J18 g n N i U:=
 ⟨h.m.agree (ag.less (by decide)),h.hi,by rw [<-(ag.val 16 (by decide)).1];exact h.i0⟩
def L18:Asg:=[(6,.s 6),(7,.i 7),(8,.s 8),(9,.i 9)]
abbrev Z18 (g:Inj) (w:World):Exit->Act->World->Prop:=bodyPost Tryd.prog Tryd.f18 (MemR Qa sf18 g w)
set_option maxHeartbeats 1000000 in
theorem c18:SymFOk Tryd.prog Qa (fun _=>True) sf18:=
 Qb5 Tryd.func18 rfl (n:=66) rfl (by decide) (by decide) rfl rfl (by kernel_rfl) (fun g w hg _ hE hI hpc hH=>by
  have q0:=hpc (.bin .leq (.int .i64 0) (.symi .i64 1)) (by simp [sf18,Qej,lgQ]);have q1:=hpc (.bin .leq (.symi .i64 1) (.symi .i64 7)) (by simp [sf18,Qej,lgQ]);have q2:=hpc (.bin .leq (.symi .i64 7) (.int .i64 1000000)) (by simp [sf18,Qej,lgQ]);have q3:=hpc (.bin .leq (.symi .i64 11) (.symi .i64 9)) (by simp [sf18,Qej]);have q4:=hpc (.bin .eql (.symi .i64 1) (.symi .i64 11)) (by simp [sf18,Qej]);have q5:=hpc (.bin .eql (.symi .u32 0) (.symi .u32 10)) (by simp [sf18,Qej]);have q6:=hpc (.bin .eql (.symi .i64 2) (.symi .i64 12)) (by simp [sf18,Qej]);have q7:=hpc (.bin .eql (.symi .u64 3) (.symi .u64 13)) (by simp [sf18,Qej]);have q8:=hpc (.bin .eql (.symi .u64 4) (.symi .u64 14)) (by simp [sf18,Qej]);have q9:=hpc (.bin .eql (.symi .i64 5) (.symi .i64 15)) (by simp [sf18,Qej]);have qs:=hpc (.bin .eql (.syms 6) (.syms 8)) (by simp [sf18,Qej]);have q4:g.sig.i 1=g.sig.i 11:=by simpa [Qb,den,binS,intA] using q4
  have q5:g.sig.i 0=g.sig.i 10:=by simpa [Qb,den,binS,intA] using q5
  have q6:g.sig.i 2=g.sig.i 12:=by simpa [Qb,den,binS,intA] using q6
  have q7:g.sig.i 3=g.sig.i 13:=by simpa [Qb,den,binS,intA] using q7
  have q8:g.sig.i 4=g.sig.i 14:=by simpa [Qb,den,binS,intA] using q8
  have q9:g.sig.i 5=g.sig.i 15:=by simpa [Qb,den,binS,intA] using q9
  have qs:g.sig.s 6=g.sig.s 8:=by
   have:((g.sig.s 6).toList==(g.sig.s 8).toList)=true:=by simpa [Qb,den,binS,strA] using qs
   exact toList_inj (by simpa using this)
  simp only [Qb,den,binS,intA,if_true,Option.some.injEq,AVal.bool.injEq,decide_eq_true_eq] at q0 q1 q2 q3;obtain ⟨n,hgn⟩: ∃n:Nat,g.sig.i 1=n:=⟨(g.sig.i 1).toNat,by omega⟩;obtain ⟨N,hgN⟩: ∃n:Nat,g.sig.i 7=n:=⟨(g.sig.i 7).toNat,by omega⟩;have hlast:Qf Tryd.prog Qa 66 (Qu g w sf18.pre.length) (Z18 g w) ((Qe (Qc Tryd.f18)).drop 5) Qvu 16 Qnl (M18 g.sig n N):=by
   refine Qf.last mixed Qbf6 ⟨rfl,rfl⟩ (fun V U ag h=>h.agree ag) (fun U h=>Qv) (fun U e ht hi hj=> ?_) (pin0 (by kernel_rfl));refine Qp ?_;exact Qb8 (M:=16) (l:=L18) (vs:=[.bool true]) (by kernel_rfl) rfl rfl hH hg rfl rfl rfl (by kernel_rfl) (by kernel_rfl) ⟨congrArg AVal.str hj.s,congrArg (AVal.int .i64) (hj.nN.trans hgN.symm),congrArg AVal.str (hj.s8.trans qs),congrArg (AVal.int .i64) hj.v9,trivial⟩ (by decide) (extS hj.xe) (.inl rfl)
  rw [show Qe (Qc Tryd.f18)=(Qe (Qc Tryd.f18)).take 4++(.block (idOf (Qc Tryd.f18)) (.loop (Qbn (Qc Tryd.f18)))::(Qe (Qc Tryd.f18)).drop 5) from rfl];have hloop:Qf Tryd.prog Qa 66 (Qu g w sf18.pre.length) (Z18 g w) (.block (idOf (Qc Tryd.f18)) (.loop (Qbn (Qc Tryd.f18)))::(Qe (Qc Tryd.f18)).drop 5) Qq5 17 Q5o (fun V=> ∃i,J18 g.sig n N i V):=by
   refine Qf.loop (μ:=fun V=>(V.i 1-V.i 16).toNat) mixed Qbf1 ⟨rfl,rfl⟩ (fun V U ag h=>let ⟨i,hi⟩:=h;⟨i,hi.agree ag⟩) (fun V U ag=>by rw [(ag.val 1 (by decide)).1,(ag.val 16 (by decide)).1]) (fun U h=>Qv) hlast (fun U e ht hi hj=> ?_) (pin0 (by kernel_rfl));obtain ⟨i,⟨hj,hhi,hi0⟩⟩:=hj;refine Qp ?_;have hn0:=hj.n0;have hnN:=hj.nN;have hv9:=hj.v9;have hv11:=hj.v11;have hle:=hj.le;have hle9:=hj.le9;have hsz:=hj.sz;have F:Facs U 17 Qmx:=facs e;dsimp only [Qmx,Facs,fac1,facI,facS,facB,oI,oK,oB,oS,nmL,nm,Nat.reduceAdd] at F;obtain ⟨b17,b18,b19,b20,b21,-,-,-,-,-,-,-,-,-,i31,-⟩:=F;have i22:U.i 22=(rowE (U.s 6) (U.i 16:Int).toNat).r:=Qbl (e.at 5 _ rfl rfl) rfl;have i23:U.i 23=(rowE (U.s 6) (U.i 16:Int).toNat).b:=Qbl (e.at 6 _ rfl rfl) rfl;have i24:U.i 24=(rowE (U.s 6) (U.i 16:Int).toNat).k:=Qbl (e.at 7 _ rfl rfl) rfl;have i25:U.i 25=(rowE (U.s 6) (U.i 16:Int).toNat).v:=Qbl (e.at 8 _ rfl rfl) rfl;have i26:U.i 26=(rowE (U.s 8) (U.i 16:Int).toNat).r:=Qbl (e.at 9 _ rfl rfl) rfl;have i27:U.i 27=(rowE (U.s 8) (U.i 16:Int).toNat).b:=Qbl (e.at 10 _ rfl rfl) rfl;have i28:U.i 28=(rowE (U.s 8) (U.i 16:Int).toNat).k:=Qbl (e.at 11 _ rfl rfl) rfl;have i29:U.i 29=(rowE (U.s 8) (U.i 16:Int).toNat).v:=Qbl (e.at 12 _ rfl rfl) rfl;have b30:U.b 30=((U.i 22==U.i 26)&&((U.i 23==U.i 27)&&((U.i 24==U.i 28)&&((U.i 25==U.i 29)&&true)))):=eqB (e.at 13 _ rfl rfl) rfl;have tr: ∀{P:Prop} {b:Bool} [Decidable P],b=decide P->b=false->P->False:=fun hb hf hp=>by rw [hb,decide_eq_false_iff_not] at hf;exact hf hp
   refine ⟨fun f17=> ?_,fun f17=> .inr (.inl ⟨rfl,rfl,insK (X:=Qu7) e hi,⟨hj.s,hj.s8,hj.n0,hj.nN,hj.v9,hj.v0,hj.v2,hj.v3,hj.v4,hj.v5,hj.v10,hj.v12,hj.v13,hj.v14,hj.v15,hj.v11,hj.le,hj.le9,hj.sz,extS hj.xe⟩,tabS ht⟩)⟩;rw [b17,decide_eq_true_eq] at f17;rw [hj.s] at i22 i23 i24 i25;rw [hj.s8] at i26 i27 i28 i29;rw [Qh] at i31;refine ⟨fun _=>⟨fun _=>⟨fun _=>⟨fun _=>⟨fun _=> .inl ⟨rfl,rfl,insK (X:=Qu7) e hi,⟨i+1,⟨hj.s,hj.s8,hj.n0,hj.nN,hj.v9,hj.v0,hj.v2,hj.v3,hj.v4,hj.v5,hj.v10,hj.v12,hj.v13,hj.v14,hj.v15,hj.v11,hj.le,hj.le9,hj.sz,extS hj.xe⟩,by omega,?_⟩,tabS ht,?_⟩,fun f=> ?_⟩,fun f=>tr b21 f (by omega)⟩,fun f=>tr b20 f (by omega)⟩,fun f=>tr b19 f (by omega)⟩,fun f=>tr b18 f (by omega)⟩;show U.i 31=_;omega;show (U.i 1-U.i 31).toNat<(U.i 1-U.i 16).toNat;omega;rw [b30,i22,i23,i24,i25,i26,i27,i28,i29] at f;simp at f
  refine Qf.seg mixed Qbfx ⟨rfl,rfl⟩ (fun V U (ag:Agree 16 V U) (h:Agree 16 g.sig V)=>h.trans' ag) (fun U h=>Qv) hloop (fun U e ht hi ag=> ?_) (pin0 (by kernel_rfl));refine Qp ?_;have a:=fun i h=>(ag.val i h).1.symm;have sa:=fun i h=>(ag.val i h).2.2.symm;have a0:=a 0 (by decide);have a1:=a 1 (by decide);have a2:=a 2 (by decide);have a3:=a 3 (by decide);have a4:=a 4 (by decide);have a5:=a 5 (by decide);have a7:=a 7 (by decide);have a9:=a 9 (by decide);have a10:=a 10 (by decide);have a11:=a 11 (by decide);have a12:=a 12 (by decide);have a13:=a 13 (by decide);have a14:=a 14 (by decide);have a15:=a 15 (by decide);have F:Facs U 16 Qmw:=facs e;dsimp only [Qmw,Facs,fac1,facI,facS,facB,oI,oK,oB,oS,nmL,nm,Nat.reduceAdd] at F;obtain ⟨b16,b17,b18,b19,b20,b21,-⟩:=F;refine ⟨fun f=> ?_,fun _=>⟨fun f=> ?_,fun _=>⟨fun f=> ?_,fun _=>⟨fun f=> ?_,fun _=>⟨fun f=> ?_,fun _=>⟨fun f=> ?_,fun _=> .inl ⟨rfl,rfl,insK (X:=Q3g) e hi,⟨0,⟨sa 6 (by decide),(sa 8 (by decide)).trans qs.symm,a1.trans hgn,a7.trans hgN,a9,a0,a2,a3,a4,a5,a10,a12,a13,a14,a15,(a11.trans q4.symm).trans hgn,by omega,by omega,by omega,extS ag.ext.symm⟩,Nat.zero_le _,rfl⟩,tabS ht⟩⟩⟩⟩⟩⟩⟩;rw [b16,a1,a11,q4] at f;simp at f;rw [b17,a0,a10,q5] at f;simp at f;rw [b18,a2,a12,q6] at f;simp at f;rw [b19,a3,a13,q7] at f;simp at f;rw [b20,a4,a14,q8] at f;simp at f;rw [b21,a5,a15,q9] at f;simp at f)
end Go.Proofs.YtelimhjceiamcaaDoor.lg
set_option maxRecDepth 100000
namespace Go.Proofs.YtelimhjceiamcaaDoor.lg
open Go.Ev Go.RowKit Go.Wbp Go.Lgp
open Go.Proofs.YtelimhjceiamcaaDoor.lgn (mixed sf48 Qbu)
def Qq1:Shape:=⟨[(0,lgA),(2,.s 9),(3,.z 2)],[eL 6 7]⟩
def Qgo:SymF:=
 {f:=15,m:=8,ins:=lgK,args:=[lgA],pre:=[eL 6 7],pcs:=lgQ++[.un .not (.symb 8)],G:=[.fnb 448 lgF,.text []],v:=.tuple [.s 9,.z 2],post:=[eL 6 7]}
def sf9n:SymF:=
 {f:=9,m:=8,ins:=lgK,args:=[lgA],pre:=[eL 6 7],pcs:=lgQ++[.un .not (.symb 8)],G:=[.fnb 448 lgF,.text []],v:=.tuple [.s 9,.z 2],post:=[eL 6 7]}
def Qmt:List SDef:=[.q .leq (.z 0) (.i 1),
 .q .leq (.i 1) (.i 7),
 .q .leq (.i 7) (.z 1000000),
 .fnb 448 [.w 0,.s 6,.i 1,.i 2,.u 3,.u 4,.i 5],
 .un .not (.symb 11)]
def Q26:LT:=Go.Wbp.fT 8 Qmt (.n (.n (.n .e 37295562 12 .e) 276146667 10 .e) 320878263 11 (.n (.n .e 343383805 8 .e) 357022124 9 .e))
def Qbfe:Sw:=.x 8 (.x 9 (.x 10 (.x 12 (.y 11 (.run (.leaf .ret Qq1 [(0,0)] [(0,.w 0),(1,.i 1),(2,.i 2),(3,.u 3),(4,.u 4),(5,.i 5),(9,.str ⟨#[]⟩),(6,.s 6),(7,.i 7)] []))))))
def Qbfd:KdT:=kdN 0x10122114 4 1 0
noncomputable def Q28:Ing:={m:=8,ins:=lgK,G:=Qmt,T:=Q26,tab:=Qa,lsts:=Qs,kb:=13,kt:=Qbfd}
noncomputable def Q27:Ing:={Q28 with mh:=Qbr (kdX Q28) [sf17]}
theorem Q29:okLT 8 Qmt Q26=true:=by kernel_rfl
theorem Qbff (F:List Fact):Hooks Tryd.prog (cxOf Q27 F):=
  Qcy (l:=[sf17]) rfl rfl rfl rfl rfl Q29 rfl rfl rfl ⟨c17,trivial⟩ F
theorem Qbfg:SegOk Tryd.prog Qa 68 (Qe (Qc Tryd.f15)) Q5w Q27 Qbfe:=
  ⟨Q29,by kernel_rfl,Qbff,rfl,by kernel_rfl,by kernel_rfl,rfl,rfl,fun _=>trivial,by kernel_rfl⟩
def L15n:Asg:=[(9,.s 9),(6,.s 6),(7,.i 7)]
theorem c15n:SymFOk Tryd.prog Qa (fun _=>True) Qgo:=
 Qb5 Tryd.func15 rfl (n:=68) rfl (by decide) (by decide) rfl rfl (by kernel_rfl) (fun g w hg _ hE hI hpc hH=>by
  have q0:=hpc (.bin .leq (.int .i64 0) (.symi .i64 1)) (by simp [Qgo,lgQ]);have q1:=hpc (.bin .leq (.symi .i64 1) (.symi .i64 7)) (by simp [Qgo,lgQ]);have q2:=hpc (.bin .leq (.symi .i64 7) (.int .i64 1000000)) (by simp [Qgo,lgQ]);have q3:=hpc (.un .not (.symb 8)) (by simp [Qgo,lgQ]);simp only [Qb,den,binS,intA,if_true,Option.some.injEq,AVal.bool.injEq,decide_eq_true_eq] at q0 q1 q2;have q3:g.sig.b 8=false:=by simpa [Qb,den,unA] using q3
  have q4:g.sig.b 8= !(g.sig.tab 448 [g.sig.i 0,encB (g.sig.s 6),g.sig.i 1,g.sig.i 2,g.sig.i 3,g.sig.i 4,g.sig.i 5]==0):=Qlz (hE.at 0 _ rfl rfl);have g9:g.sig.s 9=bs []:=p9.eqText (hE.at 1 _ rfl rfl);refine Qf.last mixed Qbfg ⟨rfl,rfl⟩ (fun V U (ag:Agree 8 V U) (h:Agree 8 g.sig V)=>h.trans' ag) (fun U h=>Qv) (fun U e ht hi ag=> ?_) (pin0 (by kernel_rfl));refine Qp ?_;have a:=fun i h=>(ag.val i h).1.symm;have a0:=a 0 (by decide);have a1:=a 1 (by decide);have a2:=a 2 (by decide);have a3:=a 3 (by decide);have a4:=a 4 (by decide);have a5:=a 5 (by decide);have a7:=a 7 (by decide);have a6:U.s 6=g.sig.s 6:=(ag.val 6 (by decide)).2.2.symm;have F:Facs U 8 Qmt:=facs e;dsimp only [Qmt,Facs,fac1,facI,facS,facB,oI,oK,oB,oS,nmL,nm,Nat.reduceAdd] at F;obtain ⟨b8,b9,b10,b11,b12,-⟩:=F;have tr: ∀{P:Prop} {b:Bool} [Decidable P],b=decide P->b=false->P->False:=fun hb hf hp=>by rw [hb,decide_eq_false_iff_not] at hf;exact hf hp
  have f11:U.b 11=false:=by rw [b11,a0,a1,a2,a3,a4,a5,a6,ht,<-hg,<-q4];exact q3
  have fin:EndZ Qa 68 (Qu g w Qgo.pre.length) (bodyPost Tryd.prog Tryd.f15 (MemR Qa Qgo g w)) .ret Qq1 (asgS U ([(0,.symi .u32 0),(1,.symi .i64 1),(2,.symi .i64 2),(3,.symi .u64 3),(4,.symi .u64 4),(5,.symi .i64 5),(9,.str ⟨#[]⟩),(6,.syms 6),(7,.symi .i64 7)]++[])):=
   Qb8 (M:=10) (l:=L15n) (vs:=[.syms 9,.int .i64 2]) (by kernel_rfl) rfl rfl hH hg rfl rfl rfl (by kernel_rfl) (by kernel_rfl) ⟨congrArg AVal.str g9.symm,congrArg AVal.str a6,congrArg (AVal.int .i64) a7,trivial⟩ (by decide) (extS ag.ext.symm) (.inl rfl)
  exact ⟨fun _=>⟨fun _=>⟨fun _=>⟨fun _=>⟨fun f=>(by rw [f11] at f;cases f),fun _=>fin⟩,fun f=>(by rw [b12,f11] at f;cases f)⟩,fun f=>tr b10 f (by omega)⟩,fun f=>tr b9 f (by omega)⟩,fun f=>tr b8 f (by omega)⟩)
def Qbi5:Shape:=⟨argT 0 [lgA],[eL 6 7]⟩
def Qnj:List SDef:=[.q .leq (.z 0) (.i 1),
 .q .leq (.i 1) (.i 7),
 .q .leq (.i 7) (.z 1000000),
 .fnb 448 [.w 0,.s 6,.i 1,.i 2,.u 3,.u 4,.i 5],
 .un .not (.symb 11)]
def Q49:LT:=Go.Wbp.fT 8 Qnj (.n (.n (.n .e 37295562 12 .e) 276146667 10 .e) 320878263 11 (.n (.n .e 343383805 8 .e) 357022124 9 .e))
def Qbil:Sw:=.x 8 (.x 9 (.x 10 (.x 12 (.y 11 (.run (.leaf .ret Qq1 [(0,0)] [(0,.w 0),(1,.i 1),(2,.i 2),(3,.u 3),(4,.u 4),(5,.i 5),(9,.str ⟨#[]⟩),(6,.s 6),(7,.i 7)] []))))))
def Qbik:KdT:=kdN 0x10122114 4 1 0
noncomputable def Q5b:Ing:={m:=8,ins:=lgK,G:=Qnj,T:=Q49,tab:=Qa,lsts:=Qs,kb:=13,kt:=Qbik}
noncomputable def Q5a:Ing:={Q5b with mh:=Qbr (kdX Q5b) [sf22]}
theorem Q5c:okLT 8 Qnj Q49=true:=by kernel_rfl
theorem Qbim (F:List Fact):Hooks Tryd.prog (cxOf Q5a F):=
  Qcy (l:=[sf22]) rfl rfl rfl rfl rfl Q5c rfl rfl rfl ⟨c22,trivial⟩ F
theorem Qbin:SegOk Tryd.prog Qa 97 (Qe (Qc Tryd.f9)) Qbi5 Q5a Qbil:=
  ⟨Q5c,by kernel_rfl,Qbim,rfl,by kernel_rfl,by kernel_rfl,rfl,rfl,fun _=>trivial,by kernel_rfl⟩
def L9n:Asg:=[(9,.s 9),(6,.s 6),(7,.i 7)]
theorem c9n:SymFOk Tryd.prog Qa (fun _=>True) sf9n:=
 Qb5 Tryd.func9 rfl (n:=97) rfl (by decide) (by decide) rfl rfl (by kernel_rfl) (fun g w hg _ hE hI hpc hH=>by
  have q0:=hpc (.bin .leq (.int .i64 0) (.symi .i64 1)) (by simp [sf9n,lgQ]);have q1:=hpc (.bin .leq (.symi .i64 1) (.symi .i64 7)) (by simp [sf9n,lgQ]);have q2:=hpc (.bin .leq (.symi .i64 7) (.int .i64 1000000)) (by simp [sf9n,lgQ]);have q3:=hpc (.un .not (.symb 8)) (by simp [sf9n,lgQ]);simp only [Qb,den,binS,intA,if_true,Option.some.injEq,AVal.bool.injEq,decide_eq_true_eq] at q0 q1 q2;have q3:g.sig.b 8=false:=by simpa [Qb,den,unA] using q3
  have q4:g.sig.b 8= !(g.sig.tab 448 [g.sig.i 0,encB (g.sig.s 6),g.sig.i 1,g.sig.i 2,g.sig.i 3,g.sig.i 4,g.sig.i 5]==0):=Qlz (hE.at 0 _ rfl rfl);have g9:g.sig.s 9=bs []:=p9.eqText (hE.at 1 _ rfl rfl);refine Qf.last mixed Qbin ⟨rfl,rfl⟩ (fun V U (ag:Agree 8 V U) (h:Agree 8 g.sig V)=>h.trans' ag) (fun U h=>Qv) (fun U e ht hi ag=> ?_) (pin0 (by kernel_rfl));refine Qp ?_;have a:=fun i h=>(ag.val i h).1.symm;have a0:=a 0 (by decide);have a1:=a 1 (by decide);have a2:=a 2 (by decide);have a3:=a 3 (by decide);have a4:=a 4 (by decide);have a5:=a 5 (by decide);have a7:=a 7 (by decide);have a6:U.s 6=g.sig.s 6:=(ag.val 6 (by decide)).2.2.symm;have F:Facs U 8 Qnj:=facs e;dsimp only [Qnj,Facs,fac1,facI,facS,facB,oI,oK,oB,oS,nmL,nm,Nat.reduceAdd] at F;obtain ⟨b8,b9,b10,b11,b12,-⟩:=F;have tr: ∀{P:Prop} {b:Bool} [Decidable P],b=decide P->b=false->P->False:=fun hb hf hp=>by rw [hb,decide_eq_false_iff_not] at hf;exact hf hp
  have f11:U.b 11=false:=by rw [b11,a0,a1,a2,a3,a4,a5,a6,ht,<-hg,<-q4];exact q3
  have fin:EndZ Qa 97 (Qu g w sf9n.pre.length) (bodyPost Tryd.prog Tryd.f9 (MemR Qa sf9n g w)) .ret Qq1 (asgS U ([(0,.symi .u32 0),(1,.symi .i64 1),(2,.symi .i64 2),(3,.symi .u64 3),(4,.symi .u64 4),(5,.symi .i64 5),(9,.str ⟨#[]⟩),(6,.syms 6),(7,.symi .i64 7)]++[])):=
   Qb8 (M:=10) (l:=L9n) (vs:=[.syms 9,.int .i64 2]) (by kernel_rfl) rfl rfl hH hg rfl rfl rfl (by kernel_rfl) (by kernel_rfl) ⟨congrArg AVal.str g9.symm,congrArg AVal.str a6,congrArg (AVal.int .i64) a7,trivial⟩ (by decide) (extS ag.ext.symm) (.inl rfl)
  exact ⟨fun _=>⟨fun _=>⟨fun _=>⟨fun _=>⟨fun f=>(by rw [f11] at f;cases f),fun _=>fin⟩,fun f=>(by rw [b12,f11] at f;cases f)⟩,fun f=>tr b10 f (by omega)⟩,fun f=>tr b9 f (by omega)⟩,fun f=>tr b8 f (by omega)⟩)
end Go.Proofs.YtelimhjceiamcaaDoor.lg
