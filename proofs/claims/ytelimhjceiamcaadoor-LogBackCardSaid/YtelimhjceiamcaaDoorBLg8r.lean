/-
 Contract of drafted, of a row: a log of drafts.
 No conditions.
-/
import Derived.Test.YtelimhjceiamcaaDoorBLg15
import Derived.Test.YtelimhjceiamcaaDoorBEv9
set_option maxRecDepth 100000
namespace Go.Proofs.YtelimhjceiamcaaDoor.lg
open Go.Ev Go.RowKit Go.Wbp Go.Lgp
open Go.Proofs.YtelimhjceiamcaaDoor.lgn (mixed sf48 Qda)
set_option linter.unusedVariables false
set_option linter.unusedSimpArgs false
def lgD:List AVal:=[.symi .u16 2,.symi .u16 3,.symi .u8 4,.symi .u8 5]
def lgZ:List AVal:=[.int .u32 0,.nilslice,.int .i64 0,.int .u64 0,.int .u64 0,.int .i64 0]
def Q2t:List (Option IntKind):=[some .u32,some .i64,some .u16,some .u16,some .u8,some .u8,none]
def Qbex:Shape:=⟨argT 0 [.symi .u32 0,.row 0,.agg lgD],[]⟩
def Q22:List (Nat×AVal):=[(1,.row 0),(5,.ptr 0 0),(6,.ptr 1 0),(7,.ptr 2 0),(8,.ptr 3 0)]
def Q2o:List Blk:=[.cells lgD 33,.cells lgZ 26,.cells [.symi .u32 8,.lsl 4 4 true (.int .i64 0) (.symi .i64 14),.symi .i64 15,.int .u64 0,.int .u64 0,.symi .i64 16] 26,.cells [.symi .u64 9,.symi .u64 10,.symi .i64 11,.symi .u8 12] 61,.lst (.syms 13) (.symi .i64 14) cl4 61]
def Qfz:Shape:=⟨Q22++[(9,.symi .i64 0)],Q2o⟩
def Ql9:Shape:=⟨Q22,Q2o⟩
def Qjf:List (Option IntKind):=[some .i64,some .i64,some .u16,some .u16,some .u8,some .u8,none,none,some .u32,some .u64,some .u64,some .i64,some .u8,none,some .i64,some .i64,some .i64]
def Q2y:List (Option IntKind):=[none,none,some .u16,some .u16,some .u8,some .u8,none,none,some .u32,some .u64,some .u64,some .i64,some .u8,none,some .i64,some .i64,some .i64]
def Qbeq:Shape:=⟨[(6,.ptr 1 0)],[.lst (.syms 7) (.symi .i64 8) cl4 61,.cells [.symi .u32 0,.lsl 0 4 true (.int .i64 0) (.symi .i64 8),.symi .i64 10,.symi .u64 11,.symi .u64 12,.symi .i64 14] 26]⟩
def sf8r:SymF:=
 {f:=8,m:=7,ins:=Q2t,args:=[.symi .u32 0,.row 0,.agg lgD],pre:=[],pcs:=[],xs:=[.symi .i64 1,.syms 6],
  G:=[.sop (.fs 640) [.syms 6,.symi .i64 1],.fn 641 .i64 [.syms 6,.symi .i64 1],.conv .i64 (.symi .u16 2),.bin .mul (.symi .i64 9) (.int .i64 100),.fn 642 .u64 [.syms 6,.symi .i64 1,.symi .u16 2,.symi .u16 3],.fn 643 .u64 [.syms 6,.symi .i64 1,.symi .u16 2,.symi .u16 3],.conv .i64 (.symi .u8 4),.bin .rem (.symi .i64 13) (.int .i64 7)],
  v:=.agg [.symi .u32 0,.lsl 0 4 true (.int .i64 0) (.symi .i64 8),.symi .i64 10,.symi .u64 11,.symi .u64 12,.symi .i64 14],post:=[.lst (.syms 7) (.symi .i64 8) cl4 61,.cells [.symi .u32 0,.lsl 0 4 true (.int .i64 0) (.symi .i64 8),.symi .i64 10,.symi .u64 11,.symi .u64 12,.symi .i64 14] 26]}
def Qpn:List SDef:=[.conv .i64 (.symi .u16 2),
 .bin .mul (.symi .i64 7) (.int .i64 100),
 .conv .i64 (.symi .u8 4),
 .bin .rem (.symi .i64 9) (.int .i64 7)]
def Q2j:LT:=Go.Wbp.fT 7 Qpn (.n (.n (.n .e 206000950 7 .e) 412001568 9 .e) 712015952 8 (.n .e 909363317 10 .e))
def Qbd7:Sw:=.run (.leaf .normal Qfz [(0,0),(1,0),(2,0),(3,0),(1000004,0)] [(0,.int .i64 0),(2,.symi .u16 2),(3,.symi .u16 3),(4,.symi .u8 4),(5,.symi .u8 5),(8,.symi .u32 0),(14,.int .i64 0),(15,.symi .i64 8),(16,.symi .i64 10),(9,.int .u64 0),(10,.int .u64 0),(11,.int .i64 (-1)),(12,.int .u8 0),(13,.str ⟨#[]⟩),(14,.int .i64 0)] [(1,.symi .i64 1)])
def Qbd6:KdT:=.n (.n (.n (.n .e (some .i64) .e) (some .u16) .e) (some .i64) (.n (.n .e (some .i64) .e) (some .u8) .e)) (some .u32) (.n (.n (.n .e (some .i64) .e) (some .u8) .e) (some .u16) (.n (.n .e (some .i64) .e) none .e))
noncomputable def Q2k:Ing:={m:=7,ins:=Q2t,G:=Qpn,T:=Q2j,tab:=Qa,lsts:=Qt,kb:=11,kt:=Qbd6,rows:=[⟨.symi .i64 1,[]⟩]}
theorem Qbd8:okLT 7 Qpn Q2j=true:=by kernel_rfl
theorem Qbd9:okG Qpn 7=true:=by kernel_rfl
theorem Qbea:SegOk Tryd.prog Qa 116 ((Qe (Qc Tryd.f8)).take 4) Qbex Q2k Qbd7 where
 lt:=Qbd8
 ok:=Qbd9
 hook:=fun F=>Qcb rfl F
 n0:=rfl
 id:=by kernel_rfl
 reck:=by kernel_rfl
 tab:=rfl
 cuts:=rfl
 kt:=by kernel_rfl
def Qpo:List SDef:=[.bin .lss (.symi .i64 0) (.symi .i64 1),
 .bin .lss (.symi .i64 0) (.int .i64 60),
 .bin .eql (.symi .u16 17) (.int .u16 0),
 .bin .rem (.symi .u8 19) (.int .u8 3),
 .conv .i64 (.symi .u8 24),
 .bin .leq (.symi .i64 25) (.symi .i64 11),
 .conv .u64 (.symi .u16 17),
 .bin .add (.symi .u64 9) (.symi .u64 27),
 .bin .add (.symi .u64 28) (.int .u64 1),
 .bin .gtr (.symi .u64 28) (.symi .u64 9),
 .bin .gtr (.symi .u64 29) (.symi .u64 9),
 .bin .leq (.int .i64 0) (.symi .i64 0),
 .conv .u64 (.symi .u16 18),
 .bin .add (.symi .u64 10) (.symi .u64 33),
 .low [.symi .u64 29,.symi .u64 34],
 .sop (.row [.some .u64,.some .u64,.some .i64,.some .u8]) [.symi .u64 29,.symi .u64 35,.symi .i64 25,.symi .u8 20],
 .sop .cat [.syms 13,.syms 36],
 .bin .add (.symi .i64 14) (.int .i64 1),
 .bin .leq (.int .i64 0) (.symi .i64 38),
 .bin .leq (.symi .i64 38) (.int .i64 4398046511104),
 .bin .add (.symi .i64 0) (.int .i64 1),
 .low [.symi .u64 28,.symi .u64 34],
 .sop (.row [.some .u64,.some .u64,.some .i64,.some .u8]) [.symi .u64 28,.symi .u64 42,.symi .i64 25,.symi .u8 20],
 .sop .cat [.syms 13,.syms 43],
 .sop (.row [.some .u64,.some .u64,.some .i64,.some .u8]) [.symi .u64 28,.symi .u64 10,.symi .i64 25,.symi .u8 20],
 .sop .cat [.syms 13,.syms 45]]
def Q2l:LT:=Go.Wbp.fT 21 Qpo (.n (.n (.n (.n (.n .e 30227 32 .e) 60352 41 (.n .e 1966368 40 .e)) 3012508 22 (.n (.n .e 52213784 45 .e) 162564267 39 .e)) 324524094 25 (.n (.n (.n .e 340322767 38 .e) 343384000 21 (.n .e 360469418 43 .e)) 378494437 44 (.n (.n .e 515903221 28 .e) 529541338 34 .e))) 549511987 30 (.n (.n (.n (.n .e 643273718 23 .e) 645375712 37 (.n .e 650512290 31 .e)) 677263758 27 (.n (.n .e 680585182 29 .e) 780264067 33 .e)) 795583320 36 (.n (.n (.n .e 845424380 24 .e) 884084961 42 .e) 933218227 26 (.n (.n .e 991085282 35 .e) 1069201092 46 .e))))
def Qbec:Sw:=.node 21 (.node 22 (.node 23 (.node 26 (.node 31 (.node 32 (.run (.node 39 (.node 40 (.leaf .normal Qfz [(0,0),(1,0),(2,0),(3,0),(7,0)] [(0,.symi .i64 41),(2,.symi .u16 2),(3,.symi .u16 3),(4,.symi .u8 4),(5,.symi .u8 5),(8,.symi .u32 8),(14,.symi .i64 38),(15,.symi .i64 15),(16,.symi .i64 16),(9,.symi .u64 29),(10,.symi .u64 35),(11,.symi .i64 25),(12,.symi .u8 20),(13,.syms 37),(14,.symi .i64 38)] [(1,.symi .i64 1)]) (.dead)) (.dead))) (.dead)) (.dead)) (.node 32 (.run (.node 30 (.dead) (.node 39 (.node 40 (.leaf .normal Qfz [(0,0),(1,0),(2,0),(3,0),(7,0)] [(0,.symi .i64 41),(2,.symi .u16 2),(3,.symi .u16 3),(4,.symi .u8 4),(5,.symi .u8 5),(8,.symi .u32 8),(14,.symi .i64 38),(15,.symi .i64 15),(16,.symi .i64 16),(9,.symi .u64 28),(10,.symi .u64 10),(11,.symi .i64 25),(12,.symi .u8 20),(13,.syms 46),(14,.symi .i64 38)] [(1,.symi .i64 1)]) (.dead)) (.dead)))) (.dead))) (.node 30 (.node 32 (.run (.node 39 (.node 40 (.leaf .normal Qfz [(0,0),(1,0),(2,0),(3,0),(7,0)] [(0,.symi .i64 41),(2,.symi .u16 2),(3,.symi .u16 3),(4,.symi .u8 4),(5,.symi .u8 5),(8,.symi .u32 8),(14,.symi .i64 38),(15,.symi .i64 15),(16,.symi .i64 16),(9,.symi .u64 28),(10,.symi .u64 42),(11,.symi .i64 25),(12,.symi .u8 20),(13,.syms 44),(14,.symi .i64 38)] [(1,.symi .i64 1)]) (.dead)) (.dead))) (.dead)) (.dead))) (.run (.leaf (.exit 0) Ql9 [(0,0),(1,0),(2,0),(3,0),(4,0)] [(2,.symi .u16 2),(3,.symi .u16 3),(4,.symi .u8 4),(5,.symi .u8 5),(8,.symi .u32 8),(14,.symi .i64 14),(15,.symi .i64 15),(16,.symi .i64 16),(9,.symi .u64 9),(10,.symi .u64 10),(11,.symi .i64 11),(12,.symi .u8 12),(13,.syms 13),(14,.symi .i64 14)] []))) (.run (.leaf (.exit 0) Ql9 [(0,0),(1,0),(2,0),(3,0),(4,0)] [(2,.symi .u16 2),(3,.symi .u16 3),(4,.symi .u8 4),(5,.symi .u8 5),(8,.symi .u32 8),(14,.symi .i64 14),(15,.symi .i64 15),(16,.symi .i64 16),(9,.symi .u64 9),(10,.symi .u64 10),(11,.symi .i64 11),(12,.symi .u8 12),(13,.syms 13),(14,.symi .i64 14)] []))
def Qbeb:KdT:=.n (.n (.n (.n (.n (.n .e none .e) (some .i64) .e) none (.n (.n .e none .e) none .e)) (some .u16) (.n (.n (.n .e (some .u64) .e) (some .u8) .e) (some .i64) (.n (.n .e none .e) (some .u64) .e))) (some .i64) (.n (.n (.n (.n .e (some .u64) .e) (some .u16) .e) (some .u64) (.n (.n .e (some .i64) .e) (some .i64) .e)) (some .u8) (.n (.n (.n .e none .e) none .e) none (.n (.n .e none .e) (some .u64) .e)))) (some .i64) (.n (.n (.n (.n (.n .e none .e) (some .i64) .e) (some .u32) (.n (.n .e none .e) (some .u8) .e)) (some .u8) (.n (.n (.n .e none .e) (some .u8) .e) (some .u8) (.n (.n .e none .e) (some .u64) .e))) (some .u16) (.n (.n (.n (.n .e (some .u64) .e) (some .u16) .e) (some .u64) (.n (.n .e (some .u64) .e) none .e)) none (.n (.n (.n .e (some .i64) .e) none .e) (some .i64) (.n (.n .e none .e) none .e))))
noncomputable def Ql5:Ing:={m:=21,ins:=(Qjf++[some .u16,some .u16,some .u8,some .u8]),G:=Qpo,T:=Q2l,tab:=Qa,lsts:=Qt,kb:=47,kt:=Qbeb,rows:=[⟨.symi .i64 1,[(.symi .i64 0,Qdn 17 [.i .u16,.i .u16,.i .u8,.i .u8])]⟩]}
theorem Qbed:okLT 21 Qpo Q2l=true:=by kernel_rfl
theorem Qbee:okG Qpo 21=true:=by kernel_rfl
theorem Qbef:SegOk Tryd.prog Qa 116 ([Qca (Qc Tryd.f8)]) Qfz Ql5 Qbec where
 lt:=Qbed
 ok:=Qbee
 hook:=fun F=>Qcb rfl F
 n0:=rfl
 id:=by kernel_rfl
 reck:=by kernel_rfl
 tab:=rfl
 cuts:=rfl
 kt:=by kernel_rfl
def Qpp:List SDef:=[.conv .u64 (.symi .u16 2),
 .bin .add (.symi .u64 9) (.symi .u64 17),
 .conv .u64 (.symi .u16 3),
 .bin .add (.symi .u64 10) (.symi .u64 19),
 .low [.symi .u64 18,.symi .u64 20]]
def Q2m:LT:=Go.Wbp.fT 17 Qpp (.n (.n (.n .e 17558554 20 .e) 206000950 17 .e) 303592922 18 (.n (.n .e 309001259 19 .e) 620582825 21 .e))
def Qbeh:Sw:=.run (.leaf .ret Qbeq [(4,0),(1,0)] [(7,.syms 13),(8,.symi .i64 14),(0,.symi .u32 8),(8,.symi .i64 14),(10,.symi .i64 15),(11,.symi .u64 18),(12,.symi .u64 21),(14,.symi .i64 16)] [])
def Qbeg:KdT:=.n (.n (.n (.n (.n .e (some .i64) .e) none .e) (some .u16) (.n (.n .e (some .u64) .e) (some .i64) .e)) none (.n (.n (.n .e (some .u64) .e) (some .u64) .e) (some .u8) (.n (.n .e (some .u64) .e) none .e))) none (.n (.n (.n (.n .e (some .i64) .e) (some .u32) .e) (some .u8) (.n (.n .e (some .u64) .e) (some .u8) .e)) (some .u16) (.n (.n (.n .e (some .u64) .e) (some .u64) .e) none (.n .e (some .i64) .e)))
noncomputable def Qbei:Ing:={m:=17,ins:=Q2y,G:=Qpp,T:=Q2m,tab:=Qa,lsts:=Qt,kb:=22,kt:=Qbeg}
theorem Qbej:okLT 17 Qpp Q2m=true:=by kernel_rfl
theorem Qbek:okG Qpp 17=true:=by kernel_rfl
theorem Qbel:SegOk Tryd.prog Qa 116 ((Qe (Qc Tryd.f8)).drop 5) Ql9 Qbei Qbeh where
 lt:=Qbej
 ok:=Qbek
 hook:=fun F=>Qcb rfl F
 n0:=rfl
 id:=by kernel_rfl
 reck:=by kernel_rfl
 tab:=rfl
 cuts:=rfl
 kt:=by kernel_rfl
structure M8 (g:Sig) (C:ByteArray) (i:Nat) (σ:Sig):Prop where
 v8:σ.ival 8=g.ival 0
 v2:σ.ival 2=g.ival 2
 v3:σ.ival 3=g.ival 3
 v4:σ.ival 4=g.ival 4
 v5:σ.ival 5=g.ival 5
 r:σ.ival 9=(Qg noE (draL C i)).r
 b:σ.ival 10=(Qg noE (draL C i)).b
 k:σ.ival 11=(Qg noE (draL C i)).k
 v:σ.ival 12=(Qg noE (draL C i)).v
 c:σ.sval 13=Lgp.encL (draL C i)
 m:σ.ival 14=(i:Nat)
 cy:σ.ival 15=g.ival 2*100
 ou:σ.ival 16=g.ival 4%7
 h60:i<=60
theorem M8.agree {g:Sig} {C:ByteArray} {i:Nat} {σ τ:Sig} (ag:Agree 17 σ τ) (h:M8 g C i σ):M8 g C i τ:=
 ⟨by rw [<-(ag.val 8 (by decide)).1];exact h.v8,by rw [<-(ag.val 2 (by decide)).1];exact h.v2,by rw [<-(ag.val 3 (by decide)).1];exact h.v3,by rw [<-(ag.val 4 (by decide)).1];exact h.v4,by rw [<-(ag.val 5 (by decide)).1];exact h.v5,by rw [<-(ag.val 9 (by decide)).1];exact h.r,by rw [<-(ag.val 10 (by decide)).1];exact h.b,by rw [<-(ag.val 11 (by decide)).1];exact h.k,by rw [<-(ag.val 12 (by decide)).1];exact h.v,by rw [<-(ag.val 13 (by decide)).2.2];exact h.c,by rw [<-(ag.val 14 (by decide)).1];exact h.m,by rw [<-(ag.val 15 (by decide)).1];exact h.cy,by rw [<-(ag.val 16 (by decide)).1];exact h.ou,h.h60⟩
def d4:List Cl:=[.i .u16,.i .u16,.i .u8,.i .u8]
structure Inv8 (E:Nat->Option Fz) (X:Fz) (σ:Sig):Prop where
 ext:σ.ext=E
 len:σ.ival 1=X.len
 str:StrX σ (.syms 6) cl4d X
theorem Q5j {X:Fz} {σ:Sig} {k:Nat} {E:Nat->Option Fz} (he:σ.ext=E) (hE0: ∀Y,E 0=some Y->Y=X) (hk:σ.ival k=X.len):Qeb σ [⟨.symi .i64 k,[]⟩]:=by
 intro i r Y hr hY
 have hr0:i=0:=by
  cases i with
  |zero=>rfl
  |succ i=>simp at hr
 subst hr0
 rw [he] at hY
 have:=hE0 Y hY
 subst this
 simp only [List.getElem?_cons_zero,Option.some.injEq] at hr
 subst hr
 exact ⟨by show AVal.int .i64 _=_;rw [hk],fun p hp=>by cases hp⟩
def L8:Asg:=[(0,.symi .u32 0),(8,.symi .i64 8),(10,.symi .i64 10),(11,.symi .u64 11),(12,.symi .u64 12),(14,.symi .i64 14),(7,.syms 7),(8,.symi .i64 8),(0,.symi .u32 0),(8,.symi .i64 8),(10,.symi .i64 10),(11,.symi .u64 11),(12,.symi .u64 12),(14,.symi .i64 14)]
abbrev Z8 (g:Inj) (w:World):Exit->Act->World->Prop:=bodyPost Tryd.prog Tryd.f8 (MemR Qa sf8r g w)
theorem go8 {g:Sig} {C:ByteArray} {i:Nat} {τ:Sig} {rr bb ss:Nat} (hj:M8 g C i τ) (h6:i<60) (h38:τ.ival 38=((i+1:Nat):Int)) (hr:τ.ival rr=(Qct (Qg noE (draL C i)) (rowD C i)).r) (hb:τ.ival bb=(Qct (Qg noE (draL C i)) (rowD C i)).b) (hk:τ.ival 25=(rowD C i).k%3) (hv:τ.ival 20=(rowD C i).v)
  (hs:τ.sval ss=τ.sval 13++encX ⟨τ.ival rr,τ.ival bb,τ.ival 25,τ.ival 20⟩):M8 g C (i+1) (asgS τ ([(0,.symi .i64 41),(2,.symi .u16 2),(3,.symi .u16 3),(4,.symi .u8 4),(5,.symi .u8 5),(8,.symi .u32 8),(14,.symi .i64 38),(15,.symi .i64 15),(16,.symi .i64 16),(9,.symi .u64 rr),(10,.symi .u64 bb),(11,.symi .i64 25),(12,.symi .u8 20),(13,.syms ss),(14,.symi .i64 38)]++[(1,.symi .i64 1)])):=by
 have e:Qg noE (draL C (i+1))=Qct (Qg noE (draL C i)) (rowD C i):=by rw [draL,Qja]
 refine ⟨hj.v8,hj.v2,hj.v3,hj.v4,hj.v5,?_,?_,?_,?_,?_,h38,hj.cy,hj.ou,h6⟩
 ·rw [e];exact hr
 ·rw [e];exact hb
 ·rw [e];exact hk
 ·rw [e];exact hv
 ·show τ.sval ss=_
  rw [hs,hj.c,draL,Lgp.encL_snoc,hr,hb,hk,hv]
  rfl
theorem dst1 {a:En} {d:Dr} (h:d.m=0) (hk:d.k%3<=a.k):(Qct a d).r=a.r+1/\(Qct a d).b=min (a.r+1) (a.b+d.t):=by
 unfold Qct
 simp only [h,hk,and_self,if_true]
 rw [if_pos (by omega)]
 exact ⟨by omega,by rw [Int.add_zero]⟩
theorem dst2 {a:En} {d:Dr} (h:d.m=0) (hk: ¬d.k%3<=a.k):(Qct a d).r=a.r/\(Qct a d).b=a.b:=by
 unfold Qct
 simp only [h,hk,and_false,if_false]
 rw [if_neg (by omega)]
 exact ⟨by omega,rfl⟩
theorem dst3 {a:En} {d:Dr} (h: ¬d.m=0) (h0:0<=d.m):(Qct a d).r=a.r+d.m/\(Qct a d).b=min (a.r+d.m) (a.b+d.t):=by
 unfold Qct
 simp only [h,false_and,if_false,true_and]
 rw [if_pos (by omega)]
set_option maxHeartbeats 1000000 in
theorem c8r {E:Nat->Option Fz} {WX:World} {vX:Value} {X:Fz} (hX:RowV WX d4 vX X) (hE0: ∀Y,E 0=some Y->Y=X):SymFOk Tryd.prog Qa (Inv8 E X) sf8r:=
 Qel Tryd.func8 rfl (n:=116) rfl (by decide) (by decide) rfl rfl (by kernel_rfl) (fun g w hg hv0 hE hI hpc hH=>by
  obtain ⟨hvx,hvl,hz,S,hS,hSl,hSv⟩:=hv0
  have hC:g.sig.sval 6=S:=AVal.str.inj hS
  have w2:=hI 2 .u16 (by decide) rfl
  have w3:=hI 3 .u16 (by decide) rfl
  have w4:=hI 4 .u8 (by decide) rfl
  rw [Qrs] at w2 w3
  rw [wr_u8] at w4
  have hlast:Qf Tryd.prog Qa 116 (Qbh g w 0) (Z8 g w) ((Qe (Qc Tryd.f8)).drop 5) Ql9 17 Q2y (fun σ=>M8 g.sig S (min X.len 60) σ/\σ.ext=E):=by
   refine Qf.last mixed Qbel ⟨rfl,rfl⟩ (fun σ τ ag h=>⟨h.1.agree ag,by rw [<-ag.ext];exact h.2⟩) (fun τ h=>Qbe) (fun τ e ht hi hj=> ?_) (pin0 (by kernel_rfl))
   obtain ⟨hj,hxe⟩:=hj
   refine Q6 ?_
   have hr:=hj.r
   have hb:=hj.b
   have v2:=hj.v2
   have v3:=hj.v3
   have hm:=hj.m
   have dl:=Qss S (min X.len 60)
   obtain ⟨o1,o2,o3,o4,o5,_,_⟩:=Qhi S (min X.len 60)
   obtain ⟨t0,t1,t2,t3⟩:=Q23 S X.len (g.sig.ival 2) (g.sig.ival 3)
   have i17:τ.ival 17=IntKind.u64.wrap (τ.ival 2):=eqI (e.at 0 _ rfl rfl) rfl
   have i18:τ.ival 18=IntKind.u64.wrap (τ.ival 9+τ.ival 17):=eqI (e.at 1 _ rfl rfl) rfl
   have i19:τ.ival 19=IntKind.u64.wrap (τ.ival 3):=eqI (e.at 2 _ rfl rfl) rfl
   have i20:τ.ival 20=IntKind.u64.wrap (τ.ival 10+τ.ival 19):=eqI (e.at 3 _ rfl rfl) rfl
   have i21:τ.ival 21=(if τ.ival 20<τ.ival 18 then τ.ival 20 else τ.ival 18):=eqI (e.at 4 _ rfl rfl) rfl
   have g7:g.sig.sval 7=decS (g.sig.tab 640 [encB (g.sig.sval 6),g.sig.ival 1]):=eqFs (hE.at 0 _ rfl rfl)
   have g8:g.sig.ival 8=IntKind.i64.wrap (g.sig.tab 641 [encB (g.sig.sval 6),g.sig.ival 1]):=eqFn (hE.at 1 _ rfl rfl)
   have g9:g.sig.ival 9=IntKind.i64.wrap (g.sig.ival 2):=eqI (hE.at 2 _ rfl rfl) rfl
   have g10:g.sig.ival 10=IntKind.i64.wrap (g.sig.ival 9*100):=eqI (hE.at 3 _ rfl rfl) rfl
   have g11:g.sig.ival 11=IntKind.u64.wrap (g.sig.tab 642 [encB (g.sig.sval 6),g.sig.ival 1,g.sig.ival 2,g.sig.ival 3]):=eqFn (hE.at 4 _ rfl rfl)
   have g12:g.sig.ival 12=IntKind.u64.wrap (g.sig.tab 643 [encB (g.sig.sval 6),g.sig.ival 1,g.sig.ival 2,g.sig.ival 3]):=eqFn (hE.at 5 _ rfl rfl)
   have g13:g.sig.ival 13=IntKind.i64.wrap (g.sig.ival 4):=eqI (hE.at 6 _ rfl rfl) rfl
   have g14:g.sig.ival 14=(g.sig.ival 13).tmod 7:=eqI (hE.at 7 _ rfl rfl) rfl
   rw [hg,hvl,hC,t0] at g7
   rw [hg,hvl,hC,t1,Qh] at g8
   rw [hg,hvl,hC,t2,Qj] at g11
   rw [hg,hvl,hC,t3,Qj] at g12
   rw [Qh] at g9 g10 g13
   rw [Qro _ (by omega)] at g14
   rw [Qj] at i17 i18 i19 i20
   have e12:(draG 0 S X.len (g.sig.ival 2) (g.sig.ival 3) 0).ret=(Qg noE (draL S (min X.len 60))).r+g.sig.ival 2:=rfl
   have e13:(draG 0 S X.len (g.sig.ival 2) (g.sig.ival 3) 0).br=min ((Qg noE (draL S (min X.len 60))).r+g.sig.ival 2) ((Qg noE (draL S (min X.len 60))).b+g.sig.ival 3):=rfl
   rw [e12] at g11
   rw [e13] at g12
   have hc:=hj.c
   have hcy:=hj.cy
   have hou:=hj.ou
   have z8:τ.ival 14=g.sig.ival 8:=by omega
   have z11:τ.ival 18=g.sig.ival 11:=by omega
   have z12:τ.ival 21=g.sig.ival 12:=by
    rw [i21]
    split<;>omega
   have z10:τ.ival 15=g.sig.ival 10:=by omega
   have z14:τ.ival 16=g.sig.ival 14:=by omega
   have z7:τ.sval 13=g.sig.sval 7:=by rw [hc,g7]
   exact Qeu (M:=15) (l:=L8) (vs:=[.agg [.symi .u32 0,.lsl 0 4 true (.int .i64 0) (.symi .i64 8),.symi .i64 10,.symi .u64 11,.symi .u64 12,.symi .i64 14]]) (by kernel_rfl) rfl rfl hH hg rfl rfl rfl (by kernel_rfl) (by kernel_rfl) ⟨congrArg (AVal.int .u32) hj.v8,congrArg (AVal.int .i64) z8,congrArg (AVal.int .i64) z10,congrArg (AVal.int .u64) z11,congrArg (AVal.int .u64) z12,congrArg (AVal.int .i64) z14,congrArg AVal.str z7,congrArg (AVal.int .i64) z8,congrArg (AVal.int .u32) hj.v8,congrArg (AVal.int .i64) z8,congrArg (AVal.int .i64) z10,congrArg (AVal.int .u64) z11,congrArg (AVal.int .u64) z12,congrArg (AVal.int .i64) z14,trivial⟩ (by decide) (extS (hxe.trans hvx.symm)) (.inl rfl)
  have hbody: ∀k (_:Unit),Qf Tryd.prog Qa 116 (Qbh g w 0) (Qgd Tryd.prog (idOf (Qc Tryd.f8)) ((Qe (Qc Tryd.f8)).drop 5) (Z8 g w) (InvF Qa 116 (Qbh g w 0) (fun _:Unit=>Qfz) 17 Qjf (fun _ σ=>RowE E X σ/\ ∃i,M8 g.sig S i σ/\σ.ival 0=(i:Nat)) (fun σ=>((X.len:Int)-σ.ival 0).toNat)) k) [Qca (Qc Tryd.f8)] Qfz (17+d4.length) (Qjf++d4.map Qe0) (fun τ=>Qfh 17 d4 E X τ/\(∃i,M8 g.sig S i τ/\τ.ival 0=(i:Nat))/\((X.len:Int)-τ.ival 0).toNat=k):=by
   intro k _
   refine Qf.last mixed Qbef ⟨rfl,rfl⟩ (fun σ τ ag h=>⟨h.1.agree ag,(let ⟨i,hi,h0⟩:=h.2.1;⟨i,hi.agree (ag.less (by decide)),by rw [<-(ag.val 0 (by decide)).1];exact h0⟩),by rw [<-(ag.val 0 (by decide)).1];exact h.2.2⟩) (fun τ h=>h.1.rows hX hE0 (by decide)) (fun τ e ht hi hj=> ?_) (pin0 (by kernel_rfl))
   obtain ⟨hrow,⟨i,hj,hi0⟩,hkk⟩:=hj
   have hrr:=hrow.hd (by decide)
   have hlen:=hrr.len
   have hlo:=hrr.lo
   have hhi:=hrr.hi
   have hXl:=hX.len
   refine Q6 ?_
   have h60:=hj.h60
   have hr:=hj.r
   have hb:=hj.b
   have hk:=hj.k
   have hm:=hj.m
   obtain ⟨o1,o2,o3,o4,o5,_,_⟩:=Qhi S i
   obtain ⟨⟨d1,d2⟩,⟨d3,d4'⟩,⟨d5,d6⟩,d7,d8⟩:=Q5h S i
   have b21:τ.bval 21=decide (τ.ival 0<τ.ival 1):=eqB (e.at 0 _ rfl rfl) rfl
   have b22:τ.bval 22=decide (τ.ival 0<60):=eqB (e.at 1 _ rfl rfl) rfl
   have b23:τ.bval 23=((τ.ival 17:Int)==0):=eqB (e.at 2 _ rfl rfl) rfl
   have i24:τ.ival 24=(τ.ival 19).tmod (3):=eqI (e.at 3 _ rfl rfl) rfl
   have i25:τ.ival 25=IntKind.i64.wrap (τ.ival 24):=eqI (e.at 4 _ rfl rfl) rfl
   have b26:τ.bval 26=decide (τ.ival 25<=τ.ival 11):=eqB (e.at 5 _ rfl rfl) rfl
   have i27:τ.ival 27=IntKind.u64.wrap (τ.ival 17):=eqI (e.at 6 _ rfl rfl) rfl
   have i28:τ.ival 28=IntKind.u64.wrap (τ.ival 9+τ.ival 27):=eqI (e.at 7 _ rfl rfl) rfl
   have i29:τ.ival 29=IntKind.u64.wrap (τ.ival 28+1):=eqI (e.at 8 _ rfl rfl) rfl
   have b30:τ.bval 30=decide (τ.ival 28>τ.ival 9):=eqB (e.at 9 _ rfl rfl) rfl
   have b31:τ.bval 31=decide (τ.ival 29>τ.ival 9):=eqB (e.at 10 _ rfl rfl) rfl
   have b32:τ.bval 32=decide ((0:Int)<=τ.ival 0):=eqB (e.at 11 _ rfl rfl) rfl
   have i33:τ.ival 33=IntKind.u64.wrap (τ.ival 18):=eqI (e.at 12 _ rfl rfl) rfl
   have i34:τ.ival 34=IntKind.u64.wrap (τ.ival 10+τ.ival 33):=eqI (e.at 13 _ rfl rfl) rfl
   have i35:τ.ival 35=(if τ.ival 34<τ.ival 29 then τ.ival 34 else τ.ival 29):=eqI (e.at 14 _ rfl rfl) rfl
   have s36:τ.sval 36=encX ⟨τ.ival 29,τ.ival 35,τ.ival 25,τ.ival 20⟩:=Qbu (e.at 15 _ rfl rfl)
   have s37:τ.sval 37=τ.sval 13++τ.sval 36:=Qu (e.at 16 _ rfl rfl) rfl rfl
   have i38:τ.ival 38=IntKind.i64.wrap (τ.ival 14+1):=eqI (e.at 17 _ rfl rfl) rfl
   have b39:τ.bval 39=decide ((0:Int)<=τ.ival 38):=eqB (e.at 18 _ rfl rfl) rfl
   have b40:τ.bval 40=decide (τ.ival 38<=4398046511104):=eqB (e.at 19 _ rfl rfl) rfl
   have i41:τ.ival 41=IntKind.i64.wrap (τ.ival 0+1):=eqI (e.at 20 _ rfl rfl) rfl
   have i42:τ.ival 42=(if τ.ival 34<τ.ival 28 then τ.ival 34 else τ.ival 28):=eqI (e.at 21 _ rfl rfl) rfl
   have s43:τ.sval 43=encX ⟨τ.ival 28,τ.ival 42,τ.ival 25,τ.ival 20⟩:=Qbu (e.at 22 _ rfl rfl)
   have s44:τ.sval 44=τ.sval 13++τ.sval 43:=Qu (e.at 23 _ rfl rfl) rfl rfl
   have s45:τ.sval 45=encX ⟨τ.ival 28,τ.ival 10,τ.ival 25,τ.ival 20⟩:=Qbu (e.at 24 _ rfl rfl)
   have s46:τ.sval 46=τ.sval 13++τ.sval 45:=Qu (e.at 25 _ rfl rfl) rfl rfl
   have tr: ∀{P:Prop} {b:Bool} [Decidable P],b=decide P->b=false->P->False:=fun hb hf hp=>by rw [hb,decide_eq_false_iff_not] at hf;exact hf hp
   have outs: ¬(i<X.len/\i<60)->EndZ Qa 116 (Qbh g w 0) (Qgd Tryd.prog (idOf (Qc Tryd.f8)) ((Qe (Qc Tryd.f8)).drop 5) (Z8 g w) (InvF Qa 116 (Qbh g w 0) (fun _:Unit=>Qfz) 17 Qjf (fun _ σ=>RowE E X σ/\ ∃i,M8 g.sig S i σ/\σ.ival 0=(i:Nat)) (fun σ=>((X.len:Int)-σ.ival 0).toNat)) k) (.exit 0) Ql9 (asgS τ ([(2,.symi .u16 2),(3,.symi .u16 3),(4,.symi .u8 4),(5,.symi .u8 5),(8,.symi .u32 8),(14,.symi .i64 14),(15,.symi .i64 15),(16,.symi .i64 16),(9,.symi .u64 9),(10,.symi .u64 10),(11,.symi .i64 11),(12,.symi .u8 12),(13,.syms 13),(14,.symi .i64 14)]++[])):=by
    intro h
    have hm2:i=min X.len 60:=by omega
    subst hm2
    exact EndZ.out (by simp) (EndZ.blk hlast (.inr rfl) (Qbi (X:=Ql5) e hi (by kernel_rfl) (by kernel_rfl)) ⟨⟨hj.v8,hj.v2,hj.v3,hj.v4,hj.v5,hj.r,hj.b,hj.k,hj.v,hj.c,hj.m,hj.cy,hj.ou,h60⟩,extS hrr.ext⟩ (tabS ht))
   refine ⟨fun f21=>⟨fun f22=> ?_,fun f22=>outs ?_⟩,fun f21=>outs ?_⟩
   ·rw [b21,decide_eq_true_eq] at f21
    rw [b22,decide_eq_true_eq] at f22
    have hlt:i<X.len:=by omega
    have h6:i<60:=by omega
    have el: ∀j,j<4->τ.ival (17+j)=iOf (Qo cl4d S i j):=by
     intro j hj3
     obtain ⟨σ,ag,hh⟩:=hrow
     have t0:τ.ival 0=σ.ival 0:=by rw [<-(ag.val 0 (by decide)).1];simp [Qb8]
     rw [<-(ag.val (17+j) (by simp [d4];omega)).1]
     have hm:(σ.ival 0).toNat=i:=by omega
     simp only [Qb8,hm,hlt,if_true,Nat.add_sub_cancel_left]
     rw [if_neg (by omega),hSv i j hlt (by rw [<-hz];exact hj3)]
    have v17:τ.ival 17=(rowD S i).m:=el 0 (by omega)
    have v18:τ.ival 18=(rowD S i).t:=el 1 (by omega)
    have v19:τ.ival 19=(rowD S i).k:=el 2 (by omega)
    have v20:τ.ival 20=(rowD S i).v:=el 3 (by omega)
    rw [v19,Qro _ d5] at i24
    rw [Qh,i24] at i25
    rw [Qj,v17] at i27
    rw [Qj,i27,hr] at i28
    rw [Qj] at i29
    rw [Qj,v18] at i33
    rw [Qj,i33,hb] at i34
    rw [Qh] at i38 i41
    rw [v17] at b23
    have e25:τ.ival 25=(rowD S i).k%3:=by omega
    rw [e25,hk] at b26
    have e28:τ.ival 28=(Qg noE (draL S i)).r+(rowD S i).m:=by omega
    have e29:τ.ival 29=(Qg noE (draL S i)).r+(rowD S i).m+1:=by omega
    have e34:τ.ival 34=(Qg noE (draL S i)).b+(rowD S i).t:=by omega
    have e38:τ.ival 38=((i+1:Nat):Int):=by omega
    have e41:τ.ival 41=((i+1:Nat):Int):=by omega
    have e35:τ.ival 35=min (τ.ival 29) (τ.ival 34):=by rw [i35];split<;>omega
    have e42:τ.ival 42=min (τ.ival 28) (τ.ival 34):=by rw [i42];split<;>omega
    refine ⟨fun f23=>⟨fun f26=> ?_,fun f26=> ?_⟩,fun f23=> ?_⟩
    ·rw [b23,beq_iff_eq] at f23
     rw [b26,decide_eq_true_eq] at f26
     obtain ⟨x1,x2⟩:=dst1 f23 f26
     exact ⟨fun f31=>⟨fun f32=>⟨fun f39=>⟨fun f40=>EndZ.loopF () rfl (Qbi (X:=Ql5) e hi (by kernel_rfl) (by kernel_rfl)) ⟨⟨extS hrr.ext,hrr.len,(by show 0<=τ.ival 41;omega),(by show τ.ival 41<=_;omega)⟩,i+1,go8 (rr:=29) (bb:=35) (ss:=37) hj h6 e38 (by rw [x1,e29,f23];omega) (by rw [x2,e35,e29,e34,f23,Int.add_zero]) e25 v20 (by rw [s37,s36]),e41⟩ (tabS ht) (by show ((X.len:Int)-τ.ival 41).toNat<k;omega),fun f=>tr b40 f (by omega)⟩,fun f=>tr b39 f (by omega)⟩,fun f=>tr b32 f (by omega)⟩,fun f=>tr b31 f (by omega)⟩
    ·rw [b23,beq_iff_eq] at f23
     rw [b26,decide_eq_false_iff_not] at f26
     obtain ⟨x1,x2⟩:=dst2 f23 f26
     exact ⟨fun f32=>⟨fun f=>absurd (of_decide_eq_true (b30.symm.trans f)) (by omega),fun f30=>⟨fun f39=>⟨fun f40=>EndZ.loopF () rfl (Qbi (X:=Ql5) e hi (by kernel_rfl) (by kernel_rfl)) ⟨⟨extS hrr.ext,hrr.len,(by show 0<=τ.ival 41;omega),(by show τ.ival 41<=_;omega)⟩,i+1,go8 (rr:=28) (bb:=10) (ss:=46) hj h6 e38 (by rw [x1,e28,f23];omega) (by rw [x2];exact hb) e25 v20 (by rw [s46,s45]),e41⟩ (tabS ht) (by show ((X.len:Int)-τ.ival 41).toNat<k;omega),fun f=>tr b40 f (by omega)⟩,fun f=>tr b39 f (by omega)⟩⟩,fun f=>tr b32 f (by omega)⟩
    ·rw [b23] at f23
     have f23: ¬(rowD S i).m=0:=by intro h;rw [h] at f23;cases f23
     obtain ⟨x1,x2⟩:=dst3 f23 d1
     exact ⟨fun f30=>⟨fun f32=>⟨fun f39=>⟨fun f40=>EndZ.loopF () rfl (Qbi (X:=Ql5) e hi (by kernel_rfl) (by kernel_rfl)) ⟨⟨extS hrr.ext,hrr.len,(by show 0<=τ.ival 41;omega),(by show τ.ival 41<=_;omega)⟩,i+1,go8 (rr:=28) (bb:=42) (ss:=44) hj h6 e38 (by rw [x1,e28]) (by rw [x2,e42,e28,e34]) e25 v20 (by rw [s44,s43]),e41⟩ (tabS ht) (by show ((X.len:Int)-τ.ival 41).toNat<k;omega),fun f=>tr b40 f (by omega)⟩,fun f=>tr b39 f (by omega)⟩,fun f=>tr b32 f (by omega)⟩,fun f=>tr b30 f (by omega)⟩
   ·rw [b22,decide_eq_false_iff_not] at f22
    omega
   ·rw [b21,decide_eq_false_iff_not] at f21
    omega
  rw [show Qe (Qc Tryd.f8)=(Qe (Qc Tryd.f8)).take 4++(.block (idOf (Qc Tryd.f8)) (.loop (Qca (Qc Tryd.f8)))::(Qe (Qc Tryd.f8)).drop 5) from rfl]
  refine Qf.seg (q2:=17) (ins2:=Qjf) (S2:=Qfz) (J2:=fun σ=>RowE E X σ/\ ∃i,M8 g.sig S i σ/\σ.ival 0=(i:Nat)) mixed Qbea ⟨rfl,rfl⟩ (fun σ τ (ag:Agree 7 σ τ) (h:Agree 7 g.sig σ)=>h.trans' ag) (fun τ (h:Agree 7 g.sig τ)=>Q5j (X:=X) (k:=1) (h.ext.symm.trans hvx) hE0 (by rw [<-(h.val 1 (by decide)).1];exact hvl)) (Qf.rowLoopF (J:=fun _ σ=> ∃i,M8 g.sig S i σ/\σ.ival 0=(i:Nat)) (q:=17) (insq:=Qjf) hX rfl (by decide) (fun _=>by kernel_rfl) (fun _ σ τ ag h=>let ⟨i,h1,h0⟩:=h;⟨i,h1.agree ag,by rw [<-(ag.val 0 (by decide)).1];exact h0⟩) hbody ()) (fun τ e ht hi ag=> ?_) (pin0 (by kernel_rfl))
  refine Q6 ?_
  have a:=fun i h=>(ag.val i h).1.symm
  have a2:=a 2 (by decide)
  have a4:=a 4 (by decide)
  have a1:=a 1 (by decide)
  have i7:τ.ival 7=IntKind.i64.wrap (τ.ival 2):=eqI (e.at 0 _ rfl rfl) rfl
  have i8:τ.ival 8=IntKind.i64.wrap (τ.ival 7*100):=eqI (e.at 1 _ rfl rfl) rfl
  have i9:τ.ival 9=IntKind.i64.wrap (τ.ival 4):=eqI (e.at 2 _ rfl rfl) rfl
  have i10:τ.ival 10=(τ.ival 9).tmod (7):=eqI (e.at 3 _ rfl rfl) rfl
  rw [Qh] at i7 i8 i9
  rw [Qro _ (by omega)] at i10
  exact .inl ⟨rfl,rfl,Qbi (X:=Q2k) e hi (by kernel_rfl) (by kernel_rfl),⟨⟨extS (ag.ext.symm.trans hvx),(a1.trans hvl),Int.le_refl 0,Int.natCast_nonneg _⟩,0,⟨a 0 (by decide),a 2 (by decide),a 3 (by decide),a 4 (by decide),a 5 (by decide),rfl,rfl,rfl,rfl,rfl,rfl,(by show τ.ival 8=_;omega),(by show τ.ival 10=_;omega),Nat.zero_le _⟩,rfl⟩,tabS ht⟩)
end Go.Proofs.YtelimhjceiamcaaDoor.lg
