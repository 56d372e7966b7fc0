/-
 The pieces of the document's Decode.
 No conditions.
-/
import Derived.Test.YtelimhjceiamcaaDoorTLgs
import Derived.Test.YtelimhjceiamcaaDoorTLg44
import Derived.Test.YtelimhjceiamcaaDoorTLg15
set_option maxRecDepth 100000
namespace Go.Proofs.YtelimhjceiamcaaDoor.lg
open Go.Ev Go.RowKit Go.Wbp Go.Lgp
open Go.Proofs.YtelimhjceiamcaaDoor.lgn (mixed sf48 Qbu)
set_option linter.unusedVariables false
set_option linter.unusedSimpArgs false
def Qnq:List AVal:=[.int .u32 0,.nilslice,.z 0,.o 0,.o 0,.z 0]
def Qbi6:List (Nat×AVal):=[(0,.syms 0),(2,.ptr 0 0),(3,.ptr 1 0),(4,.ptr 2 0),(5,.ptr 3 0),(8,.ptr 4 0)]
def inC (a:AVal):Blk:=.cells [.syms 0,a,.int .i64 0,.int .i64 0] 97
def Q5e:List Blk:=[.cells Qnq 39,.cells [.int .i64 0,.int .i64 0] 57,inC (.symi .i64 1),.cells [.symi .u32 2,.lsl 5 4 true (.int .i64 0) (.symi .i64 3),.int .i64 0,.int .u64 0,.int .u64 0,.int .i64 0] 39,.cells [.symi .u64 4,.symi .u64 5,.symi .i64 6,.symi .u8 7] 67,.lst (.syms 8) (.symi .i64 3) cl4 67]
def Q5x:Shape:=⟨argT 0 [.s 0],[]⟩
def Qia:Shape:=⟨Qbi6,Q5e⟩
def Qf8:List (Option IntKind):=[none,some .i64,some .u32,some .i64,some .u64,some .u64,some .i64,some .u8,none]
def Qbc:Shape:=⟨[(2,.ptr 0 0),(3,.ptr 1 0)],[.cells Qnq 39,.cells [.z 26,.i 2] 57]⟩
def Qq8:List AVal:=[.w 4,.lsl 2 4 true (.z 0) (.i 3),.i 5,.u 6,.u 7,.i 8]
def Q5h:Shape:=⟨[(2,.ptr 0 0),(3,.ptr 1 0)],[.cells Qq8 39,.cells [.z 0,.z 0] 57,.lst (.s 2) (.i 3) cl4 67]⟩
def sf25:SymF:=
 {f:=25,m:=1,ins:=[none],args:=[.s 0],pre:=[],pcs:=[.q .leq (.i 1) (.z 1000000),.fnb 576 [.s 0]],
  G:=[.sop .len [.s 0],.sop (.fs 578) [.s 0],.fn 579 .i64 [.s 0],.fn 580 .u32 [.s 0],.fn 581 .i64 [.s 0],.fn 582 .u64 [.s 0],.fn 583 .u64 [.s 0],.fn 584 .i64 [.s 0]],
  v:=.tuple [.agg Qq8,.agg [.z 0,.z 0]],post:=[.cells Qq8 39,.cells [.z 0,.z 0] 57,.lst (.s 2) (.i 3) cl4 67]}
def Qhq:SymF:=
 {f:=25,m:=1,ins:=[none],args:=[.s 0],pre:=[],pcs:=[.q .leq (.i 1) (.z 1000000),.fnb 585 [.s 0]],
  G:=[.sop .len [.s 0],.fn 577 .i64 [.s 0]],v:=.tuple [.agg Qnq,.agg [.z 26,.i 2]],post:=[.cells Qnq 39,.cells [.z 26,.i 2] 57]}
def Qnn:Shape:=⟨[(0,.s 0),(2,.ptr 0 0),(3,.ptr 1 0),(4,.ptr 2 0),(5,.ptr 3 0),(8,.ptr 4 0)],Q5e⟩
def Qm2:List SDef:=[.sop .len [.s 0],
 .q .geq (.z 0) (.i 1),
 .q .lss (.z 0) (.i 1),
 .sop .at [.s 0,.z 0],
 .q .neq (.c 4) (.int .u8 80),
 .q .geq (.z 1) (.i 1),
 .q .lss (.z 1) (.i 1),
 .sop .at [.s 0,.z 1],
 .q .neq (.c 8) (.int .u8 76),
 .q .geq (.z 2) (.i 1),
 .q .lss (.z 2) (.i 1),
 .sop .at [.s 0,.z 2],
 .q .neq (.c 12) (.int .u8 1),
 .q .lss (.i 1) (.z 7),
 .q .lss (.z 3) (.i 1),
 .sop .at [.s 0,.z 3],
 .conv .u32 (.c 16),
 .q .add (.int .u32 0) (.w 17),
 .q .mul (.w 18) (.int .u32 256),
 .q .lss (.z 4) (.i 1),
 .sop .at [.s 0,.z 4],
 .conv .u32 (.c 21),
 .q .add (.w 19) (.w 22),
 .q .mul (.w 23) (.int .u32 256),
 .q .lss (.z 5) (.i 1),
 .sop .at [.s 0,.z 5],
 .conv .u32 (.c 26),
 .q .add (.w 24) (.w 27),
 .q .mul (.w 28) (.int .u32 256),
 .q .lss (.z 6) (.i 1),
 .sop .at [.s 0,.z 6],
 .conv .u32 (.c 31),
 .q .add (.w 29) (.w 32)]
def Q3u:LT:=Go.Wbp.fT 1 Qm2 (.n (.n (.n (.n (.n (.n .e 7086 1 .e) 167574 4 .e) 193459 8 (.n .e 219344 12 .e)) 245229 16 (.n (.n .e 271114 21 .e) 296999 26 (.n .e 322884 31 .e))) 15523167 22 (.n (.n (.n .e 101360956 14 .e) 138322245 13 (.n .e 188342606 24 .e)) 343383798 3 (.n (.n .e 343383819 2 .e) 343384303 7 (.n .e 343384324 6 .e)))) 343384808 11 (.n (.n (.n (.n (.n .e 343384829 10 .e) 343385313 15 .e) 343385818 20 (.n .e 343386323 25 .e)) 343386828 30 (.n (.n .e 408014413 5 .e) 468331820 18 (.n .e 530524712 27 .e))) 574263449 17 (.n (.n (.n .e 693344121 29 .e) 757082918 19 (.n .e 811815485 9 .e)) 882880188 23 (.n (.n .e 957165939 28 .e) 1031451690 33 (.n .e 1045526257 32 .e)))))
def Q3v:Sw:=.run (.node 2 (.leaf .ret Qbc [(0,0),(1,0)] [(2,.z 0)] []) (.node 3 (.node 5 (.leaf .ret Qbc [(0,0),(1,0)] [(2,.z 0)] []) (.node 6 (.leaf .ret Qbc [(0,0),(1,0)] [(2,.z 1)] []) (.node 7 (.node 9 (.leaf .ret Qbc [(0,0),(1,0)] [(2,.z 1)] []) (.node 10 (.leaf .ret Qbc [(0,0),(1,0)] [(2,.z 2)] []) (.node 11 (.node 13 (.leaf .ret Qbc [(0,0),(1,0)] [(2,.z 2)] []) (.node 14 (.leaf .ret Qbc [(0,0),(1,0)] [(2,.z 3)] []) (.node 15 (.node 20 (.node 25 (.node 30 (.leaf .normal Qia [(0,0),(1,0),(2,0),(3,0),(4,0),(1000005,0)] [(0,.s 0),(0,.s 0),(1,.z 7),(2,.w 33),(3,.z 0),(4,.o 0),(5,.o 0),(6,.z (-1)),(7,.int .u8 0),(8,.str ⟨#[]⟩),(3,.z 0)] []) (.dead)) (.dead)) (.dead)) (.dead)))) (.dead)))) (.dead)))) (.dead)))
def Qbgt:KdT:=kdN 0x4430444304443044430003000300030000 6 1 0
noncomputable def Qh7:Ing:={m:=1,ins:=[none],G:=Qm2,T:=Q3u,tab:=Qa,lsts:=Qs,kb:=34,kt:=Qbgt}
theorem Qbgv:okLT 1 Qm2 Q3u=true:=by kernel_rfl
theorem Qbgu (F:List Fact):Hooks Tryd.prog (cxOf Qh7 F) where
 val:=fun f args v h=>by simp only [Qh7,cxOf,Qgf,reduceCtorEq] at h
 mem:=fun f args hp v hp' h=>by simp only [Qh7,cxOf,noMh,reduceCtorEq] at h
 ovl:=fun f k h=>by simp only [Qh7,cxOf,reduceCtorEq] at h
 atm:=fun k b h=>by simp only [Qh7,cxOf,List.not_mem_nil] at h
theorem Qbgw:SegOk Tryd.prog Qa 233 ((Qe (Qc Tryd.f25)).take 11) Q5x Qh7 Q3v:=
  ⟨Qbgv,by kernel_rfl,Qbgu,rfl,by kernel_rfl,by kernel_rfl,rfl,rfl,fun _=>trivial,by kernel_rfl⟩
def Qm3:List SDef:=[.sop .len [.s 0],
 .q .leq (.z 0) (.i 1),
 .q .leq (.i 1) (.i 9),
 .q .leq (.i 9) (.z 1000000),
 .q .geq (.i 1) (.i 9),
 .q .add (.i 1) (.z 1),
 .q .sub (.i 14) (.z 1),
 .q .leq (.z 0) (.i 15),
 .q .lss (.i 15) (.i 9),
 .sop .at [.s 0,.i 15],
 .conv .i64 (.c 18),
 .q .gtr (.i 19) (.z 2),
 .q .eql (.i 19) (.z 255),
 .q .leq (.z 0) (.i 14),
 .q .leq (.i 14) (.i 9),
 .fn 128 .u64 [.s 0,.i 14],
 .fn 129 .i64 [.s 0,.i 14],
 .fn 130 .i64 [.s 0,.i 14],
 .q .eql (.i 26) (.z 0),
 .q .add (.i 14) (.i 25),
 .low [.u 24,.o 2199023255552],
 .q .add (.u 4) (.u 29),
 .q .gtr (.u 30) (.o 1099511627776),
 .q .eql (.u 24) (.o 0),
 .q .leq (.i 19) (.i 6),
 .q .leq (.z 0) (.i 28),
 .q .leq (.i 28) (.i 9),
 .fn 128 .u64 [.s 0,.i 28],
 .fn 129 .i64 [.s 0,.i 28],
 .fn 130 .i64 [.s 0,.i 28],
 .q .eql (.i 38) (.z 0),
 .q .add (.i 28) (.i 37),
 .low [.u 36,.o 2199023255552],
 .q .add (.u 5) (.u 41),
 .q .gtr (.u 42) (.u 30),
 .q .gtr (.u 36) (.o 0),
 .q .geq (.i 40) (.i 9),
 .q .add (.i 40) (.z 1),
 .q .sub (.i 46) (.z 1),
 .q .leq (.z 0) (.i 47),
 .q .lss (.i 47) (.i 9),
 .sop .at [.s 0,.i 47],
 .q .leq (.z 0) (.i 46),
 .q .leq (.i 46) (.i 9),
 .sop .sub [.s 0,.z 0,.i 46],
 .sop .len [.s 53],
 .q .leq (.i 54) (.z 1000000),
 .fn 384 .u8 [.s 53],
 .q .geq (.i 46) (.i 9),
 .q .add (.i 46) (.z 1),
 .q .sub (.i 58) (.z 1),
 .q .leq (.z 0) (.i 59),
 .q .lss (.i 59) (.i 9),
 .sop .at [.s 0,.i 59],
 .q .eql (.c 62) (.c 56),
 .q .neq (.i 19) (.z 255),
 .q .neq (.i 26) (.z 0),
 .ite (.symb 65) (.i 14) (.z 0),
 .q .neq (.i 38) (.z 0),
 .ite (.symb 67) (.i 28) (.z 0),
 .q .leq (.i 19) (.z 2),
 .q .eql (.int .u8 0) (.c 56),
 .sop (.row [.some .u64,.some .u64,.some .i64,.some .u8]) [.u 30,.u 42,.i 19,.c 50],
 .sop .cat [.s 8,.s 71],
 .q .add (.i 3) (.z 1),
 .q .leq (.z 0) (.i 73),
 .q .leq (.i 73) (.z 4398046511104)]
def Q3w:LT:=Go.Wbp.fT 9 Qm3 (.n (.n (.n (.n (.n (.n (.n .e 7086 9 .e) 31520988 48 .e) 101060655 14 (.n .e 209249565 23 .e)) 220033780 52 (.n (.n .e 220033794 57 .e) 261399957 54 (.n .e 276534012 32 .e))) 303061261 73 (.n (.n (.n .e 310249861 17 .e) 315751492 75 (.n .e 318732304 29 .e)) 321034076 49 (.n (.n .e 334197580 28 .e) 340322774 15 (.n .e 343383805 10 .e)))) 345999349 18 (.n (.n (.n (.n (.n .e 351106982 58 .e) 351106989 47 .e) 368779400 74 (.n .e 383887775 66 .e)) 414795849 44 (.n (.n .e 454550227 53 .e) 459295885 61 (.n .e 478147273 12 .e))) 478534618 27 (.n (.n (.n .e 478534625 65 .e) 489368798 59 (.n .e 499735623 40 .e)) 500827990 56 (.n (.n .e 501415389 62 .e) 512013011 22 (.n .e 528994329 41 .e))))) 549511980 35 (.n (.n (.n (.n (.n (.n .e 584006751 43 .e) 600419553 68 .e) 616796427 39 (.n .e 616796434 67 .e)) 623422096 72 (.n (.n .e 623884793 42 .e) 654254983 50 (.n .e 687773803 45 .e))) 697608862 30 (.n (.n (.n .e 728193600 55 .e) 728828338 31 (.n .e 757932173 33 .e)) 761909237 51 (.n (.n .e 780264067 19 .e) 793787541 63 (.n .e 818846991 46 .e)))) 845374415 69 (.n (.n (.n (.n (.n .e 845374422 20 .e) 855366589 16 .e) 858033249 21 (.n .e 858033256 64 .e)) 930538443 60 (.n (.n .e 938580722 71 .e) 965594355 36 (.n .e 965594398 37 .e))) 965594441 38 (.n (.n (.n .e 974219515 70 .e) 1019740624 24 (.n .e 1019740667 25 .e)) 1019740710 26 (.n (.n .e 1023995795 34 .e) 1043729280 11 (.n .e 1043729294 13 .e))))))
def Qva:Sw:=.n 45 (.run (.leaf .ret Qbc [(0,0),(1,0)] [(2,.i 40)] [])) (.x 48 (.x 49 (.x 51 (.x 52 (.x 55 (.n 57 (.run (.leaf .ret Qbc [(0,0),(1,0)] [(2,.i 46)] [])) (.x 60 (.x 61 (.n 63 (.x 74 (.x 75 (.run (.leaf .normal Qia [(0,0),(1,0),(2,0),(3,0),(4,0),(11,0)] [(0,.s 0),(0,.s 0),(1,.i 58),(2,.w 2),(3,.i 73),(4,.u 30),(5,.u 42),(6,.i 19),(7,.c 50),(8,.s 72),(3,.i 73)] [])))) (.run (.leaf .ret Qbc [(0,0),(1,0)] [(2,.i 46)] [])))))))))))
def Qu9:Sw:=.x 10 (.x 11 (.x 12 (.n 13 (.run (.leaf .ret Qbc [(0,0),(1,0)] [(2,.i 1)] [])) (.x 16 (.x 17 (.n 20 (.n 21 (.y 64 (.run (.leaf (.exit 4) Qnn [(0,0),(1,0),(2,0),(3,0),(4,0),(5,0)] [(0,.s 0),(0,.s 0),(1,.i 14),(2,.w 2),(3,.i 3),(4,.u 4),(5,.u 5),(6,.i 6),(7,.c 7),(8,.s 8),(3,.i 3)] []))) (.x 64 (.run (.leaf .ret Qbc [(0,0),(1,0)] [(2,.i 1)] [])))) (.y 21 (.x 22 (.x 23 (.n 27 (.n 31 (.run (.leaf .ret Qbc [(0,0),(1,0)] [(2,.i 14)] [])) (.n 32 (.n 33 (.run (.leaf .ret Qbc [(0,0),(1,0)] [(2,.i 14)] [])) (.x 34 (.x 35 (.n 39 (.n 43 (.run (.leaf .ret Qbc [(0,0),(1,0)] [(2,.i 28)] [])) (.n 44 (.x 69 (.run (.leaf .ret Qbc [(0,0),(1,0)] [(2,.i 28)] []))) (Qva))) (.x 67 (.run (.leaf .ret Qbc [(0,0),(1,0)] [(2,.i 28)] []))))))) (.x 34 (.x 35 (.n 39 (.n 43 (.run (.leaf .ret Qbc [(0,0),(1,0)] [(2,.i 28)] [])) (Qva)) (.x 67 (.run (.leaf .ret Qbc [(0,0),(1,0)] [(2,.i 28)] [])))))))) (.x 65 (.run (.leaf .ret Qbc [(0,0),(1,0)] [(2,.i 14)] [])))))))))))))
def Qbgx:KdT:=kdN 0x10000101000300110300000300110002210112000002210112000013001100000031221410 7 1 0
noncomputable def Q3x:Ing:={m:=9,ins:=Qf8,G:=Qm3,T:=Q3w,tab:=Qa,lsts:=Qs,kb:=76,kt:=Qbgx}
noncomputable def Qqx:Ing:={Q3x with mh:=Qbr (kdX Q3x) [lgn.sf44g,lgn.sf44,sf11]}
theorem Q3y:okLT 9 Qm3 Q3w=true:=by kernel_rfl
theorem Qbgy (F:List Fact):Hooks Tryd.prog (cxOf Qqx F):=
  Qcy (l:=[lgn.sf44g,lgn.sf44,sf11]) rfl rfl rfl rfl rfl Q3y rfl rfl rfl ⟨lgn.wn44g_contract,lgn.wn44_contract,c11,trivial⟩ F
theorem Qbgz:SegOk Tryd.prog Qa 233 (Qe (Qid 11 (Qc Tryd.f25))) Qia Qqx Qu9:=
  ⟨Q3y,by kernel_rfl,Qbgy,rfl,by kernel_rfl,by kernel_rfl,rfl,rfl,fun _=>trivial,by kernel_rfl⟩
def Qm4:List SDef:=[.sop .len [.s 0],
 .q .leq (.z 0) (.i 1),
 .q .leq (.i 1) (.i 9),
 .q .leq (.i 9) (.z 1000000),
 .fn 128 .u64 [.s 0,.i 1],
 .fn 129 .i64 [.s 0,.i 1],
 .fn 130 .i64 [.s 0,.i 1],
 .q .eql (.i 15) (.z 0),
 .q .add (.i 1) (.i 14),
 .q .gtr (.u 13) (.o 1073741824),
 .q .leq (.z 0) (.i 17),
 .q .leq (.i 17) (.i 9),
 .fn 128 .u64 [.s 0,.i 17],
 .fn 129 .i64 [.s 0,.i 17],
 .fn 130 .i64 [.s 0,.i 17],
 .q .eql (.i 23) (.z 0),
 .q .add (.i 17) (.i 22),
 .low [.u 21,.o 2199023255552],
 .q .add (.u 4) (.u 26),
 .q .gtr (.u 27) (.o 1099511627776),
 .q .eql (.u 21) (.o 0),
 .q .leq (.z 255) (.i 6),
 .q .leq (.z 0) (.i 25),
 .q .leq (.i 25) (.i 9),
 .fn 128 .u64 [.s 0,.i 25],
 .fn 129 .i64 [.s 0,.i 25],
 .fn 130 .i64 [.s 0,.i 25],
 .q .eql (.i 35) (.z 0),
 .q .add (.i 25) (.i 34),
 .low [.u 33,.o 2199023255552],
 .q .add (.u 5) (.u 38),
 .q .gtr (.u 39) (.u 27),
 .q .geq (.i 37) (.i 9),
 .q .add (.i 37) (.z 1),
 .q .sub (.i 42) (.z 1),
 .q .leq (.z 0) (.i 43),
 .q .lss (.i 43) (.i 9),
 .sop .at [.s 0,.i 43],
 .conv .i64 (.c 46),
 .q .gtr (.i 47) (.z 6),
 .q .leq (.z 0) (.i 42),
 .q .leq (.i 42) (.i 9),
 .sop .sub [.s 0,.z 0,.i 42],
 .sop .len [.s 51],
 .q .leq (.i 52) (.z 1000000),
 .fn 384 .u8 [.s 51],
 .q .geq (.i 42) (.i 9),
 .q .add (.i 42) (.z 1),
 .q .sub (.i 56) (.z 1),
 .q .leq (.z 0) (.i 57),
 .q .lss (.i 57) (.i 9),
 .sop .at [.s 0,.i 57],
 .q .eql (.c 60) (.c 54),
 .q .lss (.i 56) (.i 9),
 .q .neq (.i 15) (.z 0),
 .ite (.symb 63) (.i 1) (.z 0),
 .conv .i64 (.u 13),
 .q .neq (.i 23) (.z 0),
 .ite (.symb 66) (.i 17) (.z 0),
 .q .neq (.i 35) (.z 0),
 .ite (.symb 68) (.i 25) (.z 0),
 .q .gtr (.u 33) (.o 0),
 .q .eql (.int .u8 0) (.c 54)]
def Q3z:LT:=Go.Wbp.fT 9 Qm4 (.n (.n (.n (.n (.n (.n .e 7086 9 .e) 111794940 70 (.n .e 156294976 62 .e)) 175533709 24 (.n (.n .e 175533716 66 .e) 207993366 38 (.n .e 238818296 54 .e))) 239122429 18 (.n (.n (.n .e 240415807 37 .e) 243831287 58 (.n .e 246511071 32 .e)) 257295279 59 (.n (.n .e 265262522 65 .e) 287368192 57 (.n .e 287512359 71 .e)))) 292422799 69 (.n (.n (.n (.n .e 313795518 36 .e) 313795525 68 (.n .e 316356444 64 .e)) 317875249 21 (.n (.n .e 317875292 22 .e) 317875335 23 (.n .e 324686935 40 .e))) 343383805 10 (.n (.n (.n .e 347287572 46 .e) 384772894 41 (.n .e 425827429 28 .e)) 441273112 16 (.n (.n .e 441273119 63 .e) 443047238 47 (.n .e 452357565 48 .e))))) 462236752 49 (.n (.n (.n (.n (.n .e 468331918 19 .e) 478147273 12 (.n .e 512250474 20 .e)) 515846082 42 (.n (.n .e 526192994 53 .e) 593717903 33 (.n .e 593717946 34 .e))) 593717989 35 (.n (.n (.n .e 602236929 51 .e) 613013418 17 (.n .e 667565886 39 .e)) 680879582 25 (.n (.n .e 741289955 27 .e) 805590330 44 (.n .e 839931768 13 .e)))) 839931811 14 (.n (.n (.n (.n .e 839931854 15 .e) 884802597 60 (.n .e 889774395 50 .e)) 889774409 55 (.n (.n .e 969893703 67 .e) 978821606 61 (.n .e 986538643 30 .e))) 990774691 45 (.n (.n (.n .e 1001129426 52 .e) 1020847597 56 (.n .e 1020847604 43 .e)) 1043729280 11 (.n (.n .e 1047274930 29 .e) 1067676888 31 (.n .e 1071473168 26 .e))))))
def Qvc:Sw:=.x 31 (.x 32 (.n 36 (.n 40 (.run (.leaf .ret Qbc [(0,0),(1,0)] [(2,.i 25)] [])) (.n 41 (.run (.leaf .ret Qbc [(0,0),(1,0)] [(2,.i 37)] [])) (.x 44 (.x 45 (.n 48 (.run (.leaf .ret Qbc [(0,0),(1,0)] [(2,.i 37)] [])) (.x 49 (.x 50 (.x 53 (.n 55 (.run (.leaf .ret Qbc [(0,0),(1,0)] [(2,.i 42)] [])) (.x 58 (.x 59 (.n 61 (.n 62 (.run (.leaf .ret Qbc [(0,0),(1,0)] [(2,.i 56)] [])) (.run (.leaf .ret Q5h [(0,0),(1,0),(5,0)] [(4,.w 2),(3,.i 3),(5,.i 65),(6,.u 27),(7,.u 39),(8,.i 47),(2,.s 8),(3,.i 3)] []))) (.run (.leaf .ret Qbc [(0,0),(1,0)] [(2,.i 42)] [])))))))))))))) (.x 68 (.run (.leaf .ret Qbc [(0,0),(1,0)] [(2,.i 25)] [])))))
def Qvb:Sw:=.x 10 (.x 11 (.x 12 (.n 16 (.n 18 (.run (.leaf .ret Qbc [(0,0),(1,0)] [(2,.i 1)] [])) (.x 19 (.x 20 (.n 24 (.n 28 (.run (.leaf .ret Qbc [(0,0),(1,0)] [(2,.i 17)] [])) (.n 29 (.y 30 (Qvc)) (Qvc))) (.x 66 (.run (.leaf .ret Qbc [(0,0),(1,0)] [(2,.i 17)] []))))))) (.x 63 (.run (.leaf .ret Qbc [(0,0),(1,0)] [(2,.i 1)] []))))))
def Qbg0:KdT:=kdN 0x1010110003001103000000130011002210112000002210112000101120000031221410 7 1 0
noncomputable def Q31:Ing:={m:=9,ins:=Qf8,G:=Qm4,T:=Q3z,tab:=Qa,lsts:=Qs,kb:=72,kt:=Qbg0}
noncomputable def Q30:Ing:={Q31 with mh:=Qbr (kdX Q31) [lgn.sf44g,lgn.sf44,sf11]}
theorem Q32:okLT 9 Qm4 Q3z=true:=by kernel_rfl
theorem Qbg1 (F:List Fact):Hooks Tryd.prog (cxOf Q30 F):=
  Qcy (l:=[lgn.sf44g,lgn.sf44,sf11]) rfl rfl rfl rfl rfl Q32 rfl rfl rfl ⟨lgn.wn44g_contract,lgn.wn44_contract,c11,trivial⟩ F
theorem Qbg2:SegOk Tryd.prog Qa 233 ((Qe (Qc Tryd.f25)).drop 12) Qnn Q30 Qvb:=
  ⟨Q32,by kernel_rfl,Qbg1,rfl,by kernel_rfl,by kernel_rfl,rfl,rfl,fun _=>trivial,by kernel_rfl⟩
end Go.Proofs.YtelimhjceiamcaaDoor.lg
