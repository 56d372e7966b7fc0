/-
 The pieces of log's reader.
 No conditions.
-/
import Derived.Test.YtelimhjceiamcaaDoorBLg15
import Derived.Test.YtelimhjceiamcaaDoorBLgs
set_option maxRecDepth 100000
namespace Go.Proofs.YtelimhjceiamcaaDoor.lg
open Go.Ev Go.RowKit Go.Wbp Go.Lgp
open Go.Proofs.YtelimhjceiamcaaDoor.lgn (mixed sf48 Qda)
set_option linter.unusedVariables false
set_option linter.unusedSimpArgs false
def rdB:Blk:=.cells [.ptr 1 0,.syms 0] 83
def inB (a:AVal):Blk:=.cells [.syms 0,a,.niliface] 107
def Q20:Shape:=⟨argT 0 [.ptr 0 0],[rdB,inB (.int .i64 0)]⟩
def Qbem:List Blk:=[rdB,inB (.symi .i64 1),.cells [.symi .u32 2,.lsl 4 4 true (.int .i64 0) (.symi .i64 3),.int .i64 0,.int .u64 0,.int .u64 0,.int .i64 0] 26,.cells [.symi .u64 4,.symi .u64 5,.symi .i64 6,.symi .u8 7] 61,.lst (.syms 8) (.symi .i64 3) cl4 61]
def Qbey:List (Nat×AVal):=[(0,.ptr 0 0),(2,.ptr 2 0),(3,.ptr 3 0)]
def Qd3:Shape:=⟨Qbey++[(4,.symi .i64 9)],Qbem⟩
def Qef:List (Option IntKind):=[none,some .i64,some .u32,some .i64,some .u64,some .u64,some .i64,some .u8,none,some .i64]
def Q3:Shape:=⟨[(0,.ptr 0 0)],[rdB,.gone]⟩
def corA (i:Nat):AVal:=.iface 77 (.agg [.symi .i64 i])
def Qpx:List AVal:=[.symi .u32 4,.lsl 2 4 true (.int .i64 0) (.symi .i64 3),.symi .i64 5,.symi .u64 6,.symi .u64 7,.symi .i64 8]
def Q2q:Shape:=⟨[(0,.ptr 0 0),(2,.ptr 3 0)],[rdB,.gone,.lst (.syms 2) (.symi .i64 3) cl4 61,.cells Qpx 26]⟩
def sf32:SymF:=
 {f:=32,m:=1,ins:=[none],args:=[.ptr 0 0],pre:=[rdB,inB (.int .i64 0)],pcs:=[.bin .leq (.symi .i64 1) (.int .i64 1000000),.fnb 576 [.syms 0]],
  G:=[.sop .len [.syms 0],.sop (.fs 578) [.syms 0],.fn 579 .i64 [.syms 0],.fn 580 .u32 [.syms 0],.fn 581 .i64 [.syms 0],.fn 582 .u64 [.syms 0],.fn 583 .u64 [.syms 0],.fn 584 .i64 [.syms 0]],
  v:=.agg Qpx,post:=[rdB,.gone,.lst (.syms 2) (.symi .i64 3) cl4 61,.cells Qpx 26]}
def Qei:SymF:=
 {f:=32,m:=1,ins:=[none],args:=[.ptr 0 0],pre:=[rdB,inB (.int .i64 0)],pcs:=[.bin .leq (.symi .i64 1) (.int .i64 1000000),.fnb 585 [.syms 0]],
  G:=[.sop .len [.syms 0],.fn 577 .i64 [.syms 0]],v:=corA 2,post:=[rdB,.gone],pan:=true}
def Qly:List SDef:=[.sop .len [.syms 0],
 .bin .leq (.symi .i64 1) (.int .i64 1000000),
 .bin .sub (.symi .i64 1) (.int .i64 0),
 .bin .eql (.symi .i64 3) (.int .i64 0),
 .bin .lss (.int .i64 0) (.symi .i64 1),
 .sop .at [.syms 0,.int .i64 0],
 .bin .eql (.symi .u8 6) (.int .u8 80),
 .un .not (.symb 7),
 .bin .sub (.symi .i64 1) (.int .i64 1),
 .bin .eql (.symi .i64 9) (.int .i64 0),
 .bin .lss (.int .i64 1) (.symi .i64 1),
 .sop .at [.syms 0,.int .i64 1],
 .bin .eql (.symi .u8 12) (.int .u8 76),
 .un .not (.symb 13),
 .bin .sub (.symi .i64 1) (.int .i64 2),
 .bin .eql (.symi .i64 15) (.int .i64 0),
 .bin .lss (.int .i64 2) (.symi .i64 1),
 .sop .at [.syms 0,.int .i64 2],
 .bin .eql (.symi .u8 18) (.int .u8 1),
 .un .not (.symb 19),
 .bin .sub (.symi .i64 1) (.int .i64 3),
 .bin .lss (.symi .i64 21) (.int .i64 4),
 .bin .eql (.symi .i64 21) (.int .i64 0),
 .bin .lss (.int .i64 3) (.symi .i64 1),
 .sop .at [.syms 0,.int .i64 3],
 .conv .u32 (.symi .u8 25),
 .bin .or (.int .u32 0) (.symi .u32 26),
 .bin .shl (.symi .u32 27) (.int .u64 8),
 .bin .sub (.symi .i64 1) (.int .i64 4),
 .bin .eql (.symi .i64 29) (.int .i64 0),
 .bin .lss (.int .i64 4) (.symi .i64 1),
 .sop .at [.syms 0,.int .i64 4],
 .bin .or (.symi .u32 28) (.int .u32 0),
 .conv .u32 (.symi .u8 32),
 .bin .or (.symi .u32 28) (.symi .u32 34),
 .bin .shl (.symi .u32 33) (.int .u64 8),
 .bin .or (.symi .u32 36) (.int .u32 0),
 .bin .shl (.symi .u32 37) (.int .u64 8),
 .bin .or (.symi .u32 38) (.int .u32 0),
 .bin .shl (.symi .u32 35) (.int .u64 8),
 .bin .sub (.symi .i64 1) (.int .i64 5),
 .bin .eql (.symi .i64 41) (.int .i64 0),
 .bin .lss (.int .i64 5) (.symi .i64 1),
 .sop .at [.syms 0,.int .i64 5],
 .bin .or (.symi .u32 40) (.int .u32 0),
 .conv .u32 (.symi .u8 44),
 .bin .or (.symi .u32 40) (.symi .u32 46),
 .bin .shl (.symi .u32 45) (.int .u64 8),
 .bin .or (.symi .u32 48) (.int .u32 0),
 .bin .shl (.symi .u32 47) (.int .u64 8),
 .bin .sub (.symi .i64 1) (.int .i64 6),
 .bin .eql (.symi .i64 51) (.int .i64 0),
 .bin .lss (.int .i64 6) (.symi .i64 1),
 .sop .at [.syms 0,.int .i64 6],
 .bin .or (.symi .u32 50) (.int .u32 0),
 .conv .u32 (.symi .u8 54),
 .bin .or (.symi .u32 50) (.symi .u32 56),
 .bin .sub (.symi .i64 1) (.int .i64 7),
 .bin .eql (.symi .i64 58) (.int .i64 0),
 .bin .lss (.int .i64 7) (.symi .i64 1),
 .sop .at [.syms 0,.int .i64 7],
 .conv .i64 (.symi .u8 61),
 .bin .leq (.symi .i64 62) (.int .i64 2),
 .bin .eql (.symi .u8 61) (.int .u8 255),
 .ite (.symb 63) (.bool true) (.symb 64),
 .un .not (.symb 65)]
def Que:LT:=Go.Wbp.fT 1 Qly (.n (.n (.n (.n (.n (.n (.n .e 7086 1 .e) 167574 6 .e) 193459 12 (.n .e 219344 18 .e)) 245229 25 (.n (.n .e 271114 32 .e) 296999 44 (.n .e 322884 54 .e))) 348769 61 (.n (.n (.n .e 74784739 34 .e) 101010627 3 (.n .e 101060662 9 .e)) 101110697 15 (.n (.n .e 101160732 21 .e) 101210767 29 (.n .e 101260802 41 .e)))) 101310837 51 (.n (.n (.n (.n (.n .e 101360872 58 .e) 112195171 36 .e) 122766409 66 (.n .e 142074863 13 .e)) 168000862 65 (.n (.n .e 193307883 56 .e) 237046620 46 (.n .e 239302228 14 .e))) 250456980 48 (.n (.n (.n .e 303011303 4 .e) 314195777 40 (.n .e 337288583 27 .e)) 343383798 5 (.n (.n .e 343384303 11 .e) 343384808 17 (.n .e 343385313 24 .e))))) 343385818 31 (.n (.n (.n (.n (.n (.n .e 343386323 43 .e) 343386828 53 .e) 343387333 60 (.n .e 414795786 37 .e)) 427524403 26 (.n (.n .e 441273112 16 .e) 452457586 50 (.n .e 489318833 59 .e))) 506954195 47 (.n (.n (.n .e 516196383 38 .e) 543416758 35 (.n .e 553057595 49 .e)) 579935180 28 (.n (.n .e 610015012 7 .e) 616796392 39 (.n .e 655525697 57 .e)))) 680535189 33 (.n (.n (.n (.n .e 707024057 8 .e) 743886676 2 (.n .e 744324056 19 .e)) 755058201 55 (.n (.n .e 781535527 30 .e) 805078667 64 (.n .e 818796998 45 .e))) 845322226 20 (.n (.n (.n .e 856058539 52 .e) 893420136 63 (.n .e 909013121 10 .e)) 914310046 62 (.n (.n .e 919797336 42 .e) 1047274930 23 (.n .e 1047475084 22 .e))))))
def Q1v:Sw:=.node 2 (.run (.node 4 (.leaf (.pan (.iface 77 (.agg [.symi .i64 2]))) Q3 [(0,0),(1,0)] [(0,.syms 0)] [(2,.int .i64 0)]) (.node 5 (.node 8 (.leaf (.pan (.iface 77 (.agg [.symi .i64 2]))) Q3 [(0,0),(1,0)] [(0,.syms 0)] [(2,.int .i64 0)]) (.node 10 (.leaf (.pan (.iface 77 (.agg [.symi .i64 2]))) Q3 [(0,0),(1,0)] [(0,.syms 0)] [(2,.int .i64 1)]) (.node 11 (.node 14 (.leaf (.pan (.iface 77 (.agg [.symi .i64 2]))) Q3 [(0,0),(1,0)] [(0,.syms 0)] [(2,.int .i64 1)]) (.node 16 (.leaf (.pan (.iface 77 (.agg [.symi .i64 2]))) Q3 [(0,0),(1,0)] [(0,.syms 0)] [(2,.int .i64 2)]) (.node 17 (.node 20 (.leaf (.pan (.iface 77 (.agg [.symi .i64 2]))) Q3 [(0,0),(1,0)] [(0,.syms 0)] [(2,.int .i64 2)]) (.node 22 (.leaf (.pan (.iface 77 (.agg [.symi .i64 2]))) Q3 [(0,0),(1,0)] [(0,.syms 0)] [(2,.int .i64 3)]) (.node 23 (.dead) (.node 24 (.node 30 (.dead) (.node 31 (.node 42 (.dead) (.node 43 (.node 52 (.dead) (.node 53 (.node 59 (.leaf (.pan (.iface 77 (.agg [.symi .i64 2]))) Q3 [(0,0),(1,0)] [(0,.syms 0)] [(2,.int .i64 7)]) (.node 60 (.node 66 (.leaf (.pan (.iface 77 (.agg [.symi .i64 2]))) Q3 [(0,0),(1,0)] [(0,.syms 0)] [(2,.int .i64 7)]) (.leaf .normal Qd3 [(0,0),(1,0),(2,0),(7,0),(1000004,0)] [(9,.symi .i64 62),(0,.syms 0),(0,.syms 0),(1,.int .i64 8),(2,.symi .u32 57),(3,.int .i64 0),(4,.int .u64 0),(5,.int .u64 0),(6,.int .i64 (-1)),(7,.int .u8 0),(8,.str ⟨#[]⟩),(3,.int .i64 0)] [])) (.dead))) (.dead))) (.dead))) (.dead))) (.dead))))) (.dead)))) (.dead)))) (.dead)))) (.dead)
def Q1u:KdT:=.n (.n (.n (.n (.n (.n (.n .e none .e) none .e) (some .i64) (.n .e (some .u32) .e)) none (.n (.n .e (some .u32) .e) none (.n .e (some .u32) .e))) (some .i64) (.n (.n (.n .e (some .u32) .e) none (.n .e (some .i64) .e)) none (.n (.n .e none .e) (some .u32) (.n .e none .e)))) none (.n (.n (.n (.n (.n .e none .e) (some .u32) .e) none (.n .e (some .u32) .e)) (some .i64) (.n (.n .e (some .i64) .e) (some .u8) (.n .e (some .u32) .e))) none (.n (.n (.n .e (some .u32) .e) (some .i64) (.n .e none .e)) none (.n (.n .e (some .u32) .e) (some .i64) (.n .e (some .u8) .e))))) none (.n (.n (.n (.n (.n (.n .e none .e) (some .u8) .e) none (.n .e (some .u32) .e)) none (.n (.n .e (some .u32) .e) none (.n .e (some .u32) .e))) none (.n (.n (.n .e (some .u32) .e) none (.n .e none .e)) (some .u8) (.n (.n .e (some .u8) .e) (some .u32) (.n .e none .e)))) none (.n (.n (.n (.n (.n .e none .e) (some .u32) .e) (some .u8) (.n .e (some .u32) .e)) none (.n (.n .e none .e) (some .u32) (.n .e (some .i64) .e))) (some .u8) (.n (.n (.n .e (some .u32) .e) none (.n .e (some .u8) .e)) none (.n (.n .e (some .u32) .e) none (.n .e (some .i64) .e)))))
noncomputable def Q1w:Ing:={m:=1,ins:=[none],G:=Qly,T:=Que,tab:=Qa,lsts:=Qt,kb:=67,kt:=Q1u}
noncomputable def Qg0:Ing:={m:=1,ins:=[none],G:=Qly,T:=Que,tab:=Qa,lsts:=Qt,kb:=67,kt:=Q1u,mh:=Qbo (kdX Q1w) [sf48,sf20]}
theorem Q1x:okLT 1 Qly Que=true:=by kernel_rfl
theorem Qbcx:okG Qly 1=true:=by kernel_rfl
theorem Qbcw (F:List Fact):Hooks Tryd.prog (cxOf Qg0 F) where
 val:=fun f args v h=>by simp only [Qg0,cxOf,Qc8,reduceCtorEq] at h
 mem:=fun f args hp v hp' h=>by
  replace h:(Qbo (kdX Q1w) [sf48,sf20]) (symS (Qq Qg0 F)) f args hp=some (v,hp'):=h
  exact Qf4 (X:=Qg0) (tbl:=[sf48,sf20]) (inv:=fun _=>True) (fun e he=>by
   simp only [List.mem_cons,List.not_mem_nil,or_false] at he
   rcases he with rfl|rfl
   ·exact lgn.wn48_contract
   ·exact c20
   ) Q1x rfl (fun _ _ _ _=>trivial) F f args hp v hp' h
 ovl:=fun f k h=>by simp only [Qg0,cxOf,reduceCtorEq] at h
 atm:=fun k b h=>by simp only [Qg0,cxOf,List.not_mem_nil] at h
theorem Qbcy:SegOk Tryd.prog Qa 84 ((Qe (Qc Tryd.f32)).take 4) Q20 Qg0 Q1v where
 lt:=Q1x
 ok:=Qbcx
 hook:=Qbcw
 n0:=rfl
 id:=by kernel_rfl
 reck:=by kernel_rfl
 tab:=rfl
 cuts:=rfl
 kt:=by kernel_rfl
def Qlz:List SDef:=[.sop .len [.syms 0],
 .bin .leq (.int .i64 0) (.symi .i64 1),
 .bin .leq (.symi .i64 1) (.symi .i64 10),
 .bin .leq (.symi .i64 10) (.int .i64 1000000),
 .bin .neq (.symi .i64 9) (.int .i64 255),
 .fn 128 .u64 [.syms 0,.symi .i64 1],
 .fn 129 .i64 [.syms 0,.symi .i64 1],
 .fn 130 .i64 [.syms 0,.symi .i64 1],
 .bin .eql (.symi .i64 17) (.int .i64 0),
 .bin .add (.symi .i64 1) (.symi .i64 16),
 .bin .leq (.int .i64 0) (.symi .i64 19),
 .bin .leq (.symi .i64 19) (.symi .i64 10),
 .fn 128 .u64 [.syms 0,.symi .i64 19],
 .fn 129 .i64 [.syms 0,.symi .i64 19],
 .fn 130 .i64 [.syms 0,.symi .i64 19],
 .bin .eql (.symi .i64 24) (.int .i64 0),
 .bin .add (.symi .i64 19) (.symi .i64 23),
 .bin .leq (.int .i64 0) (.symi .i64 26),
 .bin .leq (.symi .i64 26) (.symi .i64 10),
 .bin .add (.symi .i64 26) (.int .i64 1),
 .sop .sub [.syms 0,.int .i64 0,.symi .i64 29],
 .sop .len [.syms 30],
 .bin .leq (.symi .i64 31) (.int .i64 1000000),
 .bin .neq (.symi .i64 17) (.int .i64 0),
 .ite (.symb 33) (.symi .i64 1) (.int .i64 0),
 .low [.symi .u64 15,.int .u64 2199023255552],
 .bin .add (.symi .u64 4) (.symi .u64 35),
 .bin .leq (.symi .u64 36) (.int .u64 1099511627776),
 .bin .gtr (.symi .u64 15) (.int .u64 0),
 .bin .gtr (.symi .i64 9) (.symi .i64 6),
 .ite (.symb 38) (.bool true) (.symb 39),
 .ite (.symb 37) (.symb 40) (.bool false),
 .un .not (.symb 41),
 .bin .neq (.symi .i64 24) (.int .i64 0),
 .ite (.symb 43) (.symi .i64 19) (.int .i64 0),
 .low [.symi .u64 22,.int .u64 2199023255552],
 .bin .add (.symi .u64 5) (.symi .u64 45),
 .bin .leq (.symi .u64 46) (.symi .u64 36),
 .bin .eql (.symi .u64 22) (.int .u64 0),
 .bin .eql (.symi .i64 9) (.int .i64 255),
 .ite (.symb 38) (.bool true) (.symb 48),
 .ite (.symb 47) (.symb 50) (.bool false),
 .un .not (.symb 51),
 .bin .sub (.symi .i64 10) (.symi .i64 26),
 .bin .eql (.symi .i64 53) (.int .i64 0),
 .bin .lss (.symi .i64 26) (.symi .i64 10),
 .sop .at [.syms 0,.symi .i64 26],
 .bin .leq (.int .i64 0) (.symi .i64 29),
 .bin .leq (.symi .i64 29) (.symi .i64 10),
 .fn 384 .u8 [.syms 30],
 .bin .sub (.symi .i64 10) (.symi .i64 29),
 .bin .eql (.symi .i64 60) (.int .i64 0),
 .bin .lss (.symi .i64 29) (.symi .i64 10),
 .sop .at [.syms 0,.symi .i64 29],
 .bin .add (.symi .i64 29) (.int .i64 1),
 .bin .eql (.symi .u8 63) (.symi .u8 59),
 .un .not (.symb 65),
 .sop (.row [.some .u64,.some .u64,.some .i64,.some .u8]) [.symi .u64 36,.symi .u64 46,.symi .i64 9,.symi .u8 56],
 .sop .cat [.syms 8,.syms 67],
 .bin .add (.symi .i64 3) (.int .i64 1),
 .bin .leq (.int .i64 0) (.symi .i64 69),
 .bin .leq (.symi .i64 69) (.int .i64 4398046511104),
 .bin .sub (.symi .i64 10) (.symi .i64 64),
 .bin .eql (.symi .i64 72) (.int .i64 0),
 .bin .leq (.int .i64 0) (.symi .i64 64),
 .bin .lss (.symi .i64 64) (.symi .i64 10),
 .sop .at [.syms 0,.symi .i64 64],
 .bin .add (.symi .i64 64) (.int .i64 1),
 .conv .i64 (.symi .u8 76),
 .bin .leq (.symi .i64 78) (.int .i64 2),
 .bin .eql (.symi .u8 76) (.int .u8 255),
 .ite (.symb 79) (.bool true) (.symb 80),
 .un .not (.symb 81)]
def Quf:LT:=Go.Wbp.fT 10 Qlz (.n (.n (.n (.n (.n (.n (.n .e 7086 10 .e) 21628782 77 .e) 24822332 51 (.n .e 44303559 67 .e)) 69106915 70 (.n (.n (.n .e 74533406 48 .e) 81297247 20 .e) 104731662 45 (.n .e 122766409 66 .e))) 152491939 26 (.n (.n (.n (.n .e 172599558 80 .e) 218272750 44 .e) 225978747 19 (.n .e 229868860 60 .e)) 233909151 75 (.n (.n .e 261088322 37 .e) 273549953 53 (.n .e 276534012 25 .e)))) 276534019 43 (.n (.n (.n (.n (.n .e 293607546 57 .e) 303061261 69 .e) 311831027 78 (.n .e 313341031 12 .e)) 315750613 68 (.n (.n .e 337288639 27 .e) 343383805 11 (.n .e 361941330 79 .e))) 365952773 41 (.n (.n (.n (.n .e 384853359 56 .e) 429471242 35 .e) 433954401 40 (.n .e 436083993 72 .e)) 441186142 34 (.n (.n .e 441273140 38 .e) 478584576 29 (.n .e 499822679 74 .e))))) 513186674 81 (.n (.n (.n (.n (.n (.n .e 545347797 30 .e) 552670285 32 .e) 579147576 13 (.n .e 610246676 36 .e)) 616689196 76 (.n (.n (.n .e 643273718 18 .e) 643273725 33 .e) 665077910 82 (.n .e 690864945 55 .e))) 690864952 28 (.n (.n (.n (.n .e 691319439 61 .e) 708941990 59 .e) 715225148 31 (.n .e 719257421 50 .e)) 781585485 64 (.n (.n .e 821670977 39 .e) 829581248 73 (.n .e 839931768 15 .e)))) 839931811 16 (.n (.n (.n (.n (.n .e 839931854 17 .e) 851106751 65 .e) 856203401 52 (.n .e 883514374 63 .e)) 900645770 47 (.n (.n .e 919911898 42 .e) 921772046 49 (.n .e 921772053 14 .e))) 923557278 46 (.n (.n (.n (.n .e 923706826 22 .e) 923706869 23 .e) 923706912 24 (.n .e 985492107 71 .e)) 993865854 62 (.n (.n .e 993865861 58 .e) 1057604658 21 (.n .e 1058059145 54 .e))))))
def Qug:Sw:=.node 11 (.node 12 (.node 13 (.node 14 (.node 18 (.node 20 (.node 21 (.node 25 (.node 27 (.node 28 (.node 32 (.node 33 (.dead) (.node 43 (.dead) (.node 49 (.dead) (.node 57 (.node 70 (.node 71 (.node 74 (.run (.node 42 (.leaf (.pan (.iface 77 (.agg [.symi .i64 2]))) Q3 [(0,0),(1,0)] [(0,.syms 0)] [(2,.symi .i64 1)]) (.node 52 (.leaf (.pan (.iface 77 (.agg [.symi .i64 2]))) Q3 [(0,0),(1,0)] [(0,.syms 0)] [(2,.symi .i64 19)]) (.node 54 (.leaf (.pan (.iface 77 (.agg [.symi .i64 2]))) Q3 [(0,0),(1,0)] [(0,.syms 0)] [(2,.symi .i64 26)]) (.node 55 (.node 58 (.node 61 (.leaf (.pan (.iface 77 (.agg [.symi .i64 2]))) Q3 [(0,0),(1,0)] [(0,.syms 0)] [(2,.symi .i64 29)]) (.node 62 (.node 66 (.leaf (.pan (.iface 77 (.agg [.symi .i64 2]))) Q3 [(0,0),(1,0)] [(0,.syms 0)] [(2,.symi .i64 29)]) (.node 73 (.leaf (.pan (.iface 77 (.agg [.symi .i64 2]))) Q3 [(0,0),(1,0)] [(0,.syms 0)] [(2,.symi .i64 64)]) (.node 75 (.node 82 (.leaf (.pan (.iface 77 (.agg [.symi .i64 2]))) Q3 [(0,0),(1,0)] [(0,.syms 0)] [(2,.symi .i64 64)]) (.leaf .normal Qd3 [(0,0),(1,0),(2,0),(3,0),(12,0)] [(9,.symi .i64 78),(0,.syms 0),(0,.syms 0),(1,.symi .i64 77),(2,.symi .u32 2),(3,.symi .i64 69),(4,.symi .u64 36),(5,.symi .u64 46),(6,.symi .i64 9),(7,.symi .u8 56),(8,.syms 68),(3,.symi .i64 69)] [])) (.dead)))) (.dead))) (.dead)) (.dead)))))) (.dead)) (.dead)) (.dead)) (.dead))))) (.dead)) (.dead)) (.dead)) (.node 33 (.dead) (.node 43 (.run (.node 42 (.leaf (.pan (.iface 77 (.agg [.symi .i64 2]))) Q3 [(0,0),(1,0)] [(0,.syms 0)] [(2,.symi .i64 1)]) (.leaf (.pan (.iface 77 (.agg [.symi .i64 2]))) Q3 [(0,0),(1,0)] [(0,.syms 0)] [(2,.symi .i64 19)]))) (.dead)))) (.dead)) (.dead)) (.node 33 (.run (.leaf (.pan (.iface 77 (.agg [.symi .i64 2]))) Q3 [(0,0),(1,0)] [(0,.syms 0)] [(2,.symi .i64 1)])) (.dead))) (.run (.leaf (.exit 0) Qd3 [(0,0),(1,0),(2,0),(3,0),(4,0)] [(9,.symi .i64 9),(0,.syms 0),(0,.syms 0),(1,.symi .i64 1),(2,.symi .u32 2),(3,.symi .i64 3),(4,.symi .u64 4),(5,.symi .u64 5),(6,.symi .i64 6),(7,.symi .u8 7),(8,.syms 8),(3,.symi .i64 3)] []))) (.dead)) (.dead)) (.dead)
def Q1y:KdT:=.n (.n (.n (.n (.n (.n (.n .e (some .u8) .e) none .e) (some .u64) (.n (.n .e none .e) none .e)) (some .u8) (.n (.n (.n .e none .e) none .e) (some .i64) (.n .e none .e))) (some .i64) (.n (.n (.n (.n .e none .e) (some .u64) .e) (some .i64) (.n .e none .e)) none (.n (.n (.n .e none .e) none .e) none (.n .e (some .u8) .e)))) (some .i64) (.n (.n (.n (.n (.n .e none .e) none .e) (some .i64) (.n (.n .e none .e) none .e)) (some .i64) (.n (.n (.n .e none .e) none .e) none (.n .e none .e))) (some .u64) (.n (.n (.n (.n .e (some .i64) .e) none .e) none (.n .e (some .i64) .e)) none (.n (.n (.n .e (some .i64) .e) (some .u64) .e) (some .i64) (.n .e none .e))))) none (.n (.n (.n (.n (.n (.n .e (some .i64) .e) none .e) (some .i64) (.n (.n .e none .e) none .e)) none (.n (.n (.n .e (some .i64) .e) none .e) (some .i64) (.n .e (some .u8) .e))) (some .u64) (.n (.n (.n (.n .e none .e) (some .u64) .e) none (.n .e none .e)) none (.n (.n (.n .e (some .u8) .e) (some .i64) .e) none (.n .e (some .i64) .e)))) (some .u32) (.n (.n (.n (.n (.n .e none .e) (some .i64) .e) none (.n (.n .e none .e) none .e)) none (.n (.n (.n .e none .e) none .e) (some .i64) (.n .e none .e))) (some .i64) (.n (.n (.n (.n .e none .e) none .e) (some .u64) (.n .e none .e)) none (.n (.n (.n .e (some .i64) .e) (some .u64) .e) none (.n .e none .e)))))
noncomputable def Q1z:Ing:={m:=10,ins:=Qef,G:=Qlz,T:=Quf,tab:=Qa,lsts:=Qt,kb:=83,kt:=Q1y}
noncomputable def Qfw:Ing:={m:=10,ins:=Qef,G:=Qlz,T:=Quf,tab:=Qa,lsts:=Qt,kb:=83,kt:=Q1y,mh:=Qbo (kdX Q1z) [sf48,sf20]}
theorem Q10:okLT 10 Qlz Quf=true:=by kernel_rfl
theorem Qbc0:okG Qlz 10=true:=by kernel_rfl
theorem Qbcz (F:List Fact):Hooks Tryd.prog (cxOf Qfw F) where
 val:=fun f args v h=>by simp only [Qfw,cxOf,Qc8,reduceCtorEq] at h
 mem:=fun f args hp v hp' h=>by
  replace h:(Qbo (kdX Q1z) [sf48,sf20]) (symS (Qq Qfw F)) f args hp=some (v,hp'):=h
  exact Qf4 (X:=Qfw) (tbl:=[sf48,sf20]) (inv:=fun _=>True) (fun e he=>by
   simp only [List.mem_cons,List.not_mem_nil,or_false] at he
   rcases he with rfl|rfl
   ·exact lgn.wn48_contract
   ·exact c20
   ) Q10 rfl (fun _ _ _ _=>trivial) F f args hp v hp' h
 ovl:=fun f k h=>by simp only [Qfw,cxOf,reduceCtorEq] at h
 atm:=fun k b h=>by simp only [Qfw,cxOf,List.not_mem_nil] at h
theorem Qbc1:SegOk Tryd.prog Qa 84 (Qe (Qca (Qc Tryd.f32))) Qd3 Qfw Qug where
 lt:=Q10
 ok:=Qbc0
 hook:=Qbcz
 n0:=rfl
 id:=by kernel_rfl
 reck:=by kernel_rfl
 tab:=rfl
 cuts:=rfl
 kt:=by kernel_rfl
def Ql0:List SDef:=[.sop .len [.syms 0],
 .bin .leq (.int .i64 0) (.symi .i64 1),
 .bin .leq (.symi .i64 1) (.symi .i64 10),
 .bin .leq (.symi .i64 10) (.int .i64 1000000),
 .fn 128 .u64 [.syms 0,.symi .i64 1],
 .fn 129 .i64 [.syms 0,.symi .i64 1],
 .fn 130 .i64 [.syms 0,.symi .i64 1],
 .bin .eql (.symi .i64 16) (.int .i64 0),
 .bin .add (.symi .i64 1) (.symi .i64 15),
 .bin .leq (.int .i64 0) (.symi .i64 18),
 .bin .leq (.symi .i64 18) (.symi .i64 10),
 .fn 128 .u64 [.syms 0,.symi .i64 18],
 .fn 129 .i64 [.syms 0,.symi .i64 18],
 .fn 130 .i64 [.syms 0,.symi .i64 18],
 .bin .eql (.symi .i64 23) (.int .i64 0),
 .bin .add (.symi .i64 18) (.symi .i64 22),
 .bin .leq (.int .i64 0) (.symi .i64 25),
 .bin .leq (.symi .i64 25) (.symi .i64 10),
 .fn 128 .u64 [.syms 0,.symi .i64 25],
 .fn 129 .i64 [.syms 0,.symi .i64 25],
 .fn 130 .i64 [.syms 0,.symi .i64 25],
 .bin .eql (.symi .i64 30) (.int .i64 0),
 .bin .add (.symi .i64 25) (.symi .i64 29),
 .bin .leq (.int .i64 0) (.symi .i64 32),
 .bin .leq (.symi .i64 32) (.symi .i64 10),
 .bin .add (.symi .i64 32) (.int .i64 1),
 .sop .sub [.syms 0,.int .i64 0,.symi .i64 35],
 .sop .len [.syms 36],
 .bin .leq (.symi .i64 37) (.int .i64 1000000),
 .bin .neq (.symi .i64 16) (.int .i64 0),
 .ite (.symb 39) (.symi .i64 1) (.int .i64 0),
 .bin .leq (.symi .u64 14) (.int .u64 1073741824),
 .un .not (.symb 41),
 .conv .i64 (.symi .u64 14),
 .bin .neq (.symi .i64 23) (.int .i64 0),
 .ite (.symb 44) (.symi .i64 18) (.int .i64 0),
 .low [.symi .u64 21,.int .u64 2199023255552],
 .bin .add (.symi .u64 4) (.symi .u64 46),
 .bin .leq (.symi .u64 47) (.int .u64 1099511627776),
 .bin .gtr (.symi .u64 21) (.int .u64 0),
 .bin .gtr (.int .i64 255) (.symi .i64 6),
 .un .not (.symb 48),
 .bin .neq (.symi .i64 30) (.int .i64 0),
 .ite (.symb 52) (.symi .i64 25) (.int .i64 0),
 .low [.symi .u64 28,.int .u64 2199023255552],
 .bin .add (.symi .u64 5) (.symi .u64 54),
 .bin .leq (.symi .u64 55) (.symi .u64 47),
 .bin .eql (.symi .u64 28) (.int .u64 0),
 .un .not (.symb 56),
 .bin .sub (.symi .i64 10) (.symi .i64 32),
 .bin .eql (.symi .i64 59) (.int .i64 0),
 .bin .lss (.symi .i64 32) (.symi .i64 10),
 .sop .at [.syms 0,.symi .i64 32],
 .bin .leq (.symi .u8 62) (.int .u8 6),
 .un .not (.symb 63),
 .conv .i64 (.symi .u8 62),
 .bin .leq (.int .i64 0) (.symi .i64 35),
 .bin .leq (.symi .i64 35) (.symi .i64 10),
 .fn 384 .u8 [.syms 36],
 .bin .sub (.symi .i64 10) (.symi .i64 35),
 .bin .eql (.symi .i64 69) (.int .i64 0),
 .bin .lss (.symi .i64 35) (.symi .i64 10),
 .sop .at [.syms 0,.symi .i64 35],
 .bin .add (.symi .i64 35) (.int .i64 1),
 .bin .eql (.symi .u8 72) (.symi .u8 68),
 .un .not (.symb 74),
 .bin .sub (.symi .i64 10) (.symi .i64 73),
 .bin .gtr (.symi .i64 76) (.int .i64 0),
 .bin .leq (.int .i64 0) (.symi .i64 3),
 .bin .leq (.symi .i64 3) (.symi .i64 3)]
def Quh:LT:=Go.Wbp.fT 10 Ql0 (.n (.n (.n (.n (.n (.n (.n .e 7086 10 .e) 10844567 35 .e) 83920124 21 (.n .e 83920167 22 .e)) 83920210 23 (.n (.n .e 84930276 38 .e) 92168726 47 (.n .e 142506674 69 .e))) 159840661 77 (.n (.n (.n (.n .e 175533709 24 .e) 175533716 44 .e) 186187767 59 (.n .e 201471837 40 .e)) 206245360 66 (.n (.n .e 208276890 45 .e) 215833061 53 (.n .e 217828720 56 .e)))) 223124936 61 (.n (.n (.n (.n (.n .e 223124943 34 .e) 249926453 33 .e) 259350245 79 (.n .e 287478239 58 .e)) 298349828 48 (.n (.n .e 305040714 76 .e) 308433562 62 (.n .e 313341031 12 .e))) 313845476 73 (.n (.n (.n (.n .e 323817744 36 .e) 340122725 41 .e) 343383805 11 (.n .e 368262831 43 .e)) 421229245 68 (.n (.n .e 526125845 71 .e) 526125852 67 (.n .e 526580339 70 .e))))) 542273415 17 (.n (.n (.n (.n (.n (.n .e 542273422 39 .e) 553193402 51 .e) 555324372 74 (.n .e 579147576 13 .e)) 589864649 27 (.n (.n .e 590319136 60 .e) 593717903 28 (.n .e 593717946 29 .e))) 593717989 30 (.n (.n (.n (.n .e 643520395 37 .e) 671131571 32 .e) 680535224 57 (.n .e 746733588 54 .e)) 781879885 25 (.n (.n .e 792513999 55 .e) 807094577 72 (.n .e 811685496 19 .e)))) 839931768 14 (.n (.n (.n (.n (.n .e 839931811 15 .e) 839931854 16 .e) 882535830 31 (.n .e 882535837 52 .e)) 893620276 63 (.n (.n .e 919911898 42 .e) 956366996 18 (.n .e 956604355 20 .e))) 986538650 50 (.n (.n (.n .e 994501570 64 .e) 1017310355 65 (.n .e 1030090961 78 .e)) 1031796406 75 (.n (.n .e 1047274958 49 .e) 1067676888 26 (.n .e 1071473168 46 .e))))))
def Qui:Sw:=.pick 9 255 (.node 11 (.node 12 (.node 13 (.node 17 (.node 19 (.node 20 (.node 24 (.node 26 (.node 27 (.node 31 (.node 33 (.node 34 (.node 38 (.node 39 (.dead) (.node 44 (.dead) (.node 50 (.node 52 (.dead) (.node 66 (.node 78 (.node 79 (.run (.node 42 (.leaf (.pan (.iface 77 (.agg [.symi .i64 2]))) Q3 [(0,0),(1,0)] [(0,.syms 0)] [(2,.symi .i64 1)]) (.node 51 (.leaf (.pan (.iface 77 (.agg [.symi .i64 2]))) Q3 [(0,0),(1,0)] [(0,.syms 0)] [(2,.symi .i64 18)]) (.node 58 (.leaf (.pan (.iface 77 (.agg [.symi .i64 2]))) Q3 [(0,0),(1,0)] [(0,.syms 0)] [(2,.symi .i64 25)]) (.node 60 (.leaf (.pan (.iface 77 (.agg [.symi .i64 2]))) Q3 [(0,0),(1,0)] [(0,.syms 0)] [(2,.symi .i64 32)]) (.node 61 (.node 64 (.leaf (.pan (.iface 77 (.agg [.symi .i64 2]))) Q3 [(0,0),(1,0)] [(0,.syms 0)] [(2,.symi .i64 32)]) (.node 67 (.node 70 (.leaf (.pan (.iface 77 (.agg [.symi .i64 2]))) Q3 [(0,0),(1,0)] [(0,.syms 0)] [(2,.symi .i64 35)]) (.node 71 (.node 75 (.leaf (.pan (.iface 77 (.agg [.symi .i64 2]))) Q3 [(0,0),(1,0)] [(0,.syms 0)] [(2,.symi .i64 35)]) (.node 77 (.leaf (.pan (.iface 77 (.agg [.symi .i64 2]))) Q3 [(0,0),(1,0)] [(0,.syms 0)] [(2,.symi .i64 73)]) (.leaf .ret Q2q [(0,0),(1,0),(4,0),(2,0)] [(0,.syms 0),(2,.syms 8),(3,.symi .i64 3),(4,.symi .u32 2),(3,.symi .i64 3),(5,.symi .i64 43),(6,.symi .u64 47),(7,.symi .u64 55),(8,.symi .i64 65)] []))) (.dead))) (.dead))) (.dead))))))) (.dead)) (.dead)) (.dead))) (.dead)))) (.dead)) (.dead)) (.dead)) (.node 39 (.dead) (.node 44 (.dead) (.node 50 (.node 52 (.run (.node 42 (.leaf (.pan (.iface 77 (.agg [.symi .i64 2]))) Q3 [(0,0),(1,0)] [(0,.syms 0)] [(2,.symi .i64 1)]) (.node 51 (.leaf (.pan (.iface 77 (.agg [.symi .i64 2]))) Q3 [(0,0),(1,0)] [(0,.syms 0)] [(2,.symi .i64 18)]) (.leaf (.pan (.iface 77 (.agg [.symi .i64 2]))) Q3 [(0,0),(1,0)] [(0,.syms 0)] [(2,.symi .i64 25)])))) (.dead)) (.dead))))) (.dead)) (.dead)) (.node 39 (.dead) (.node 44 (.run (.node 42 (.leaf (.pan (.iface 77 (.agg [.symi .i64 2]))) Q3 [(0,0),(1,0)] [(0,.syms 0)] [(2,.symi .i64 1)]) (.leaf (.pan (.iface 77 (.agg [.symi .i64 2]))) Q3 [(0,0),(1,0)] [(0,.syms 0)] [(2,.symi .i64 18)]))) (.dead)))) (.dead)) (.dead)) (.node 39 (.run (.leaf (.pan (.iface 77 (.agg [.symi .i64 2]))) Q3 [(0,0),(1,0)] [(0,.syms 0)] [(2,.symi .i64 1)])) (.dead))) (.dead)) (.dead)) (.dead)) (.dead)
def Q11:KdT:=.n (.n (.n (.n (.n (.n (.n .e none .e) none .e) (some .i64) (.n (.n .e none .e) (some .u64) .e)) (some .u8) (.n (.n (.n .e none .e) none .e) (some .i64) (.n .e (some .u64) .e))) (some .i64) (.n (.n (.n (.n .e none .e) (some .i64) .e) none (.n .e none .e)) none (.n (.n (.n .e none .e) (some .i64) .e) none (.n .e (some .i64) .e)))) (some .i64) (.n (.n (.n (.n (.n .e (some .i64) .e) none .e) none (.n .e none .e)) (some .i64) (.n (.n (.n .e (some .i64) .e) none .e) (some .i64) (.n .e none .e))) (some .u64) (.n (.n (.n (.n .e (some .i64) .e) none .e) (some .u64) (.n .e (some .i64) .e)) none (.n (.n (.n .e none .e) (some .i64) .e) (some .i64) (.n .e none .e))))) none (.n (.n (.n (.n (.n (.n .e none .e) (some .i64) .e) (some .i64) (.n .e none .e)) none (.n (.n (.n .e (some .u8) .e) (some .i64) .e) none (.n .e none .e))) (some .u64) (.n (.n (.n (.n .e (some .u8) .e) none .e) none (.n .e none .e)) none (.n (.n (.n .e (some .i64) .e) none .e) (some .u64) (.n .e none .e)))) (some .u32) (.n (.n (.n (.n (.n .e none .e) none .e) (some .i64) (.n .e none .e)) none (.n (.n (.n .e none .e) none .e) none (.n .e none .e))) (some .i64) (.n (.n (.n (.n .e none .e) none .e) (some .i64) (.n .e (some .u64) .e)) (some .u64) (.n (.n (.n .e none .e) (some .u64) .e) (some .i64) (.n .e (some .u8) .e)))))
noncomputable def Q12:Ing:={m:=10,ins:=Qef,G:=Ql0,T:=Quh,tab:=Qa,lsts:=Qt,kb:=80,kt:=Q11}
noncomputable def Qht:Ing:={m:=10,ins:=Qef,G:=Ql0,T:=Quh,tab:=Qa,lsts:=Qt,kb:=80,kt:=Q11,mh:=Qbo (kdX Q12) [sf48,sf20]}
theorem Q13:okLT 10 Ql0 Quh=true:=by kernel_rfl
theorem Qbc3:okG Ql0 10=true:=by kernel_rfl
theorem Qbc2 (F:List Fact):Hooks Tryd.prog (cxOf Qht F) where
 val:=fun f args v h=>by simp only [Qht,cxOf,Qc8,reduceCtorEq] at h
 mem:=fun f args hp v hp' h=>by
  replace h:(Qbo (kdX Q12) [sf48,sf20]) (symS (Qq Qht F)) f args hp=some (v,hp'):=h
  exact Qf4 (X:=Qht) (tbl:=[sf48,sf20]) (inv:=fun _=>True) (fun e he=>by
   simp only [List.mem_cons,List.not_mem_nil,or_false] at he
   rcases he with rfl|rfl
   ·exact lgn.wn48_contract
   ·exact c20
   ) Q13 rfl (fun _ _ _ _=>trivial) F f args hp v hp' h
 ovl:=fun f k h=>by simp only [Qht,cxOf,reduceCtorEq] at h
 atm:=fun k b h=>by simp only [Qht,cxOf,List.not_mem_nil] at h
theorem Qbc4:SegOk Tryd.prog Qa 84 ((Qe (Qc Tryd.f32)).drop 5) Qd3 Qht Qui where
 lt:=Q13
 ok:=Qbc3
 hook:=Qbc2
 n0:=rfl
 id:=by kernel_rfl
 reck:=by kernel_rfl
 tab:=rfl
 cuts:=rfl
 kt:=by kernel_rfl
theorem EndZ.pan {P:Program} {tab:TabF} {n:Nat} {W0:Fra} {Z:Exit->Act->World->Prop} {id:Nat} {c2:List Code} {s:Shape} {σ:Sig} {v:AVal}
  (h:EndZ tab n W0 Z (.pan v) s σ):EndZ tab n W0 (BlkZ P id c2 Z) (.pan v) s σ:=by
 intro e a w hxe hA
 have:=h e a w hxe hA
 cases e<;>simp only [Qbw] at hxe
 exact this
theorem Qml {τ:Sig} (ht:τ.tab=Qa) {S:ByteArray} {a:Int} {x v l c:Nat} (hS:τ.sval 0=S) (ha:τ.ival x=a) (h1:τ.ival v=IntKind.u64.wrap (τ.tab 128 [encB (τ.sval 0),τ.ival x])) (h2:τ.ival l=IntKind.i64.wrap (τ.tab 129 [encB (τ.sval 0),τ.ival x])) (h3:τ.ival c=IntKind.i64.wrap (τ.tab 130 [encB (τ.sval 0),τ.ival x])):
  τ.ival v=(numL S a).getD 0 0/\τ.ival l=(numL S a).getD 1 0/\τ.ival c=(numL S a).getD 2 0/\0<=(numL S a).getD 0 0/\(numL S a).getD 0 0<4611686018427387904/\0<=(numL S a).getD 1 0/\(numL S a).getD 1 0<=8/\(((numL S a).getD 2 0=0/\1<=(numL S a).getD 1 0/\a+(numL S a).getD 1 0<=S.size)\/(((numL S a).getD 2 0=3\/(numL S a).getD 2 0=5)/\(numL S a).getD 0 0=0/\(numL S a).getD 1 0=0)):=by
 obtain ⟨k1,k2,k3,k4,k5⟩:=Qh1 S a
 rw [hS,ha,ht,show (128:Nat)=128+0 by rfl,lgn.tab_num _ _ 0 (by decide),Qj] at h1
 rw [hS,ha,ht,show (129:Nat)=128+1 by rfl,lgn.tab_num _ _ 1 (by decide),Qh] at h2
 rw [hS,ha,ht,show (130:Nat)=128+2 by rfl,lgn.tab_num _ _ 2 (by decide),Qh] at h3
 refine ⟨by omega,by omega,by omega,k1,k2,k3,k4,k5⟩
theorem Qbt {d:En} {k n:Int}:P1 d k n↔(d.r+min n 2199023255552<=1099511627776/\(0<n\/d.k<k)):=Iff.rfl
theorem Qco {d:En} {k n m:Int}:P2 d k n m↔(d.b+min m 2199023255552<=d.r+min n 2199023255552/\(0<n\/m=0\/k=255)):=Iff.rfl
end Go.Proofs.YtelimhjceiamcaaDoor.lg
