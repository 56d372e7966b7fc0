/-
 Contract of the document's In.U.
 No conditions.
-/
import Derived.Test.YtelimhjceiamcaaDoorTWbp
set_option linter.unusedVariables false
set_option linter.unusedSimpArgs false
set_option maxRecDepth 100000
namespace Go.Proofs.YtelimhjceiamcaaDoor.lgn
open Go.Ev Go.RowKit Go.Wbp Go.Lgp
def Qboy:Shape:=⟨argT 0 [.ptr 0 0],[wnRf (.z 0) (.z 0)]⟩
def Qem:Shape:=⟨[(0,.ptr 0 0),(2,.u 3)],[.cells [.s 0,.i 6,.i 5,.i 8] 97]⟩
def sf44:SymF:=Qim 44 [.ptr 0 0] [wnRf (.z 0) (.z 0)] (.u 3) [.cells [.s 0,.i 6,.i 5,.i 8] 97]
def Qi:List SDef:=[.sop .len [.s 0],
 .q .leq (.z 0) (.i 1),
 .q .leq (.i 1) (.i 2),
 .q .leq (.i 2) (.z 1000000),
 .q .lss (.i 1) (.i 2),
 .sop .at [.s 0,.i 1],
 .q .quo (.c 7) (.int .u8 64),
 .conv .i64 (.c 8),
 .q .geq (.i 1) (.i 2),
 .q .sub (.i 2) (.i 1),
 .q .lss (.i 11) (.z 1),
 .q .rem (.c 7) (.int .u8 64),
 .conv .u64 (.c 13),
 .fn 64 .i64 [.u 14],
 .q .neq (.i 15) (.z 1),
 .q .add (.i 1) (.z 1),
 .q .lss (.i 11) (.z 2),
 .q .mul (.u 14) (.o 256),
 .q .leq (.z 0) (.i 17),
 .q .lss (.i 17) (.i 2),
 .sop .at [.s 0,.i 17],
 .conv .u64 (.c 22),
 .q .add (.u 19) (.u 23),
 .fn 64 .i64 [.u 24],
 .q .neq (.i 25) (.z 2),
 .q .add (.i 1) (.z 2),
 .q .lss (.i 11) (.z 4),
 .q .mul (.u 24) (.o 256),
 .q .leq (.z 0) (.i 27),
 .q .lss (.i 27) (.i 2),
 .sop .at [.s 0,.i 27],
 .conv .u64 (.c 32),
 .q .add (.u 29) (.u 33),
 .q .mul (.u 34) (.o 256),
 .q .add (.i 1) (.z 3),
 .q .leq (.z 0) (.i 36),
 .q .lss (.i 36) (.i 2),
 .sop .at [.s 0,.i 36],
 .conv .u64 (.c 39),
 .q .add (.u 35) (.u 40),
 .fn 64 .i64 [.u 41],
 .q .neq (.i 42) (.z 4),
 .q .add (.i 1) (.z 4),
 .q .lss (.i 11) (.z 8),
 .q .mul (.u 41) (.o 256),
 .q .leq (.z 0) (.i 44),
 .q .lss (.i 44) (.i 2),
 .sop .at [.s 0,.i 44],
 .conv .u64 (.c 49),
 .q .add (.u 46) (.u 50),
 .q .mul (.u 51) (.o 256),
 .q .add (.i 1) (.z 5),
 .q .leq (.z 0) (.i 53),
 .q .lss (.i 53) (.i 2),
 .sop .at [.s 0,.i 53],
 .conv .u64 (.c 56),
 .q .add (.u 52) (.u 57),
 .q .mul (.u 58) (.o 256),
 .q .add (.i 1) (.z 6),
 .q .leq (.z 0) (.i 60),
 .q .lss (.i 60) (.i 2),
 .sop .at [.s 0,.i 60],
 .conv .u64 (.c 63),
 .q .add (.u 59) (.u 64),
 .q .mul (.u 65) (.o 256),
 .q .add (.i 1) (.z 7),
 .q .leq (.z 0) (.i 67),
 .q .lss (.i 67) (.i 2),
 .sop .at [.s 0,.i 67],
 .conv .u64 (.c 70),
 .q .add (.u 66) (.u 71),
 .fn 64 .i64 [.u 72],
 .q .neq (.i 73) (.z 8),
 .q .add (.i 1) (.z 8)]
def Q9u:LT:=Go.Wbp.fT 2 Qi (.n (.n (.n (.n (.n (.n (.n .e 7086 2 .e) 2314231 42 .e) 16389698 65 (.n .e 27781178 38 .e)) 37321949 12 (.n (.n (.n .e 37371984 18 .e) 37472054 28 .e) 37672194 45 (.n .e 41608384 70 .e))) 46568837 64 (.n (.n (.n (.n .e 74784739 33 .e) 75202081 47 .e) 89314824 41 (.n .e 101060655 17 .e)) 101110690 27 (.n (.n .e 101160725 36 .e) 101210760 44 (.n .e 101260795 53 .e)))) 101310830 60 (.n (.n (.n (.n (.n .e 101360865 67 .e) 101410900 75 .e) 118523476 23 (.n .e 127138012 58 .e)) 135388024 66 (.n (.n (.n .e 152491939 24 .e) 155593968 49 .e) 192520278 31 (.n .e 193159755 32 .e))) 200150194 61 (.n (.n (.n (.n .e 225604112 35 .e) 256259075 21 .e) 265262522 14 (.n .e 289342909 29 .e)) 301063441 34 (.n (.n .e 304304796 62 .e) 309721785 63 (.n .e 338886629 51 .e))))) 343383805 3 (.n (.n (.n (.n (.n (.n .e 353081706 19 .e) 377634392 26 .e) 399308501 57 (.n .e 441323154 16 .e)) 456141586 68 (.n (.n (.n .e 468331918 20 .e) 502127730 59 .e) 545384522 11 (.n .e 549598938 37 .e))) 577835186 56 (.n (.n (.n (.n .e 615400973 39 .e) 671044502 55 .e) 680642217 30 (.n .e 710214699 8 .e)) 710214706 13 (.n (.n .e 752048165 50 .e) 760270928 15 (.n .e 767571000 71 .e)))) 787737881 6 (.n (.n (.n (.n (.n .e 787737888 4 .e) 787737902 10 .e) 795786902 40 (.n .e 824002804 9 .e)) 835783602 48 (.n (.n .e 842100933 73 .e) 844886979 5 (.n .e 868867436 52 .e))) 882226151 7 (.n (.n (.n (.n .e 930981838 74 .e) 932606233 46 .e) 979383211 72 (.n .e 996533031 25 .e)) 1011306917 69 (.n (.n .e 1017900629 54 .e) 1020997786 43 (.n .e 1036353968 22 .e))))))
def Qbot:Sw:=.x 3 (.x 4 (.x 5 (.n 6 (.pick 9 0 (.run (.node 10 (.dead) (.node 12 (.dead) (.node 16 (.dead) (.leaf .ret Qem [(0,0)] [(3,.u 14),(0,.s 0),(6,.i 17),(5,.z 0),(8,.z 0)] []))))) (.pick 9 1 (.run (.node 10 (.dead) (.node 18 (.leaf .ret Qem [(0,0)] [(3,.o 0),(0,.s 0),(6,.i 1),(5,.z 3),(8,.i 1)] []) (.node 20 (.node 21 (.node 26 (.leaf .ret Qem [(0,0)] [(3,.o 0),(0,.s 0),(6,.i 1),(5,.z 5),(8,.i 1)] []) (.leaf .ret Qem [(0,0)] [(3,.u 24),(0,.s 0),(6,.i 27),(5,.z 0),(8,.z 0)] [])) (.dead)) (.dead))))) (.pick 9 2 (.run (.node 10 (.dead) (.node 28 (.leaf .ret Qem [(0,0)] [(3,.o 0),(0,.s 0),(6,.i 1),(5,.z 3),(8,.i 1)] []) (.node 20 (.node 21 (.node 30 (.node 31 (.node 37 (.node 38 (.node 43 (.leaf .ret Qem [(0,0)] [(3,.o 0),(0,.s 0),(6,.i 1),(5,.z 5),(8,.i 1)] []) (.leaf .ret Qem [(0,0)] [(3,.u 41),(0,.s 0),(6,.i 44),(5,.z 0),(8,.z 0)] [])) (.dead)) (.dead)) (.dead)) (.dead)) (.dead)) (.dead))))) (.pick 9 3 (.run (.node 10 (.dead) (.node 45 (.leaf .ret Qem [(0,0)] [(3,.o 0),(0,.s 0),(6,.i 1),(5,.z 3),(8,.i 1)] []) (.node 20 (.node 21 (.node 30 (.node 31 (.node 37 (.node 38 (.node 47 (.node 48 (.node 54 (.node 55 (.node 61 (.node 62 (.node 68 (.node 69 (.node 74 (.leaf .ret Qem [(0,0)] [(3,.o 0),(0,.s 0),(6,.i 1),(5,.z 5),(8,.i 1)] []) (.leaf .ret Qem [(0,0)] [(3,.u 72),(0,.s 0),(6,.i 75),(5,.z 0),(8,.z 0)] [])) (.dead)) (.dead)) (.dead)) (.dead)) (.dead)) (.dead)) (.dead)) (.dead)) (.dead)) (.dead)) (.dead)) (.dead)) (.dead)) (.dead))))) (.dead))))) (.run (.node 10 (.leaf .ret Qem [(0,0)] [(3,.o 0),(0,.s 0),(6,.i 1),(5,.z 3),(8,.i 1)] []) (.dead))))))
def Qbos:KdT:=kdN 0x1012230012223001222300122230020101223001222300201012230020101230101330000010 7 1 0
noncomputable def Qor:Ing:={m:=2,ins:=wnK,G:=Qi,T:=Q9u,hook:=Qop (Qd6 lgFs) Qbu,tab:=Qd6 lgFs,kb:=76,kt:=Qbos}
theorem Q9v:okLT 2 Qi Q9u=true:=by kernel_rfl
theorem Qbou:SegOk Tryd.prog Qa 103 (Qe (Qc Tryd.f44)) Qboy Qor Qbot:=
  ⟨Q9v,by kernel_rfl,fun F=>⟨fun f args v h hp=>Q92 rfl rfl Q9v F f args v h hp,fun f args hp v hp' h=>by simp only [Qor,cxOf,noMh,reduceCtorEq] at h,fun f k h=>by simp only [Qor,cxOf,reduceCtorEq] at h,fun k b h=>by simp only [Qor,cxOf,List.not_mem_nil] at h,fun f args hp v hp' h=>by simp only [Qor,cxOf,noMh,reduceCtorEq] at h⟩,rfl,by kernel_rfl,by kernel_rfl,rfl,rfl,fun _=>trivial,by kernel_rfl⟩
theorem Qfp {U:Sig} (e:Eqs U 2 Qi) (h:Pl U):U.i 2=((U.s 0).size:Nat)/\0<=U.i 1/\U.i 1<=U.i 2/\U.i 2<=1000000/\U.i 7=bAt (U.s 0) (U.i 1)/\0<=bAt (U.s 0) (U.i 1)/\bAt (U.s 0) (U.i 1)<256:=by
 have h2:U.i 2=_:=Qet (e.at 0 _ rfl rfl);have h7:U.i 7=_:=eqAt (e.at 5 _ rfl rfl) (show den U (.symi .i64 1)=.int .i64 (U.i 1) from rfl);have:=Qd (U.s 0) (U.i 1);have:=h.lo;have:=h.hi;have:=h.sz;rw [<-h2] at*;exact ⟨rfl,by omega,by omega,by omega,h7,by omega,by omega⟩
theorem yo3 {U:Sig} (e:Eqs U 2 Qi):(bI (U.b 3)=1/\(0:Int)<=U.i 1)\/(bI (U.b 3)=0/\ ¬(0:Int)<=U.i 1):=Qr (eqB (e.at 1 _ rfl rfl) rfl)
theorem yo4 {U:Sig} (e:Eqs U 2 Qi):(bI (U.b 4)=1/\U.i 1<=U.i 2)\/(bI (U.b 4)=0/\ ¬U.i 1<=U.i 2):=Qr (eqB (e.at 2 _ rfl rfl) rfl)
theorem yo5 {U:Sig} (e:Eqs U 2 Qi):(bI (U.b 5)=1/\U.i 2<=1000000)\/(bI (U.b 5)=0/\ ¬U.i 2<=1000000):=Qr (eqB (e.at 3 _ rfl rfl) rfl)
theorem yo6 {U:Sig} (e:Eqs U 2 Qi):(bI (U.b 6)=1/\U.i 1<U.i 2)\/(bI (U.b 6)=0/\ ¬U.i 1<U.i 2):=Qr (eqB (e.at 4 _ rfl rfl) rfl)
theorem yo9 {U:Sig} (e:Eqs U 2 Qi):U.i 9=(U.i 8+9223372036854775808)%18446744073709551616-9223372036854775808:=(eqI (e.at 7 _ rfl rfl) rfl).trans (Qh _)
theorem yo10 {U:Sig} (e:Eqs U 2 Qi):(bI (U.b 10)=1/\U.i 1>=U.i 2)\/(bI (U.b 10)=0/\ ¬U.i 1>=U.i 2):=Qr (eqB (e.at 8 _ rfl rfl) rfl)
theorem yo11 {U:Sig} (e:Eqs U 2 Qi):U.i 11=(U.i 2-U.i 1+9223372036854775808)%18446744073709551616-9223372036854775808:=(eqI (e.at 9 _ rfl rfl) rfl).trans (Qh _)
theorem yo12 {U:Sig} (e:Eqs U 2 Qi):(bI (U.b 12)=1/\U.i 11<1)\/(bI (U.b 12)=0/\ ¬U.i 11<1):=Qr (eqB (e.at 10 _ rfl rfl) rfl)
theorem yo14 {U:Sig} (e:Eqs U 2 Qi):U.i 14=(U.i 13)%18446744073709551616:=(eqI (e.at 12 _ rfl rfl) rfl).trans (Qg _)
theorem yo16 {U:Sig} (e:Eqs U 2 Qi):(bI (U.b 16)=1/\ ¬U.i 15=1)\/(bI (U.b 16)=0/\U.i 15=1):=ob_ne (eqB (e.at 14 _ rfl rfl) rfl)
theorem yo17 {U:Sig} (e:Eqs U 2 Qi):U.i 17=(U.i 1+1+9223372036854775808)%18446744073709551616-9223372036854775808:=(eqI (e.at 15 _ rfl rfl) rfl).trans (Qh _)
theorem yo18 {U:Sig} (e:Eqs U 2 Qi):(bI (U.b 18)=1/\U.i 11<2)\/(bI (U.b 18)=0/\ ¬U.i 11<2):=Qr (eqB (e.at 16 _ rfl rfl) rfl)
theorem yo19 {U:Sig} (e:Eqs U 2 Qi):U.i 19=(U.i 14*256)%18446744073709551616:=(eqI (e.at 17 _ rfl rfl) rfl).trans (Qg _)
theorem yo20 {U:Sig} (e:Eqs U 2 Qi):(bI (U.b 20)=1/\(0:Int)<=U.i 17)\/(bI (U.b 20)=0/\ ¬(0:Int)<=U.i 17):=Qr (eqB (e.at 18 _ rfl rfl) rfl)
theorem yo21 {U:Sig} (e:Eqs U 2 Qi):(bI (U.b 21)=1/\U.i 17<U.i 2)\/(bI (U.b 21)=0/\ ¬U.i 17<U.i 2):=Qr (eqB (e.at 19 _ rfl rfl) rfl)
theorem yo23 {U:Sig} (e:Eqs U 2 Qi):U.i 23=(U.i 22)%18446744073709551616:=(eqI (e.at 21 _ rfl rfl) rfl).trans (Qg _)
theorem yo24 {U:Sig} (e:Eqs U 2 Qi):U.i 24=(U.i 19+U.i 23)%18446744073709551616:=(eqI (e.at 22 _ rfl rfl) rfl).trans (Qg _)
theorem yo26 {U:Sig} (e:Eqs U 2 Qi):(bI (U.b 26)=1/\ ¬U.i 25=2)\/(bI (U.b 26)=0/\U.i 25=2):=ob_ne (eqB (e.at 24 _ rfl rfl) rfl)
theorem yo27 {U:Sig} (e:Eqs U 2 Qi):U.i 27=(U.i 1+2+9223372036854775808)%18446744073709551616-9223372036854775808:=(eqI (e.at 25 _ rfl rfl) rfl).trans (Qh _)
theorem yo28 {U:Sig} (e:Eqs U 2 Qi):(bI (U.b 28)=1/\U.i 11<4)\/(bI (U.b 28)=0/\ ¬U.i 11<4):=Qr (eqB (e.at 26 _ rfl rfl) rfl)
theorem yo29 {U:Sig} (e:Eqs U 2 Qi):U.i 29=(U.i 24*256)%18446744073709551616:=(eqI (e.at 27 _ rfl rfl) rfl).trans (Qg _)
theorem yo30 {U:Sig} (e:Eqs U 2 Qi):(bI (U.b 30)=1/\(0:Int)<=U.i 27)\/(bI (U.b 30)=0/\ ¬(0:Int)<=U.i 27):=Qr (eqB (e.at 28 _ rfl rfl) rfl)
theorem yo31 {U:Sig} (e:Eqs U 2 Qi):(bI (U.b 31)=1/\U.i 27<U.i 2)\/(bI (U.b 31)=0/\ ¬U.i 27<U.i 2):=Qr (eqB (e.at 29 _ rfl rfl) rfl)
theorem yo33 {U:Sig} (e:Eqs U 2 Qi):U.i 33=(U.i 32)%18446744073709551616:=(eqI (e.at 31 _ rfl rfl) rfl).trans (Qg _)
theorem yo34 {U:Sig} (e:Eqs U 2 Qi):U.i 34=(U.i 29+U.i 33)%18446744073709551616:=(eqI (e.at 32 _ rfl rfl) rfl).trans (Qg _)
theorem yo35 {U:Sig} (e:Eqs U 2 Qi):U.i 35=(U.i 34*256)%18446744073709551616:=(eqI (e.at 33 _ rfl rfl) rfl).trans (Qg _)
theorem yo36 {U:Sig} (e:Eqs U 2 Qi):U.i 36=(U.i 1+3+9223372036854775808)%18446744073709551616-9223372036854775808:=(eqI (e.at 34 _ rfl rfl) rfl).trans (Qh _)
theorem yo37 {U:Sig} (e:Eqs U 2 Qi):(bI (U.b 37)=1/\(0:Int)<=U.i 36)\/(bI (U.b 37)=0/\ ¬(0:Int)<=U.i 36):=Qr (eqB (e.at 35 _ rfl rfl) rfl)
theorem yo38 {U:Sig} (e:Eqs U 2 Qi):(bI (U.b 38)=1/\U.i 36<U.i 2)\/(bI (U.b 38)=0/\ ¬U.i 36<U.i 2):=Qr (eqB (e.at 36 _ rfl rfl) rfl)
theorem yo40 {U:Sig} (e:Eqs U 2 Qi):U.i 40=(U.i 39)%18446744073709551616:=(eqI (e.at 38 _ rfl rfl) rfl).trans (Qg _)
theorem yo41 {U:Sig} (e:Eqs U 2 Qi):U.i 41=(U.i 35+U.i 40)%18446744073709551616:=(eqI (e.at 39 _ rfl rfl) rfl).trans (Qg _)
theorem yo43 {U:Sig} (e:Eqs U 2 Qi):(bI (U.b 43)=1/\ ¬U.i 42=4)\/(bI (U.b 43)=0/\U.i 42=4):=ob_ne (eqB (e.at 41 _ rfl rfl) rfl)
theorem yo44 {U:Sig} (e:Eqs U 2 Qi):U.i 44=(U.i 1+4+9223372036854775808)%18446744073709551616-9223372036854775808:=(eqI (e.at 42 _ rfl rfl) rfl).trans (Qh _)
theorem yo45 {U:Sig} (e:Eqs U 2 Qi):(bI (U.b 45)=1/\U.i 11<8)\/(bI (U.b 45)=0/\ ¬U.i 11<8):=Qr (eqB (e.at 43 _ rfl rfl) rfl)
theorem yo46 {U:Sig} (e:Eqs U 2 Qi):U.i 46=(U.i 41*256)%18446744073709551616:=(eqI (e.at 44 _ rfl rfl) rfl).trans (Qg _)
theorem yo47 {U:Sig} (e:Eqs U 2 Qi):(bI (U.b 47)=1/\(0:Int)<=U.i 44)\/(bI (U.b 47)=0/\ ¬(0:Int)<=U.i 44):=Qr (eqB (e.at 45 _ rfl rfl) rfl)
theorem yo48 {U:Sig} (e:Eqs U 2 Qi):(bI (U.b 48)=1/\U.i 44<U.i 2)\/(bI (U.b 48)=0/\ ¬U.i 44<U.i 2):=Qr (eqB (e.at 46 _ rfl rfl) rfl)
theorem yo50 {U:Sig} (e:Eqs U 2 Qi):U.i 50=(U.i 49)%18446744073709551616:=(eqI (e.at 48 _ rfl rfl) rfl).trans (Qg _)
theorem yo51 {U:Sig} (e:Eqs U 2 Qi):U.i 51=(U.i 46+U.i 50)%18446744073709551616:=(eqI (e.at 49 _ rfl rfl) rfl).trans (Qg _)
theorem yo52 {U:Sig} (e:Eqs U 2 Qi):U.i 52=(U.i 51*256)%18446744073709551616:=(eqI (e.at 50 _ rfl rfl) rfl).trans (Qg _)
theorem yo53 {U:Sig} (e:Eqs U 2 Qi):U.i 53=(U.i 1+5+9223372036854775808)%18446744073709551616-9223372036854775808:=(eqI (e.at 51 _ rfl rfl) rfl).trans (Qh _)
theorem yo54 {U:Sig} (e:Eqs U 2 Qi):(bI (U.b 54)=1/\(0:Int)<=U.i 53)\/(bI (U.b 54)=0/\ ¬(0:Int)<=U.i 53):=Qr (eqB (e.at 52 _ rfl rfl) rfl)
theorem yo55 {U:Sig} (e:Eqs U 2 Qi):(bI (U.b 55)=1/\U.i 53<U.i 2)\/(bI (U.b 55)=0/\ ¬U.i 53<U.i 2):=Qr (eqB (e.at 53 _ rfl rfl) rfl)
theorem yo57 {U:Sig} (e:Eqs U 2 Qi):U.i 57=(U.i 56)%18446744073709551616:=(eqI (e.at 55 _ rfl rfl) rfl).trans (Qg _)
theorem yo58 {U:Sig} (e:Eqs U 2 Qi):U.i 58=(U.i 52+U.i 57)%18446744073709551616:=(eqI (e.at 56 _ rfl rfl) rfl).trans (Qg _)
theorem yo59 {U:Sig} (e:Eqs U 2 Qi):U.i 59=(U.i 58*256)%18446744073709551616:=(eqI (e.at 57 _ rfl rfl) rfl).trans (Qg _)
theorem yo60 {U:Sig} (e:Eqs U 2 Qi):U.i 60=(U.i 1+6+9223372036854775808)%18446744073709551616-9223372036854775808:=(eqI (e.at 58 _ rfl rfl) rfl).trans (Qh _)
theorem yo61 {U:Sig} (e:Eqs U 2 Qi):(bI (U.b 61)=1/\(0:Int)<=U.i 60)\/(bI (U.b 61)=0/\ ¬(0:Int)<=U.i 60):=Qr (eqB (e.at 59 _ rfl rfl) rfl)
theorem yo62 {U:Sig} (e:Eqs U 2 Qi):(bI (U.b 62)=1/\U.i 60<U.i 2)\/(bI (U.b 62)=0/\ ¬U.i 60<U.i 2):=Qr (eqB (e.at 60 _ rfl rfl) rfl)
theorem yo64 {U:Sig} (e:Eqs U 2 Qi):U.i 64=(U.i 63)%18446744073709551616:=(eqI (e.at 62 _ rfl rfl) rfl).trans (Qg _)
theorem yo65 {U:Sig} (e:Eqs U 2 Qi):U.i 65=(U.i 59+U.i 64)%18446744073709551616:=(eqI (e.at 63 _ rfl rfl) rfl).trans (Qg _)
theorem yo66 {U:Sig} (e:Eqs U 2 Qi):U.i 66=(U.i 65*256)%18446744073709551616:=(eqI (e.at 64 _ rfl rfl) rfl).trans (Qg _)
theorem yo67 {U:Sig} (e:Eqs U 2 Qi):U.i 67=(U.i 1+7+9223372036854775808)%18446744073709551616-9223372036854775808:=(eqI (e.at 65 _ rfl rfl) rfl).trans (Qh _)
theorem yo68 {U:Sig} (e:Eqs U 2 Qi):(bI (U.b 68)=1/\(0:Int)<=U.i 67)\/(bI (U.b 68)=0/\ ¬(0:Int)<=U.i 67):=Qr (eqB (e.at 66 _ rfl rfl) rfl)
theorem yo69 {U:Sig} (e:Eqs U 2 Qi):(bI (U.b 69)=1/\U.i 67<U.i 2)\/(bI (U.b 69)=0/\ ¬U.i 67<U.i 2):=Qr (eqB (e.at 67 _ rfl rfl) rfl)
theorem yo71 {U:Sig} (e:Eqs U 2 Qi):U.i 71=(U.i 70)%18446744073709551616:=(eqI (e.at 69 _ rfl rfl) rfl).trans (Qg _)
theorem yo72 {U:Sig} (e:Eqs U 2 Qi):U.i 72=(U.i 66+U.i 71)%18446744073709551616:=(eqI (e.at 70 _ rfl rfl) rfl).trans (Qg _)
theorem yo74 {U:Sig} (e:Eqs U 2 Qi):(bI (U.b 74)=1/\ ¬U.i 73=8)\/(bI (U.b 74)=0/\U.i 73=8):=ob_ne (eqB (e.at 72 _ rfl rfl) rfl)
theorem yo75 {U:Sig} (e:Eqs U 2 Qi):U.i 75=(U.i 1+8+9223372036854775808)%18446744073709551616-9223372036854775808:=(eqI (e.at 73 _ rfl rfl) rfl).trans (Qh _)
theorem yo8 {U:Sig} (e:Eqs U 2 Qi) (hp:Pl U) (ht:U.tab=Qa):U.i 8=U.i 7/64:=by
 have h:U.i 8=IntKind.u8.wrap ((U.i 7:Int).tdiv 64):=eqI (e.at 6 _ rfl rfl) rfl;have b:=Qfp e hp;rw [wr_u8,Int.tdiv_eq_ediv_of_nonneg (by omega)] at h;omega
theorem yo13 {U:Sig} (e:Eqs U 2 Qi) (hp:Pl U) (ht:U.tab=Qa):U.i 13=U.i 7%64:=by
 have h:U.i 13=((U.i 7:Int).tmod 64):=eqI (e.at 11 _ rfl rfl) rfl;have b:=Qfp e hp;rw [Int.tmod_eq_emod_of_nonneg (by omega)] at h;exact h
theorem yo15 {U:Sig} (e:Eqs U 2 Qi) (hp:Pl U) (ht:U.tab=Qa):(U.i 14<64/\U.i 15=1)\/(64<=U.i 14/\U.i 14<16384/\U.i 15=2)\/(16384<=U.i 14/\U.i 14<1073741824/\U.i 15=4)\/(1073741824<=U.i 14/\U.i 15=8):=by
 have h:U.i 15=IntKind.i64.wrap (U.tab 64 [U.i 14]):=eqI (e.at 13 _ rfl rfl) rfl;rw [ht,Qst,Qh] at h;have:=Qsl (U.i 14);omega
theorem yo22 {U:Sig} (e:Eqs U 2 Qi) (hp:Pl U) (ht:U.tab=Qa):U.i 22=bAt (U.s 0) (U.i 1+1)/\0<=U.i 22/\U.i 22<256:=by
 have h:U.i 22=bAt (U.s 0) (U.i 17):=eqAt (e.at 20 _ rfl rfl) (show den U (.symi .i64 17)=.int .i64 (U.i 17) from rfl);have b:=Qfp e hp;have q:=yo17 e;have w:=Qd (U.s 0) (U.i 1+1);rw [show U.i 17=U.i 1+1 by omega] at h;rw [h];exact ⟨rfl,w.1,w.2⟩
theorem yo25 {U:Sig} (e:Eqs U 2 Qi) (hp:Pl U) (ht:U.tab=Qa):(U.i 24<64/\U.i 25=1)\/(64<=U.i 24/\U.i 24<16384/\U.i 25=2)\/(16384<=U.i 24/\U.i 24<1073741824/\U.i 25=4)\/(1073741824<=U.i 24/\U.i 25=8):=by
 have h:U.i 25=IntKind.i64.wrap (U.tab 64 [U.i 24]):=eqI (e.at 23 _ rfl rfl) rfl;rw [ht,Qst,Qh] at h;have:=Qsl (U.i 24);omega
theorem yo32 {U:Sig} (e:Eqs U 2 Qi) (hp:Pl U) (ht:U.tab=Qa):U.i 32=bAt (U.s 0) (U.i 1+2)/\0<=U.i 32/\U.i 32<256:=by
 have h:U.i 32=bAt (U.s 0) (U.i 27):=eqAt (e.at 30 _ rfl rfl) (show den U (.symi .i64 27)=.int .i64 (U.i 27) from rfl);have b:=Qfp e hp;have q:=yo27 e;have w:=Qd (U.s 0) (U.i 1+2);rw [show U.i 27=U.i 1+2 by omega] at h;rw [h];exact ⟨rfl,w.1,w.2⟩
theorem yo39 {U:Sig} (e:Eqs U 2 Qi) (hp:Pl U) (ht:U.tab=Qa):U.i 39=bAt (U.s 0) (U.i 1+3)/\0<=U.i 39/\U.i 39<256:=by
 have h:U.i 39=bAt (U.s 0) (U.i 36):=eqAt (e.at 37 _ rfl rfl) (show den U (.symi .i64 36)=.int .i64 (U.i 36) from rfl);have b:=Qfp e hp;have q:=yo36 e;have w:=Qd (U.s 0) (U.i 1+3);rw [show U.i 36=U.i 1+3 by omega] at h;rw [h];exact ⟨rfl,w.1,w.2⟩
theorem yo42 {U:Sig} (e:Eqs U 2 Qi) (hp:Pl U) (ht:U.tab=Qa):(U.i 41<64/\U.i 42=1)\/(64<=U.i 41/\U.i 41<16384/\U.i 42=2)\/(16384<=U.i 41/\U.i 41<1073741824/\U.i 42=4)\/(1073741824<=U.i 41/\U.i 42=8):=by
 have h:U.i 42=IntKind.i64.wrap (U.tab 64 [U.i 41]):=eqI (e.at 40 _ rfl rfl) rfl;rw [ht,Qst,Qh] at h;have:=Qsl (U.i 41);omega
theorem yo49 {U:Sig} (e:Eqs U 2 Qi) (hp:Pl U) (ht:U.tab=Qa):U.i 49=bAt (U.s 0) (U.i 1+4)/\0<=U.i 49/\U.i 49<256:=by
 have h:U.i 49=bAt (U.s 0) (U.i 44):=eqAt (e.at 47 _ rfl rfl) (show den U (.symi .i64 44)=.int .i64 (U.i 44) from rfl);have b:=Qfp e hp;have q:=yo44 e;have w:=Qd (U.s 0) (U.i 1+4);rw [show U.i 44=U.i 1+4 by omega] at h;rw [h];exact ⟨rfl,w.1,w.2⟩
theorem yo56 {U:Sig} (e:Eqs U 2 Qi) (hp:Pl U) (ht:U.tab=Qa):U.i 56=bAt (U.s 0) (U.i 1+5)/\0<=U.i 56/\U.i 56<256:=by
 have h:U.i 56=bAt (U.s 0) (U.i 53):=eqAt (e.at 54 _ rfl rfl) (show den U (.symi .i64 53)=.int .i64 (U.i 53) from rfl);have b:=Qfp e hp;have q:=yo53 e;have w:=Qd (U.s 0) (U.i 1+5);rw [show U.i 53=U.i 1+5 by omega] at h;rw [h];exact ⟨rfl,w.1,w.2⟩
theorem yo63 {U:Sig} (e:Eqs U 2 Qi) (hp:Pl U) (ht:U.tab=Qa):U.i 63=bAt (U.s 0) (U.i 1+6)/\0<=U.i 63/\U.i 63<256:=by
 have h:U.i 63=bAt (U.s 0) (U.i 60):=eqAt (e.at 61 _ rfl rfl) (show den U (.symi .i64 60)=.int .i64 (U.i 60) from rfl);have b:=Qfp e hp;have q:=yo60 e;have w:=Qd (U.s 0) (U.i 1+6);rw [show U.i 60=U.i 1+6 by omega] at h;rw [h];exact ⟨rfl,w.1,w.2⟩
theorem yo70 {U:Sig} (e:Eqs U 2 Qi) (hp:Pl U) (ht:U.tab=Qa):U.i 70=bAt (U.s 0) (U.i 1+7)/\0<=U.i 70/\U.i 70<256:=by
 have h:U.i 70=bAt (U.s 0) (U.i 67):=eqAt (e.at 68 _ rfl rfl) (show den U (.symi .i64 67)=.int .i64 (U.i 67) from rfl);have b:=Qfp e hp;have q:=yo67 e;have w:=Qd (U.s 0) (U.i 1+7);rw [show U.i 67=U.i 1+7 by omega] at h;rw [h];exact ⟨rfl,w.1,w.2⟩
theorem yo73 {U:Sig} (e:Eqs U 2 Qi) (hp:Pl U) (ht:U.tab=Qa):(U.i 72<64/\U.i 73=1)\/(64<=U.i 72/\U.i 72<16384/\U.i 73=2)\/(16384<=U.i 72/\U.i 72<1073741824/\U.i 73=4)\/(1073741824<=U.i 72/\U.i 73=8):=by
 have h:U.i 73=IntKind.i64.wrap (U.tab 64 [U.i 72]):=eqI (e.at 71 _ rfl rfl) rfl;rw [ht,Qst,Qh] at h;have:=Qsl (U.i 72);omega
theorem E44 {g:Inj} {w:World} {U:Sig} {l:Asg} {hH:HRel (cx0 Qa) g sf44.pre w} {hg:g.sig.tab=Qa} (h:Qhw (asgS U l) g.sig [(3,.symi .u64 3),(0,.syms 0),(6,.symi .i64 6),(5,.symi .i64 5),(8,.symi .i64 8)]) (hx:U.ext=g.sig.ext):
  EndZ Qa 103 (Qu g w sf44.pre.length) (bodyPost Tryd.prog Tryd.f44 (MemR Qa sf44 g w)) .ret Qem (asgS U l):=
 Qb8 (M:=9) (vs:=[.symi .u64 3]) (by kernel_rfl) rfl rfl hH hg rfl rfl rfl (by kernel_rfl) (by kernel_rfl) h (Nat.le_refl _) hx (.inl rfl)
set_option maxHeartbeats 0 in
theorem wn44_contract:SymFOk Tryd.prog Qa (fun _=>True) sf44:=
  Qb5 Tryd.func44 rfl (n:=103) rfl (by decide) (by decide) rfl rfl (by kernel_rfl) (fun g w hg _ hE hI hpc hH=>by
    have hpg:Pl g.sig:=g_pl ⟨rfl,rfl⟩ hE hpc;refine Qf.last mixed Qbou ⟨rfl,rfl⟩ (fun V U ag h=>h.trans' ag) (fun U h=>Qv) (fun U e ht hi ag=> ?_) ?_
    . have hs0:AVal.str (U.s 0)=.str (g.sig.s 0):=by rw [(ag.val 0 (by decide)).2.2]
      have hs1:AVal.int .i64 (U.i 1)=.int .i64 (g.sig.i 1):=by rw [(ag.val 1 (by decide)).1]
      have hs1':g.sig.i 1=U.i 1:=(ag.val 1 (by decide)).1;have hx:U.ext=g.sig.ext:=ag.ext.symm;have hp:Pl U:=by
        have e1:=(ag.val 1 (by decide)).1;have e2:=(ag.val 0 (by decide)).2.2;exact ⟨by rw [<-e1];exact hpg.lo,by rw [<-e1,<-e2];exact hpg.hi,by rw [<-e2];exact hpg.sz⟩
      have gn:=Quh (e:=sf44) hg rfl hE;have gr:=Qui (e:=sf44) hg rfl hE;rw [(ag.val 1 (by decide)).1,(ag.val 0 (by decide)).2.2] at gn gr;have b:=Qfp e hp;refine Qp ?_;exact ⟨fun f0=>have p0:=ob_rT (yo3 e) f0;⟨fun f1=>have p1:=ob_rT (yo4 e) f1;⟨fun f2=>have p2:=ob_rT (yo5 e) f2;⟨fun f3=>have p3:=ob_rT (yo6 e) f3;⟨fun f4=>have q4:=yo9 e;⟨fun f5=>have p5:=ob_rT (yo10 e) f5;(by have:=yo8 e hp ht;have:=yo9 e;omega),
 fun f5=>have p5:=ob_rF (yo10 e) f5;⟨fun f6=>have p6:=ob_rT (yo12 e) f6;(by have:=yo8 e hp ht;have:=yo9 e;have:=yo11 e;omega),
 fun f6=>have p6:=ob_rF (yo12 e) f6;⟨fun f7=>have p7:=ob_rT (yo16 e) f7;(by have:=yo8 e hp ht;have:=yo9 e;have:=yo11 e;have:=yo13 e hp ht;have:=yo14 e;have:=yo15 e hp ht;omega),
 fun f7=>have p7:=ob_rF (yo16 e) f7;(by have:=yo8 e hp ht;have:=yo9 e;have:=yo11 e;have:=yo13 e hp ht;have:=yo14 e;have:=yo15 e hp ht;have hv:U.i 14=bAt (U.s 0) (U.i 1):=(by omega);have hL:numL (U.s 0) (U.i 1)=[U.i 14,1,0]:=(by unfold numL;(repeat (first|rw [if_pos (by omega)]|rw [if_neg (by omega)]));rw [show U.i 14=bAt (U.s 0) (U.i 1) by omega]);exact E44 (hH:=hH) (hg:=hg) ⟨(show AVal.int .u64 (U.i 14)=.int .u64 (g.sig.i 3) by rw [gn.1,hL];rfl),hs0,(show AVal.int .i64 (U.i 17)=.int .i64 (g.sig.i 6) by rw [gr.2.2.2.1 hpg,hL];simp only [List.getD_cons_zero,List.getD_cons_succ,hs1'];have:=yo17 e;exact congrArg _ (by omega)),(show AVal.int .i64 (0)=.int .i64 (g.sig.i 5) by rw [gn.2.2,hL];rfl),(show AVal.int .i64 (0)=.int .i64 (g.sig.i 8) by rw [gr.2.2.2.2,hL];simp only [List.getD_cons_zero,List.getD_cons_succ,hs1'];rfl),trivial⟩ hx)⟩⟩⟩,
 fun f4=>have q4:=yo9 e;⟨fun f5=>have q5:=yo9 e;⟨fun f6=>have p6:=ob_rT (yo10 e) f6;(by have:=yo8 e hp ht;have:=yo9 e;omega),
 fun f6=>have p6:=ob_rF (yo10 e) f6;⟨fun f7=>have p7:=ob_rT (yo18 e) f7;(by have:=yo8 e hp ht;have:=yo9 e;have:=yo11 e;have:=Qd (U.s 0) (U.i 1+1);have hL:numL (U.s 0) (U.i 1)=[0,0,3]:=(by unfold numL;(repeat (first|rw [if_pos (by omega)]|rw [if_neg (by omega)])));exact E44 (hH:=hH) (hg:=hg) ⟨(show AVal.int .u64 (0)=.int .u64 (g.sig.i 3) by rw [gn.1,hL];rfl),hs0,(show AVal.int .i64 (U.i 1)=.int .i64 (g.sig.i 6) by rw [gr.2.2.2.1 hpg,hL];simp only [List.getD_cons_zero,List.getD_cons_succ,hs1'];exact congrArg _ (by omega)),(show AVal.int .i64 (3)=.int .i64 (g.sig.i 5) by rw [gn.2.2,hL];rfl),(show AVal.int .i64 (U.i 1)=.int .i64 (g.sig.i 8) by rw [gr.2.2.2.2,hL];simp only [List.getD_cons_zero,List.getD_cons_succ,hs1'];rfl),trivial⟩ hx),
 fun f7=>have p7:=ob_rF (yo18 e) f7;⟨fun f8=>have p8:=ob_rT (yo20 e) f8;⟨fun f9=>have p9:=ob_rT (yo21 e) f9;⟨fun f10=>have p10:=ob_rT (yo26 e) f10;(by have:=yo8 e hp ht;have:=yo9 e;have:=yo11 e;have:=yo13 e hp ht;have:=yo14 e;have:=yo17 e;have:=yo19 e;have:=yo22 e hp ht;have:=yo23 e;have:=yo24 e;have:=yo25 e hp ht;have hv:U.i 24=((bAt (U.s 0) (U.i 1)-64)*256+bAt (U.s 0) (U.i 1+1)):=(by omega);have:=Qd (U.s 0) (U.i 1+1);have hL:numL (U.s 0) (U.i 1)=[0,0,5]:=(by unfold numL;(repeat (first|rw [if_pos (by omega)]|rw [if_neg (by omega)])));exact E44 (hH:=hH) (hg:=hg) ⟨(show AVal.int .u64 (0)=.int .u64 (g.sig.i 3) by rw [gn.1,hL];rfl),hs0,(show AVal.int .i64 (U.i 1)=.int .i64 (g.sig.i 6) by rw [gr.2.2.2.1 hpg,hL];simp only [List.getD_cons_zero,List.getD_cons_succ,hs1'];exact congrArg _ (by omega)),(show AVal.int .i64 (5)=.int .i64 (g.sig.i 5) by rw [gn.2.2,hL];rfl),(show AVal.int .i64 (U.i 1)=.int .i64 (g.sig.i 8) by rw [gr.2.2.2.2,hL];simp only [List.getD_cons_zero,List.getD_cons_succ,hs1'];rfl),trivial⟩ hx),
 fun f10=>have p10:=ob_rF (yo26 e) f10;(by have:=yo8 e hp ht;have:=yo9 e;have:=yo11 e;have:=yo13 e hp ht;have:=yo14 e;have:=yo17 e;have:=yo19 e;have:=yo22 e hp ht;have:=yo23 e;have:=yo24 e;have:=yo25 e hp ht;have hv:U.i 24=((bAt (U.s 0) (U.i 1)-64)*256+bAt (U.s 0) (U.i 1+1)):=(by omega);have:=Qd (U.s 0) (U.i 1+1);have hL:numL (U.s 0) (U.i 1)=[U.i 24,2,0]:=(by unfold numL;(repeat (first|rw [if_pos (by omega)]|rw [if_neg (by omega)]));rw [hv]);exact E44 (hH:=hH) (hg:=hg) ⟨(show AVal.int .u64 (U.i 24)=.int .u64 (g.sig.i 3) by rw [gn.1,hL];rfl),hs0,(show AVal.int .i64 (U.i 27)=.int .i64 (g.sig.i 6) by rw [gr.2.2.2.1 hpg,hL];simp only [List.getD_cons_zero,List.getD_cons_succ,hs1'];have:=yo27 e;exact congrArg _ (by omega)),(show AVal.int .i64 (0)=.int .i64 (g.sig.i 5) by rw [gn.2.2,hL];rfl),(show AVal.int .i64 (0)=.int .i64 (g.sig.i 8) by rw [gr.2.2.2.2,hL];simp only [List.getD_cons_zero,List.getD_cons_succ,hs1'];rfl),trivial⟩ hx)⟩,
 fun f9=>have p9:=ob_rF (yo21 e) f9;(by have:=yo8 e hp ht;have:=yo9 e;have:=yo11 e;have:=yo17 e;omega)⟩,
 fun f8=>have p8:=ob_rF (yo20 e) f8;(by have:=yo8 e hp ht;have:=yo9 e;have:=yo11 e;have:=yo17 e;omega)⟩⟩⟩,
 fun f5=>have q5:=yo9 e;⟨fun f6=>have q6:=yo9 e;⟨fun f7=>have p7:=ob_rT (yo10 e) f7;(by have:=yo8 e hp ht;have:=yo9 e;omega),
 fun f7=>have p7:=ob_rF (yo10 e) f7;⟨fun f8=>have p8:=ob_rT (yo28 e) f8;(by have:=yo8 e hp ht;have:=yo9 e;have:=yo11 e;have:=Qd (U.s 0) (U.i 1+1);have:=Qd (U.s 0) (U.i 1+2);have:=Qd (U.s 0) (U.i 1+3);have hL:numL (U.s 0) (U.i 1)=[0,0,3]:=(by unfold numL;(repeat (first|rw [if_pos (by omega)]|rw [if_neg (by omega)])));exact E44 (hH:=hH) (hg:=hg) ⟨(show AVal.int .u64 (0)=.int .u64 (g.sig.i 3) by rw [gn.1,hL];rfl),hs0,(show AVal.int .i64 (U.i 1)=.int .i64 (g.sig.i 6) by rw [gr.2.2.2.1 hpg,hL];simp only [List.getD_cons_zero,List.getD_cons_succ,hs1'];exact congrArg _ (by omega)),(show AVal.int .i64 (3)=.int .i64 (g.sig.i 5) by rw [gn.2.2,hL];rfl),(show AVal.int .i64 (U.i 1)=.int .i64 (g.sig.i 8) by rw [gr.2.2.2.2,hL];simp only [List.getD_cons_zero,List.getD_cons_succ,hs1'];rfl),trivial⟩ hx),
 fun f8=>have p8:=ob_rF (yo28 e) f8;⟨fun f9=>have p9:=ob_rT (yo20 e) f9;⟨fun f10=>have p10:=ob_rT (yo21 e) f10;⟨fun f11=>have p11:=ob_rT (yo30 e) f11;⟨fun f12=>have p12:=ob_rT (yo31 e) f12;⟨fun f13=>have p13:=ob_rT (yo37 e) f13;⟨fun f14=>have p14:=ob_rT (yo38 e) f14;⟨fun f15=>have p15:=ob_rT (yo43 e) f15;(by have:=yo8 e hp ht;have:=yo9 e;have:=yo11 e;have:=yo13 e hp ht;have:=yo14 e;have:=yo17 e;have:=yo19 e;have:=yo22 e hp ht;have:=yo23 e;have:=yo24 e;have:=yo27 e;have:=yo29 e;have:=yo32 e hp ht;have:=yo33 e;have:=yo34 e;have:=yo35 e;have:=yo36 e;have:=yo39 e hp ht;have:=yo40 e;have:=yo41 e;have:=yo42 e hp ht;have hv:U.i 41=((((bAt (U.s 0) (U.i 1)-128)*256+bAt (U.s 0) (U.i 1+1))*256+bAt (U.s 0) (U.i 1+2))*256+bAt (U.s 0) (U.i 1+3)):=(by omega);have:=Qd (U.s 0) (U.i 1+1);have:=Qd (U.s 0) (U.i 1+2);have:=Qd (U.s 0) (U.i 1+3);have hL:numL (U.s 0) (U.i 1)=[0,0,5]:=(by unfold numL;(repeat (first|rw [if_pos (by omega)]|rw [if_neg (by omega)])));exact E44 (hH:=hH) (hg:=hg) ⟨(show AVal.int .u64 (0)=.int .u64 (g.sig.i 3) by rw [gn.1,hL];rfl),hs0,(show AVal.int .i64 (U.i 1)=.int .i64 (g.sig.i 6) by rw [gr.2.2.2.1 hpg,hL];simp only [List.getD_cons_zero,List.getD_cons_succ,hs1'];exact congrArg _ (by omega)),(show AVal.int .i64 (5)=.int .i64 (g.sig.i 5) by rw [gn.2.2,hL];rfl),(show AVal.int .i64 (U.i 1)=.int .i64 (g.sig.i 8) by rw [gr.2.2.2.2,hL];simp only [List.getD_cons_zero,List.getD_cons_succ,hs1'];rfl),trivial⟩ hx),
 fun f15=>have p15:=ob_rF (yo43 e) f15;(by have:=yo8 e hp ht;have:=yo9 e;have:=yo11 e;have:=yo13 e hp ht;have:=yo14 e;have:=yo17 e;have:=yo19 e;have:=yo22 e hp ht;have:=yo23 e;have:=yo24 e;have:=yo27 e;have:=yo29 e;have:=yo32 e hp ht;have:=yo33 e;have:=yo34 e;have:=yo35 e;have:=yo36 e;have:=yo39 e hp ht;have:=yo40 e;have:=yo41 e;have:=yo42 e hp ht;have hv:U.i 41=((((bAt (U.s 0) (U.i 1)-128)*256+bAt (U.s 0) (U.i 1+1))*256+bAt (U.s 0) (U.i 1+2))*256+bAt (U.s 0) (U.i 1+3)):=(by omega);have:=Qd (U.s 0) (U.i 1+1);have:=Qd (U.s 0) (U.i 1+2);have:=Qd (U.s 0) (U.i 1+3);have hL:numL (U.s 0) (U.i 1)=[U.i 41,4,0]:=(by unfold numL;(repeat (first|rw [if_pos (by omega)]|rw [if_neg (by omega)]));rw [hv]);exact E44 (hH:=hH) (hg:=hg) ⟨(show AVal.int .u64 (U.i 41)=.int .u64 (g.sig.i 3) by rw [gn.1,hL];rfl),hs0,(show AVal.int .i64 (U.i 44)=.int .i64 (g.sig.i 6) by rw [gr.2.2.2.1 hpg,hL];simp only [List.getD_cons_zero,List.getD_cons_succ,hs1'];have:=yo44 e;exact congrArg _ (by omega)),(show AVal.int .i64 (0)=.int .i64 (g.sig.i 5) by rw [gn.2.2,hL];rfl),(show AVal.int .i64 (0)=.int .i64 (g.sig.i 8) by rw [gr.2.2.2.2,hL];simp only [List.getD_cons_zero,List.getD_cons_succ,hs1'];rfl),trivial⟩ hx)⟩,
 fun f14=>have p14:=ob_rF (yo38 e) f14;(by have:=yo8 e hp ht;have:=yo9 e;have:=yo11 e;have:=yo17 e;have:=yo27 e;have:=yo36 e;omega)⟩,
 fun f13=>have p13:=ob_rF (yo37 e) f13;(by have:=yo8 e hp ht;have:=yo9 e;have:=yo11 e;have:=yo17 e;have:=yo27 e;have:=yo36 e;omega)⟩,
 fun f12=>have p12:=ob_rF (yo31 e) f12;(by have:=yo8 e hp ht;have:=yo9 e;have:=yo11 e;have:=yo17 e;have:=yo27 e;omega)⟩,
 fun f11=>have p11:=ob_rF (yo30 e) f11;(by have:=yo8 e hp ht;have:=yo9 e;have:=yo11 e;have:=yo17 e;have:=yo27 e;omega)⟩,
 fun f10=>have p10:=ob_rF (yo21 e) f10;(by have:=yo8 e hp ht;have:=yo9 e;have:=yo11 e;have:=yo17 e;omega)⟩,
 fun f9=>have p9:=ob_rF (yo20 e) f9;(by have:=yo8 e hp ht;have:=yo9 e;have:=yo11 e;have:=yo17 e;omega)⟩⟩⟩,
 fun f6=>have q6:=yo9 e;⟨fun f7=>have q7:=yo9 e;⟨fun f8=>have p8:=ob_rT (yo10 e) f8;(by have:=yo8 e hp ht;have:=yo9 e;omega),
 fun f8=>have p8:=ob_rF (yo10 e) f8;⟨fun f9=>have p9:=ob_rT (yo45 e) f9;(by have:=yo8 e hp ht;have:=yo9 e;have:=yo11 e;have:=Qd (U.s 0) (U.i 1+1);have:=Qd (U.s 0) (U.i 1+2);have:=Qd (U.s 0) (U.i 1+3);have:=Qd (U.s 0) (U.i 1+4);have:=Qd (U.s 0) (U.i 1+5);have:=Qd (U.s 0) (U.i 1+6);have:=Qd (U.s 0) (U.i 1+7);have hL:numL (U.s 0) (U.i 1)=[0,0,3]:=(by unfold numL;(repeat (first|rw [if_pos (by omega)]|rw [if_neg (by omega)])));exact E44 (hH:=hH) (hg:=hg) ⟨(show AVal.int .u64 (0)=.int .u64 (g.sig.i 3) by rw [gn.1,hL];rfl),hs0,(show AVal.int .i64 (U.i 1)=.int .i64 (g.sig.i 6) by rw [gr.2.2.2.1 hpg,hL];simp only [List.getD_cons_zero,List.getD_cons_succ,hs1'];exact congrArg _ (by omega)),(show AVal.int .i64 (3)=.int .i64 (g.sig.i 5) by rw [gn.2.2,hL];rfl),(show AVal.int .i64 (U.i 1)=.int .i64 (g.sig.i 8) by rw [gr.2.2.2.2,hL];simp only [List.getD_cons_zero,List.getD_cons_succ,hs1'];rfl),trivial⟩ hx),
 fun f9=>have p9:=ob_rF (yo45 e) f9;⟨fun f10=>have p10:=ob_rT (yo20 e) f10;⟨fun f11=>have p11:=ob_rT (yo21 e) f11;⟨fun f12=>have p12:=ob_rT (yo30 e) f12;⟨fun f13=>have p13:=ob_rT (yo31 e) f13;⟨fun f14=>have p14:=ob_rT (yo37 e) f14;⟨fun f15=>have p15:=ob_rT (yo38 e) f15;⟨fun f16=>have p16:=ob_rT (yo47 e) f16;⟨fun f17=>have p17:=ob_rT (yo48 e) f17;⟨fun f18=>have p18:=ob_rT (yo54 e) f18;⟨fun f19=>have p19:=ob_rT (yo55 e) f19;⟨fun f20=>have p20:=ob_rT (yo61 e) f20;⟨fun f21=>have p21:=ob_rT (yo62 e) f21;⟨fun f22=>have p22:=ob_rT (yo68 e) f22;⟨fun f23=>have p23:=ob_rT (yo69 e) f23;⟨fun f24=>have p24:=ob_rT (yo74 e) f24;(by have:=yo8 e hp ht;have:=yo9 e;have:=yo11 e;have:=yo13 e hp ht;have:=yo14 e;have:=yo17 e;have:=yo19 e;have:=yo22 e hp ht;have:=yo23 e;have:=yo24 e;have:=yo27 e;have:=yo29 e;have:=yo32 e hp ht;have:=yo33 e;have:=yo34 e;have:=yo35 e;have:=yo36 e;have:=yo39 e hp ht;have:=yo40 e;have:=yo41 e;have:=yo44 e;have:=yo46 e;have:=yo49 e hp ht;have:=yo50 e;have:=yo51 e;have:=yo52 e;have:=yo53 e;have:=yo56 e hp ht;have:=yo57 e;have:=yo58 e;have:=yo59 e;have:=yo60 e;have:=yo63 e hp ht;have:=yo64 e;have:=yo65 e;have:=yo66 e;have:=yo67 e;have:=yo70 e hp ht;have:=yo71 e;have:=yo72 e;have:=yo73 e hp ht;have hv:U.i 72=((((((((bAt (U.s 0) (U.i 1)-192)*256+bAt (U.s 0) (U.i 1+1))*256+bAt (U.s 0) (U.i 1+2))*256+bAt (U.s 0) (U.i 1+3))*256+bAt (U.s 0) (U.i 1+4))*256+bAt (U.s 0) (U.i 1+5))*256+bAt (U.s 0) (U.i 1+6))*256+bAt (U.s 0) (U.i 1+7)):=(by omega);have:=Qd (U.s 0) (U.i 1+1);have:=Qd (U.s 0) (U.i 1+2);have:=Qd (U.s 0) (U.i 1+3);have:=Qd (U.s 0) (U.i 1+4);have:=Qd (U.s 0) (U.i 1+5);have:=Qd (U.s 0) (U.i 1+6);have:=Qd (U.s 0) (U.i 1+7);have hL:numL (U.s 0) (U.i 1)=[0,0,5]:=(by unfold numL;(repeat (first|rw [if_pos (by omega)]|rw [if_neg (by omega)])));exact E44 (hH:=hH) (hg:=hg) ⟨(show AVal.int .u64 (0)=.int .u64 (g.sig.i 3) by rw [gn.1,hL];rfl),hs0,(show AVal.int .i64 (U.i 1)=.int .i64 (g.sig.i 6) by rw [gr.2.2.2.1 hpg,hL];simp only [List.getD_cons_zero,List.getD_cons_succ,hs1'];exact congrArg _ (by omega)),(show AVal.int .i64 (5)=.int .i64 (g.sig.i 5) by rw [gn.2.2,hL];rfl),(show AVal.int .i64 (U.i 1)=.int .i64 (g.sig.i 8) by rw [gr.2.2.2.2,hL];simp only [List.getD_cons_zero,List.getD_cons_succ,hs1'];rfl),trivial⟩ hx),
 fun f24=>have p24:=ob_rF (yo74 e) f24;(by have:=yo8 e hp ht;have:=yo9 e;have:=yo11 e;have:=yo13 e hp ht;have:=yo14 e;have:=yo17 e;have:=yo19 e;have:=yo22 e hp ht;have:=yo23 e;have:=yo24 e;have:=yo27 e;have:=yo29 e;have:=yo32 e hp ht;have:=yo33 e;have:=yo34 e;have:=yo35 e;have:=yo36 e;have:=yo39 e hp ht;have:=yo40 e;have:=yo41 e;have:=yo44 e;have:=yo46 e;have:=yo49 e hp ht;have:=yo50 e;have:=yo51 e;have:=yo52 e;have:=yo53 e;have:=yo56 e hp ht;have:=yo57 e;have:=yo58 e;have:=yo59 e;have:=yo60 e;have:=yo63 e hp ht;have:=yo64 e;have:=yo65 e;have:=yo66 e;have:=yo67 e;have:=yo70 e hp ht;have:=yo71 e;have:=yo72 e;have:=yo73 e hp ht;have hv:U.i 72=((((((((bAt (U.s 0) (U.i 1)-192)*256+bAt (U.s 0) (U.i 1+1))*256+bAt (U.s 0) (U.i 1+2))*256+bAt (U.s 0) (U.i 1+3))*256+bAt (U.s 0) (U.i 1+4))*256+bAt (U.s 0) (U.i 1+5))*256+bAt (U.s 0) (U.i 1+6))*256+bAt (U.s 0) (U.i 1+7)):=(by omega);have:=Qd (U.s 0) (U.i 1+1);have:=Qd (U.s 0) (U.i 1+2);have:=Qd (U.s 0) (U.i 1+3);have:=Qd (U.s 0) (U.i 1+4);have:=Qd (U.s 0) (U.i 1+5);have:=Qd (U.s 0) (U.i 1+6);have:=Qd (U.s 0) (U.i 1+7);have hL:numL (U.s 0) (U.i 1)=[U.i 72,8,0]:=(by unfold numL;(repeat (first|rw [if_pos (by omega)]|rw [if_neg (by omega)]));rw [hv]);exact E44 (hH:=hH) (hg:=hg) ⟨(show AVal.int .u64 (U.i 72)=.int .u64 (g.sig.i 3) by rw [gn.1,hL];rfl),hs0,(show AVal.int .i64 (U.i 75)=.int .i64 (g.sig.i 6) by rw [gr.2.2.2.1 hpg,hL];simp only [List.getD_cons_zero,List.getD_cons_succ,hs1'];have:=yo75 e;exact congrArg _ (by omega)),(show AVal.int .i64 (0)=.int .i64 (g.sig.i 5) by rw [gn.2.2,hL];rfl),(show AVal.int .i64 (0)=.int .i64 (g.sig.i 8) by rw [gr.2.2.2.2,hL];simp only [List.getD_cons_zero,List.getD_cons_succ,hs1'];rfl),trivial⟩ hx)⟩,
 fun f23=>have p23:=ob_rF (yo69 e) f23;(by have:=yo8 e hp ht;have:=yo9 e;have:=yo11 e;have:=yo17 e;have:=yo27 e;have:=yo36 e;have:=yo44 e;have:=yo53 e;have:=yo60 e;have:=yo67 e;omega)⟩,
 fun f22=>have p22:=ob_rF (yo68 e) f22;(by have:=yo8 e hp ht;have:=yo9 e;have:=yo11 e;have:=yo17 e;have:=yo27 e;have:=yo36 e;have:=yo44 e;have:=yo53 e;have:=yo60 e;have:=yo67 e;omega)⟩,
 fun f21=>have p21:=ob_rF (yo62 e) f21;(by have:=yo8 e hp ht;have:=yo9 e;have:=yo11 e;have:=yo17 e;have:=yo27 e;have:=yo36 e;have:=yo44 e;have:=yo53 e;have:=yo60 e;omega)⟩,
 fun f20=>have p20:=ob_rF (yo61 e) f20;(by have:=yo8 e hp ht;have:=yo9 e;have:=yo11 e;have:=yo17 e;have:=yo27 e;have:=yo36 e;have:=yo44 e;have:=yo53 e;have:=yo60 e;omega)⟩,
 fun f19=>have p19:=ob_rF (yo55 e) f19;(by have:=yo8 e hp ht;have:=yo9 e;have:=yo11 e;have:=yo17 e;have:=yo27 e;have:=yo36 e;have:=yo44 e;have:=yo53 e;omega)⟩,
 fun f18=>have p18:=ob_rF (yo54 e) f18;(by have:=yo8 e hp ht;have:=yo9 e;have:=yo11 e;have:=yo17 e;have:=yo27 e;have:=yo36 e;have:=yo44 e;have:=yo53 e;omega)⟩,
 fun f17=>have p17:=ob_rF (yo48 e) f17;(by have:=yo8 e hp ht;have:=yo9 e;have:=yo11 e;have:=yo17 e;have:=yo27 e;have:=yo36 e;have:=yo44 e;omega)⟩,
 fun f16=>have p16:=ob_rF (yo47 e) f16;(by have:=yo8 e hp ht;have:=yo9 e;have:=yo11 e;have:=yo17 e;have:=yo27 e;have:=yo36 e;have:=yo44 e;omega)⟩,
 fun f15=>have p15:=ob_rF (yo38 e) f15;(by have:=yo8 e hp ht;have:=yo9 e;have:=yo11 e;have:=yo17 e;have:=yo27 e;have:=yo36 e;omega)⟩,
 fun f14=>have p14:=ob_rF (yo37 e) f14;(by have:=yo8 e hp ht;have:=yo9 e;have:=yo11 e;have:=yo17 e;have:=yo27 e;have:=yo36 e;omega)⟩,
 fun f13=>have p13:=ob_rF (yo31 e) f13;(by have:=yo8 e hp ht;have:=yo9 e;have:=yo11 e;have:=yo17 e;have:=yo27 e;omega)⟩,
 fun f12=>have p12:=ob_rF (yo30 e) f12;(by have:=yo8 e hp ht;have:=yo9 e;have:=yo11 e;have:=yo17 e;have:=yo27 e;omega)⟩,
 fun f11=>have p11:=ob_rF (yo21 e) f11;(by have:=yo8 e hp ht;have:=yo9 e;have:=yo11 e;have:=yo17 e;omega)⟩,
 fun f10=>have p10:=ob_rF (yo20 e) f10;(by have:=yo8 e hp ht;have:=yo9 e;have:=yo11 e;have:=yo17 e;omega)⟩⟩⟩,
 fun f7=>have q7:=yo9 e;(by have:=yo8 e hp ht;have:=yo9 e;omega)⟩⟩⟩⟩,
 fun f3=>have p3:=ob_rF (yo6 e) f3;⟨fun f4=>have p4:=ob_rT (yo10 e) f4;(by have:=yo8 e hp ht;have:=yo9 e;have hL:numL (U.s 0) (U.i 1)=[0,0,3]:=(by unfold numL;(repeat (first|rw [if_pos (by omega)]|rw [if_neg (by omega)])));exact E44 (hH:=hH) (hg:=hg) ⟨(show AVal.int .u64 (0)=.int .u64 (g.sig.i 3) by rw [gn.1,hL];rfl),hs0,(show AVal.int .i64 (U.i 1)=.int .i64 (g.sig.i 6) by rw [gr.2.2.2.1 hpg,hL];simp only [List.getD_cons_zero,List.getD_cons_succ,hs1'];exact congrArg _ (by omega)),(show AVal.int .i64 (3)=.int .i64 (g.sig.i 5) by rw [gn.2.2,hL];rfl),(show AVal.int .i64 (U.i 1)=.int .i64 (g.sig.i 8) by rw [gr.2.2.2.2,hL];simp only [List.getD_cons_zero,List.getD_cons_succ,hs1'];rfl),trivial⟩ hx),
 fun f4=>have p4:=ob_rF (yo10 e) f4;(by have:=yo8 e hp ht;have:=yo9 e;omega)⟩⟩,
 fun f2=>have p2:=ob_rF (yo5 e) f2;(by have:=yo8 e hp ht;have:=yo9 e;omega)⟩,
 fun f1=>have p1:=ob_rF (yo4 e) f1;(by have:=yo8 e hp ht;have:=yo9 e;omega)⟩,
 fun f0=>have p0:=ob_rF (yo3 e) f0;(by have:=yo8 e hp ht;have:=yo9 e;omega)⟩
    . exact pin0 (by kernel_rfl))
end Go.Proofs.YtelimhjceiamcaaDoor.lgn
namespace Go.Proofs.YtelimhjceiamcaaDoor.lgn
open Go.Ev Go.RowKit Go.Wbp Go.Lgp
theorem Qbdg {tab:TabF} {g:Inj} {c c':List AVal} {e:TypeId} {w:World} (hl:c'.length=c.length) (hd:c'.map (den g.sig)=c.map (den g.sig)) (h:HRel (cx0 tab) g [.cells c e] w):HRel (cx0 tab) g [.cells c' e] w:=by
 have lv: ∀i,Live [.cells c' e] i->Live [.cells c e] i:=by
  intro i ⟨k,hk,hg⟩
  match i with
  |0=>exact ⟨_,rfl,by simp⟩
  |i+1=>simp at hk
 refine ⟨fun i L hi=> ?_,fun i j L M hi hj he h1 h2=>h.inj i j L M hi hj he (lv i h1) (lv j h2),fun i k hi hk=> ?_,h.glob,h.sig,h.frz.to rfl rfl (by simp) (Nat.le_refl _) fun b hb hn=>⟨rfl,fun j L hj hL=>hn j L hj (lv j hL)⟩⟩;have:=h.dom i L hi;simpa using this
 match i with
 |0=>
  cases hi;obtain ⟨L,hL,C,fr,h1,h2,h3,h4,h5⟩:=h.blk 0 _ rfl (by simp);refine .inr ⟨L,hL,C,fr,h1,h2,h3,by rw [hl];exact h4,fun i a ha=> ?_⟩;have hi:(c.map (den g.sig))[i]? =some (den g.sig a):=by rw [<-hd,List.getElem?_map,ha];rfl
  rw [List.getElem?_map] at hi;cases hc:c[i]? with
  |none=>rw [hc] at hi;cases hi
  |some b=>
   rw [hc] at hi;obtain ⟨v,hv,hr,h1⟩:=h5 i b hc;refine ⟨v,hv,?_,h1⟩;rw [<-Qn,<-Option.some.inj hi,Qn];exact hr
 |i+1=>simp at hi
def sf44g:SymF:=
 {Qim 44 [.ptr 0 0] [wnRf (.z 0) (.z 0)] (.u 3) [.cells [.s 0,.i 6,.z 0,.z 0] 97] with pcs:=[.q .leq (.z 0) (.i 1),.q .leq (.i 1) (.i 2),.q .leq (.i 2) (.z 1000000),.q .eql (.i 5) (.z 0)]}
theorem wn44g_contract:SymFOk Tryd.prog Qa (fun _=>True) sf44g where
 len:=by decide
 cpre:=rfl
 cpost:=rfl
 ok:=wn44_contract.ok
 call:=fun g args' w ht hi hE hI hp hH hL=>by
  have h5:g.sig.i 5=0:=by
   have:=hp (.bin .eql (.symi .i64 5) (.int .i64 0)) (by simp [sf44g]);simpa [Qb,den,binS,intA] using this
  have gr:=(Qui (e:=sf44) ht rfl hE).2.2;have h8:g.sig.i 8=0:=by rw [gr.2.2,if_pos (by rw [<-gr.1];exact h5)]
  refine (wn44_contract.call g args' w ht hi hE hI (fun d hd=>hp d (by
   simp only [sf44,Qim,sf44g,List.mem_cons,List.not_mem_nil,or_false] at hd⊢;rcases hd with h|h|h<;>simp [h])) hH hL).mono fun en w' h=> ?_
  obtain ⟨u,g1,h1,h2,h3,h4,h6⟩:=h;exact ⟨u,g1,h1,h2,h3,Qbdg (by rfl) (by simp only [List.map,den,h2,h5,h8]) h4,h6⟩
end Go.Proofs.YtelimhjceiamcaaDoor.lgn
