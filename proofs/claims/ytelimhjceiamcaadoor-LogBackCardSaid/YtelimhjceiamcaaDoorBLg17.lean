/-
 Contract of log.Right: may a log be?
 No conditions.
-/
import Derived.Test.YtelimhjceiamcaaDoorBLg20
import Derived.Test.YtelimhjceiamcaaDoorBLgq
set_option maxRecDepth 100000
namespace Go.Proofs.YtelimhjceiamcaaDoor.lg
open Go.Ev Go.RowKit Go.Wbp Go.Lgp
open Go.Proofs.YtelimhjceiamcaaDoor.lgn (mixed sf48 Qda)
set_option linter.unusedVariables false
set_option linter.unusedSimpArgs false
def eL (s n:Nat):Blk:=.lst (.syms s) (.symi .i64 n) cl4 0
def eS:AVal:=.lsl 0 4 false (.int .i64 0) (.symi .i64 1)
def lgA:AVal:=.agg [.symi .u32 0,eS,.symi .i64 2,.symi .u64 3,.symi .u64 4,.symi .i64 5]
def lgC:List AVal:=[.symi .u32 0,eS,.symi .i64 2,.symi .u64 3,.symi .u64 4,.symi .i64 5]
def lgF:List AVal:=[.symi .u32 0,.syms 6,.symi .i64 1,.symi .i64 2,.symi .u64 3,.symi .u64 4,.symi .i64 5]
def lgK:List (Option IntKind):=[some .u32,some .i64,some .i64,some .u64,some .u64,some .i64,none,some .i64]
def lgQ:List SDef:=[.bin .leq (.int .i64 0) (.symi .i64 1),.bin .leq (.symi .i64 1) (.symi .i64 7),.bin .leq (.symi .i64 7) (.int .i64 1000000)]
def Qbet:Shape:=⟨argT 0 [lgA],[eL 6 7]⟩
def Qhu:Shape:=⟨[(1,.ptr 1 0),(3,.ptr 2 0),(8,eS),(9,.symi .i64 1),(10,.symi .i64 8)],[eL 6 7,.cells lgC 26,.cells [.symi .u64 9,.symi .u64 10,.symi .i64 11,.symi .u8 12] 61]⟩
def Qpv:List (Option IntKind):=lgK++[some .i64,some .u64,some .u64,some .i64,some .u8]
def Qjd:Shape:=⟨[(2,.symb 8),(8,eS)],[eL 6 7]⟩
def sf17:SymF:=
 {f:=17,m:=8,ins:=lgK,args:=[lgA],pre:=[eL 6 7],pcs:=lgQ,G:=[.fnb 448 lgF],v:=.symb 8,post:=[eL 6 7]}
def Qt9:List SDef:=[]
def Q1j:LT:=.e
def Qbbx:Sw:=.run (.leaf .normal Qhu [(0,0),(1,0),(2,0)] [(1,.symi .i64 1),(1,.symi .i64 1),(8,.int .i64 0),(6,.syms 6),(7,.symi .i64 7),(0,.symi .u32 0),(1,.symi .i64 1),(2,.symi .i64 2),(3,.symi .u64 3),(4,.symi .u64 4),(5,.symi .i64 5),(9,.int .u64 0),(10,.int .u64 0),(11,.int .i64 (-1)),(12,.int .u8 0)] [])
def Qbbw:KdT:=.n (.n (.n (.n .e (some .i64) .e) (some .u64) .e) (some .i64) (.n .e (some .i64) .e)) (some .u32) (.n (.n .e (some .u64) .e) (some .i64) (.n .e none .e))
noncomputable def Q1k:Ing:={m:=8,ins:=lgK,G:=Qt9,T:=Q1j,tab:=Qa,lsts:=Qt,kb:=8,kt:=Qbbw}
theorem Qbby:okLT 8 Qt9 Q1j=true:=by kernel_rfl
theorem Qbbz:okG Qt9 8=true:=by kernel_rfl
theorem Qbb0:SegOk Tryd.prog Qa 39 ((Qe (Qc Tryd.f17)).take 3) Qbet Q1k Qbbx where
 lt:=Qbby
 ok:=Qbbz
 hook:=fun F=>Qcb rfl F
 n0:=rfl
 id:=by kernel_rfl
 reck:=by kernel_rfl
 tab:=rfl
 cuts:=rfl
 kt:=by kernel_rfl
def Qpe:List SDef:=[.bin .lss (.symi .i64 8) (.symi .i64 1),
 .bin .lss (.symi .i64 8) (.symi .i64 7),
 .bin .leq (.int .i64 0) (.symi .i64 8),
 .sop (.cell [.some .u64,.some .u64,.some .i64,.some .u8] 0) [.syms 6,.symi .i64 8],
 .sop (.cell [.some .u64,.some .u64,.some .i64,.some .u8] 1) [.syms 6,.symi .i64 8],
 .sop (.cell [.some .u64,.some .u64,.some .i64,.some .u8] 2) [.syms 6,.symi .i64 8],
 .sop (.cell [.some .u64,.some .u64,.some .i64,.some .u8] 3) [.syms 6,.symi .i64 8],
 .bin .geq (.symi .i64 18) (.int .i64 0),
 .bin .leq (.symi .i64 18) (.int .i64 2),
 .ite (.symb 20) (.symb 21) (.bool false),
 .un .not (.symb 22),
 .bin .gtr (.symi .u64 16) (.int .u64 1099511627776),
 .bin .gtr (.symi .u64 17) (.symi .u64 16),
 .bin .lss (.symi .u64 17) (.symi .u64 10),
 .bin .eql (.symi .i64 18) (.int .i64 255),
 .bin .geq (.symi .u64 16) (.symi .u64 9),
 .bin .eql (.symi .u64 16) (.symi .u64 9),
 .bin .gtr (.symi .i64 18) (.symi .i64 11),
 .bin .eql (.symi .u64 17) (.symi .u64 10),
 .ite (.symb 30) (.symb 31) (.bool false),
 .bin .gtr (.symi .u64 16) (.symi .u64 9),
 .ite (.symb 29) (.symb 32) (.symb 33),
 .ite (.symb 27) (.symb 28) (.symb 34),
 .ite (.symb 26) (.bool false) (.symb 35),
 .ite (.symb 25) (.bool false) (.symb 36),
 .ite (.symb 24) (.bool false) (.symb 37),
 .un .not (.symb 38),
 .bin .add (.symi .i64 8) (.int .i64 1)]
def Q1l:LT:=Go.Wbp.fT 13 Qpe (.n (.n (.n (.n (.n .e 74590398 23 .e) 77644597 13 (.n .e 174532157 35 .e)) 199360065 32 (.n (.n .e 226216113 30 .e) 309363675 36 (.n .e 321364071 37 .e))) 333364467 38 (.n (.n (.n .e 388565923 24 .e) 411250150 29 (.n .e 411250178 33 .e)) 411250185 28 (.n (.n .e 540490506 22 .e) 542408004 16 .e))) 542408006 17 (.n (.n (.n (.n .e 542408008 18 .e) 542408010 19 (.n .e 599375197 15 .e)) 616901899 39 (.n (.n .e 744274056 20 .e) 744374112 21 .e)) 757032946 27 (.n (.n (.n .e 768241873 25 .e) 808062776 40 (.n .e 855604031 31 .e)) 855604045 26 (.n (.n .e 897556016 34 .e) 1064024238 14 .e))))
def Qbb2:Sw:=.node 13 (.node 14 (.node 15 (.run (.node 23 (.leaf .ret Qjd [(0,0)] [(8,.bool false),(1,.symi .i64 1),(6,.syms 6),(7,.symi .i64 7)] []) (.node 39 (.leaf .ret Qjd [(0,0)] [(8,.bool false),(1,.symi .i64 1),(6,.syms 6),(7,.symi .i64 7)] []) (.leaf .normal Qhu [(0,0),(1,0),(2,0)] [(1,.symi .i64 1),(1,.symi .i64 1),(8,.symi .i64 40),(6,.syms 6),(7,.symi .i64 7),(0,.symi .u32 0),(1,.symi .i64 1),(2,.symi .i64 2),(3,.symi .u64 3),(4,.symi .u64 4),(5,.symi .i64 5),(9,.symi .u64 16),(10,.symi .u64 17),(11,.symi .i64 18),(12,.symi .u8 19)] [])))) (.dead)) (.dead)) (.run (.leaf (.exit 0) Qhu [(0,0),(1,0),(2,0)] [(1,.symi .i64 1),(1,.symi .i64 1),(8,.symi .i64 8),(6,.syms 6),(7,.symi .i64 7),(0,.symi .u32 0),(1,.symi .i64 1),(2,.symi .i64 2),(3,.symi .u64 3),(4,.symi .u64 4),(5,.symi .i64 5),(9,.symi .u64 9),(10,.symi .u64 10),(11,.symi .i64 11),(12,.symi .u8 12)] []))
def Qbb1:KdT:=.n (.n (.n (.n (.n (.n .e none .e) none .e) (some .i64) (.n (.n .e none .e) none .e)) (some .u64) (.n (.n (.n .e none .e) (some .u8) .e) (some .i64) (.n .e none .e))) (some .i64) (.n (.n (.n (.n .e none .e) (some .u64) .e) (some .u64) (.n .e none .e)) (some .i64) (.n (.n (.n .e none .e) none .e) none (.n .e none .e)))) (some .u32) (.n (.n (.n (.n (.n .e none .e) (some .u64) .e) (some .i64) (.n (.n .e (some .i64) .e) none .e)) (some .u64) (.n (.n (.n .e none .e) none .e) (some .u8) (.n .e none .e))) (some .i64) (.n (.n (.n (.n .e none .e) (some .i64) .e) (some .u64) (.n .e none .e)) none (.n (.n (.n .e none .e) none .e) none (.n .e none .e))))
noncomputable def Qua:Ing:={m:=13,ins:=Qpv,G:=Qpe,T:=Q1l,tab:=Qa,lsts:=Qt,kb:=41,kt:=Qbb1}
theorem Qbb3:okLT 13 Qpe Q1l=true:=by kernel_rfl
theorem Qbb4:okG Qpe 13=true:=by kernel_rfl
theorem Qbb5:SegOk Tryd.prog Qa 39 ([Qca (Qc Tryd.f17)]) Qhu Qua Qbb2 where
 lt:=Qbb3
 ok:=Qbb4
 hook:=fun F=>Qcb rfl F
 n0:=rfl
 id:=by kernel_rfl
 reck:=by kernel_rfl
 tab:=rfl
 cuts:=rfl
 kt:=by kernel_rfl
def Qpf:List SDef:=[.bin .gtr (.symi .u64 3) (.int .u64 1099511627776),
 .bin .gtr (.symi .u64 4) (.symi .u64 3),
 .bin .lss (.symi .u64 4) (.symi .u64 10),
 .bin .geq (.symi .u64 3) (.symi .u64 9),
 .ite (.symb 15) (.bool false) (.symb 16),
 .ite (.symb 14) (.bool true) (.symb 15),
 .ite (.symb 14) (.bool false) (.symb 17),
 .ite (.symb 13) (.bool true) (.symb 14),
 .ite (.symb 13) (.bool true) (.symb 18),
 .ite (.symb 13) (.bool false) (.symb 19),
 .bin .geq (.symi .i64 2) (.int .i64 0),
 .bin .leq (.symi .i64 2) (.int .i64 1073741824),
 .ite (.symb 23) (.symb 24) (.bool false),
 .bin .geq (.symi .i64 5) (.int .i64 0),
 .bin .leq (.symi .i64 5) (.int .i64 6),
 .ite (.symb 26) (.symb 27) (.bool false)]
def Q1m:LT:=Go.Wbp.fT 13 Qpf (.n (.n (.n (.n (.n .e 121063876 28 .e) 149303811 13 .e) 171988073 16 (.n .e 201860916 24 .e)) 202011035 23 (.n (.n .e 206185849 17 .e) 218186245 19 (.n .e 230186045 21 .e))) 330777191 25 (.n (.n (.n .e 360350555 14 .e) 381191624 22 (.n .e 505011944 26 .e)) 505312140 27 (.n (.n .e 616341933 15 .e) 699907940 20 (.n .e 989917510 18 .e))))
def Qbb7:Sw:=.run (.node 22 (.node 25 (.leaf .ret Qjd [(0,0)] [(8,.symb 28),(1,.symi .i64 1),(6,.syms 6),(7,.symi .i64 7)] []) (.leaf .ret Qjd [(0,0)] [(8,.bool false),(1,.symi .i64 1),(6,.syms 6),(7,.symi .i64 7)] [])) (.leaf .ret Qjd [(0,0)] [(8,.bool false),(1,.symi .i64 1),(6,.syms 6),(7,.symi .i64 7)] []))
def Qbb6:KdT:=.n (.n (.n (.n (.n .e none .e) (some .i64) (.n .e none .e)) (some .u64) (.n (.n .e none .e) (some .i64) (.n .e none .e))) (some .i64) (.n (.n (.n .e none .e) (some .u64) (.n .e none .e)) (some .i64) (.n (.n .e none .e) none .e))) (some .u32) (.n (.n (.n (.n .e none .e) (some .i64) (.n .e none .e)) (some .u64) (.n (.n .e none .e) (some .u8) (.n .e none .e))) (some .i64) (.n (.n (.n .e none .e) (some .u64) (.n .e none .e)) none (.n (.n .e none .e) none .e)))
noncomputable def Qbb8:Ing:={m:=13,ins:=Qpv,G:=Qpf,T:=Q1m,tab:=Qa,lsts:=Qt,kb:=29,kt:=Qbb6}
theorem Qbb9:okLT 13 Qpf Q1m=true:=by kernel_rfl
theorem Qbca:okG Qpf 13=true:=by kernel_rfl
theorem Qbcb:SegOk Tryd.prog Qa 39 ((Qe (Qc Tryd.f17)).drop 4) Qhu Qbb8 Qbb7 where
 lt:=Qbb9
 ok:=Qbca
 hook:=fun F=>Qcb rfl F
 n0:=rfl
 id:=by kernel_rfl
 reck:=by kernel_rfl
 tab:=rfl
 cuts:=rfl
 kt:=by kernel_rfl
def lgG (g:Sig) (n:Nat):Lg:=⟨g.ival 0,lstE (g.sval 6) n,g.ival 2,g.ival 3,g.ival 4,g.ival 5⟩
structure J17 (g:Sig) (C:ByteArray) (n N i:Nat) (σ:Sig):Prop where
 s:σ.sval 6=C
 n0:σ.ival 1=n
 nN:σ.ival 7=N
 v0:σ.ival 0=g.ival 0
 v2:σ.ival 2=g.ival 2
 v3:σ.ival 3=g.ival 3
 v4:σ.ival 4=g.ival 4
 v5:σ.ival 5=g.ival 5
 i0:σ.ival 8=i
 r:σ.ival 9=(Qm noE C i).r
 b:σ.ival 10=(Qm noE C i).b
 k:σ.ival 11=(Qm noE C i).k
 v:σ.ival 12=(Qm noE C i).v
 le:n<=N
 hi:i<=n
 sz:N<=1000000
 xe:σ.ext=g.ext
 ok:Qd7 noE (lstE C n) ⟨g.ival 3,g.ival 4,255,0⟩=Qd7 (Qm noE C i) ((lstE C n).drop i) ⟨g.ival 3,g.ival 4,255,0⟩
theorem J17.agree {g:Sig} {C:ByteArray} {n N i:Nat} {σ τ:Sig} (ag:Agree 13 σ τ) (h:J17 g C n N i σ):J17 g C n N i τ:=
 ⟨by rw [<-(ag.val 6 (by decide)).2.2];exact h.s,by rw [<-(ag.val 1 (by decide)).1];exact h.n0,by rw [<-(ag.val 7 (by decide)).1];exact h.nN,by rw [<-(ag.val 0 (by decide)).1];exact h.v0,by rw [<-(ag.val 2 (by decide)).1];exact h.v2,by rw [<-(ag.val 3 (by decide)).1];exact h.v3,by rw [<-(ag.val 4 (by decide)).1];exact h.v4,by rw [<-(ag.val 5 (by decide)).1];exact h.v5,by rw [<-(ag.val 8 (by decide)).1];exact h.i0,by rw [<-(ag.val 9 (by decide)).1];exact h.r,by rw [<-(ag.val 10 (by decide)).1];exact h.b,by rw [<-(ag.val 11 (by decide)).1];exact h.k,by rw [<-(ag.val 12 (by decide)).1];exact h.v,h.le,h.hi,h.sz,by rw [<-ag.ext];exact h.xe,h.ok⟩
def L17:Asg:=[(8,.symb 8),(6,.syms 6),(7,.symi .i64 7)]
theorem Qbg5 {g:Inj} {n:Nat} (hg:g.sig.tab=Qa) (hE:Eqs g.sig sf17.m sf17.G) (hn:g.sig.ival 1=n):g.sig.bval 8=right (lgG g.sig n):=by
 have h:g.sig.bval 8= !(g.sig.tab 448 [g.sig.ival 0,encB (g.sig.sval 6),g.sig.ival 1,g.sig.ival 2,g.sig.ival 3,g.sig.ival 4,g.sig.ival 5]==0):=Qd0 (hE.at 0 _ rfl rfl)
 rw [h,hg,hn,Qu1]
 rfl
abbrev Z17 (g:Inj) (w:World):Exit->Act->World->Prop:=bodyPost Tryd.prog Tryd.f17 (MemR Qa sf17 g w)
theorem Qzn {g:Inj} {w:World} {n N:Nat} (hg:g.sig.tab=Qa) (hE:Eqs g.sig sf17.m sf17.G) (hH:HRel (cx0 Qa) g sf17.pre w) (hgn:g.sig.ival 1=n) (hgN:g.sig.ival 7=N) {τ:Sig} {b:AVal} {bv:Bool} (hs:τ.sval 6=g.sig.sval 6) (hN:τ.ival 7=N) (hx:τ.ext=g.sig.ext) (hb:valS τ b=.bool bv) (h:bv=right (lgG g.sig n)):
  EndZ Qa 39 (Qbh g w sf17.pre.length) (Z17 g w) .ret Qjd (asgS τ ([(8,b),(1,.symi .i64 1),(6,.syms 6),(7,.symi .i64 7)]++[])):=by
 refine Qeu (M:=9) (l:=L17) (vs:=[.symb 8]) (by kernel_rfl) rfl rfl hH hg rfl rfl rfl (by kernel_rfl) (by kernel_rfl) ⟨?_,congrArg AVal.str hs,congrArg (AVal.int .i64) (hN.trans hgN.symm),trivial⟩ (by decide) (extS hx) (.inl rfl)
 show AVal.bool (bOf (valS τ b))=AVal.bool (g.sig.bval 8)
 rw [hb,Qbg5 hg hE hgn,<-h]
 rfl
set_option maxHeartbeats 1000000 in
theorem c17:SymFOk Tryd.prog Qa (fun _=>True) sf17:=
 Qel Tryd.func17 rfl (n:=39) rfl (by decide) (by decide) rfl rfl (by kernel_rfl) (fun g w hg _ hE hI hpc hH=>by
  have q0:=hpc (.bin .leq (.int .i64 0) (.symi .i64 1)) (by simp [sf17,lgQ])
  have q1:=hpc (.bin .leq (.symi .i64 1) (.symi .i64 7)) (by simp [sf17,lgQ])
  have q2:=hpc (.bin .leq (.symi .i64 7) (.int .i64 1000000)) (by simp [sf17,lgQ])
  simp only [Qb,den,binS,intA,if_true,Option.some.injEq,AVal.bool.injEq,decide_eq_true_eq] at q0 q1 q2
  obtain ⟨n,hgn⟩: ∃n:Nat,g.sig.ival 1=n:=⟨(g.sig.ival 1).toNat,by omega⟩
  obtain ⟨N,hgN⟩: ∃n:Nat,g.sig.ival 7=n:=⟨(g.sig.ival 7).toNat,by omega⟩
  have hlast:Qf Tryd.prog Qa 39 (Qbh g w sf17.pre.length) (Z17 g w) ((Qe (Qc Tryd.f17)).drop 4) Qhu 13 Qpv (J17 g.sig (g.sig.sval 6) n N n):=by
   refine Qf.last mixed Qbcb ⟨rfl,rfl⟩ (fun σ τ ag h=>h.agree ag) (fun τ h=>Qbe) (fun τ e ht hi hj=> ?_) (pin0 (by kernel_rfl))
   refine Q6 ?_
   have hok:=hj.ok
   rw [Qbg6] at hok
   have v2:=hj.v2
   have v3:=hj.v3
   have v4:=hj.v4
   have v5:=hj.v5
   have hr:=hj.r
   have hb:=hj.b
   have b13:τ.bval 13=decide (τ.ival 3>1099511627776):=eqB (e.at 0 _ rfl rfl) rfl
   have b14:τ.bval 14=decide (τ.ival 4>τ.ival 3):=eqB (e.at 1 _ rfl rfl) rfl
   have b15:τ.bval 15=decide (τ.ival 4<τ.ival 10):=eqB (e.at 2 _ rfl rfl) rfl
   have b16:τ.bval 16=decide (τ.ival 3>=τ.ival 9):=eqB (e.at 3 _ rfl rfl) rfl
   have b17:τ.bval 17=(bif τ.bval 15 then false else τ.bval 16):=Qbx (e.at 4 _ rfl rfl) rfl rfl rfl
   have b18:τ.bval 18=(bif τ.bval 14 then true else τ.bval 15):=Qbx (e.at 5 _ rfl rfl) rfl rfl rfl
   have b19:τ.bval 19=(bif τ.bval 14 then false else τ.bval 17):=Qbx (e.at 6 _ rfl rfl) rfl rfl rfl
   have b20:τ.bval 20=(bif τ.bval 13 then true else τ.bval 14):=Qbx (e.at 7 _ rfl rfl) rfl rfl rfl
   have b21:τ.bval 21=(bif τ.bval 13 then true else τ.bval 18):=Qbx (e.at 8 _ rfl rfl) rfl rfl rfl
   have b22:τ.bval 22=(bif τ.bval 13 then false else τ.bval 19):=Qbx (e.at 9 _ rfl rfl) rfl rfl rfl
   have b23:τ.bval 23=decide (τ.ival 2>=0):=eqB (e.at 10 _ rfl rfl) rfl
   have b24:τ.bval 24=decide (τ.ival 2<=1073741824):=eqB (e.at 11 _ rfl rfl) rfl
   have b25:τ.bval 25=(bif τ.bval 23 then τ.bval 24 else false):=Qbx (e.at 12 _ rfl rfl) rfl rfl rfl
   have b26:τ.bval 26=decide (τ.ival 5>=0):=eqB (e.at 13 _ rfl rfl) rfl
   have b27:τ.bval 27=decide (τ.ival 5<=6):=eqB (e.at 14 _ rfl rfl) rfl
   have b28:τ.bval 28=(bif τ.bval 26 then τ.bval 27 else false):=Qbx (e.at 15 _ rfl rfl) rfl rfl rfl
   have key:right (lgG g.sig n)=true↔(τ.bval 22=true/\τ.bval 25=true/\τ.bval 28=true):=by
    rw [Qh6]
    show Qd7 noE (lstE (g.sig.sval 6) n) ⟨g.sig.ival 3,g.sig.ival 4,255,0⟩=true/\0<=g.sig.ival 2/\g.sig.ival 2<=1073741824/\0<=g.sig.ival 5/\g.sig.ival 5<=6↔_
    rw [hok,Qkp]
    simp only [b13,b14,b15,b16,b17,b18,b19,b20,b21,b22,b23,b24,b25,b26,b27,b28,v2,v3,v4,v5,hr,hb,sb,beq_iff_eq]
    omega
   have f0:=fun (b:AVal) (bv:Bool)=>Qzn (b:=b) (bv:=bv) hg hE hH hgn hgN hj.s hj.nN hj.xe
   refine ⟨fun f22=>⟨fun f25=>f0 _ _ rfl ?_,fun f25=>f0 _ _ rfl ?_⟩,fun f22=>f0 _ _ rfl ?_⟩
   ·rw [Bool.eq_iff_iff,key];simp only [f22,f25,true_and]
   ·rw [eq_comm,Bool.eq_false_iff,ne_eq,key,f25];simp
   ·rw [eq_comm,Bool.eq_false_iff,ne_eq,key,f22];simp
  rw [show Qe (Qc Tryd.f17)=(Qe (Qc Tryd.f17)).take 3++(.block (idOf (Qc Tryd.f17)) (.loop (Qca (Qc Tryd.f17)))::(Qe (Qc Tryd.f17)).drop 4) from rfl]
  have hloop:Qf Tryd.prog Qa 39 (Qbh g w sf17.pre.length) (Z17 g w) (.block (idOf (Qc Tryd.f17)) (.loop (Qca (Qc Tryd.f17)))::(Qe (Qc Tryd.f17)).drop 4) Qhu 13 Qpv (fun σ=> ∃i,J17 g.sig (g.sig.sval 6) n N i σ):=by
   refine Qf.loop (μ:=fun σ=>(σ.ival 1-σ.ival 8).toNat) mixed Qbb5 ⟨rfl,rfl⟩ (fun σ τ ag h=>let ⟨i,hi⟩:=h;⟨i,hi.agree ag⟩) (fun σ τ ag=>by rw [(ag.val 1 (by decide)).1,(ag.val 8 (by decide)).1]) (fun τ h=>Qbe) hlast (fun τ e ht hi hj=> ?_) (pin0 (by kernel_rfl))
   obtain ⟨i,hj⟩:=hj
   refine Q6 ?_
   have hn0:=hj.n0
   have hnN:=hj.nN
   have hi0:=hj.i0
   have hle:=hj.le
   have hhi:=hj.hi
   have hsz:=hj.sz
   have hr:=hj.r
   have hb:=hj.b
   have hk:=hj.k
   have b13:τ.bval 13=decide (τ.ival 8<τ.ival 1):=eqB (e.at 0 _ rfl rfl) rfl
   have b14:τ.bval 14=decide (τ.ival 8<τ.ival 7):=eqB (e.at 1 _ rfl rfl) rfl
   have b15:τ.bval 15=decide ((0:Int)<=τ.ival 8):=eqB (e.at 2 _ rfl rfl) rfl
   have i16:τ.ival 16=(rowE (τ.sval 6) (τ.ival 8:Int).toNat).r:=Qb0 (e.at 3 _ rfl rfl) rfl
   have i17:τ.ival 17=(rowE (τ.sval 6) (τ.ival 8:Int).toNat).b:=Qb0 (e.at 4 _ rfl rfl) rfl
   have i18:τ.ival 18=(rowE (τ.sval 6) (τ.ival 8:Int).toNat).k:=Qb0 (e.at 5 _ rfl rfl) rfl
   have i19:τ.ival 19=(rowE (τ.sval 6) (τ.ival 8:Int).toNat).v:=Qb0 (e.at 6 _ rfl rfl) rfl
   have b20:τ.bval 20=decide (τ.ival 18>=0):=eqB (e.at 7 _ rfl rfl) rfl
   have b21:τ.bval 21=decide (τ.ival 18<=2):=eqB (e.at 8 _ rfl rfl) rfl
   have b22:τ.bval 22=(bif τ.bval 20 then τ.bval 21 else false):=Qbx (e.at 9 _ rfl rfl) rfl rfl rfl
   have b23:τ.bval 23= !(τ.bval 22):=eqB (e.at 10 _ rfl rfl) rfl
   have b24:τ.bval 24=decide (τ.ival 16>1099511627776):=eqB (e.at 11 _ rfl rfl) rfl
   have b25:τ.bval 25=decide (τ.ival 17>τ.ival 16):=eqB (e.at 12 _ rfl rfl) rfl
   have b26:τ.bval 26=decide (τ.ival 17<τ.ival 10):=eqB (e.at 13 _ rfl rfl) rfl
   have b27:τ.bval 27=((τ.ival 18:Int)==255):=eqB (e.at 14 _ rfl rfl) rfl
   have b28:τ.bval 28=decide (τ.ival 16>=τ.ival 9):=eqB (e.at 15 _ rfl rfl) rfl
   have b29:τ.bval 29=((τ.ival 16:Int)==τ.ival 9):=eqB (e.at 16 _ rfl rfl) rfl
   have b30:τ.bval 30=decide (τ.ival 18>τ.ival 11):=eqB (e.at 17 _ rfl rfl) rfl
   have b31:τ.bval 31=((τ.ival 17:Int)==τ.ival 10):=eqB (e.at 18 _ rfl rfl) rfl
   have b32:τ.bval 32=(bif τ.bval 30 then τ.bval 31 else false):=Qbx (e.at 19 _ rfl rfl) rfl rfl rfl
   have b33:τ.bval 33=decide (τ.ival 16>τ.ival 9):=eqB (e.at 20 _ rfl rfl) rfl
   have b34:τ.bval 34=(bif τ.bval 29 then τ.bval 32 else τ.bval 33):=Qbx (e.at 21 _ rfl rfl) rfl rfl rfl
   have b35:τ.bval 35=(bif τ.bval 27 then τ.bval 28 else τ.bval 34):=Qbx (e.at 22 _ rfl rfl) rfl rfl rfl
   have b36:τ.bval 36=(bif τ.bval 26 then false else τ.bval 35):=Qbx (e.at 23 _ rfl rfl) rfl rfl rfl
   have b37:τ.bval 37=(bif τ.bval 25 then false else τ.bval 36):=Qbx (e.at 24 _ rfl rfl) rfl rfl rfl
   have b38:τ.bval 38=(bif τ.bval 24 then false else τ.bval 37):=Qbx (e.at 25 _ rfl rfl) rfl rfl rfl
   have b39:τ.bval 39= !(τ.bval 38):=eqB (e.at 26 _ rfl rfl) rfl
   have i40:τ.ival 40=IntKind.i64.wrap (τ.ival 8+1):=eqI (e.at 27 _ rfl rfl) rfl
   have tr: ∀{P:Prop} {b:Bool} [Decidable P],b=decide P->b=false->P->False:=fun hb hf hp=>by rw [hb,decide_eq_false_iff_not] at hf;exact hf hp
   refine ⟨fun f13=>⟨fun f14=>⟨fun f15=> ?_,fun f=>tr b15 f (by omega)⟩,fun f=>tr b14 f (by rw [b13,decide_eq_true_eq] at f13;omega)⟩,fun f13=> ?_⟩
   ·rw [b13,decide_eq_true_eq] at f13
    rw [Qh] at i40
    have hlt:i<n:=by omega
    have hok:=hj.ok
    rw [Qbg7 noE hlt] at hok
    rw [hj.s,hi0,Int.toNat_natCast] at i16 i17 i18 i19
    have key:Qcg (Qm noE (g.sig.sval 6) i) (rowE (g.sig.sval 6) i)=true↔ ¬(τ.bval 23=true\/τ.bval 39=true):=by
     rw [Qre]
     simp only [b20,b21,b22,b23,b24,b25,b26,b27,b28,b29,b30,b31,b32,b33,b34,b35,b36,b37,b38,b39,i16,i17,i18,hr,hb,hk,sb,beq_iff_eq]
     omega
    have f0:=fun (b:AVal) (bv:Bool)=>Qzn (b:=b) (bv:=bv) hg hE hH hgn hgN hj.s hj.nN hj.xe
    have bad:(τ.bval 23=true\/τ.bval 39=true)->false=right (lgG g.sig n):=by
     intro h
     rw [eq_comm,Bool.eq_false_iff,ne_eq,Qh6]
     show¬(Qd7 noE (lstE (g.sig.sval 6) n) ⟨g.sig.ival 3,g.sig.ival 4,255,0⟩=true/\_)
     rw [hok,Bool.and_eq_true,key]
     exact fun h'=>h'.1.1 h
    refine ⟨fun f23=> .inr (.inr ⟨rfl,f0 _ _ rfl (bad (.inl f23))⟩),fun f23=>⟨fun f39=> .inr (.inr ⟨rfl,f0 _ _ rfl (bad (.inr f39))⟩),fun f39=> .inl ⟨rfl,rfl,Qbi (X:=Qua) e hi (by kernel_rfl) (by kernel_rfl),⟨i+1,hj.s,hj.n0,hj.nN,hj.v0,hj.v2,hj.v3,hj.v4,hj.v5,?_,i16,i17,i18,i19,hle,hlt,hsz,extS hj.xe,?_⟩,tabS ht,?_⟩⟩⟩
    ·show τ.ival 40=_
     omega
    ·rw [hok,key.2 (by rw [f23,f39];simp),Bool.true_and]
    ·show (τ.ival 1-τ.ival 40).toNat<(τ.ival 1-τ.ival 8).toNat
     omega
   ·rw [b13,decide_eq_false_iff_not] at f13
    obtain rfl:i=n:=by omega
    exact .inr (.inl ⟨rfl,rfl,Qbi (X:=Qua) e hi (by kernel_rfl) (by kernel_rfl),⟨hj.s,hj.n0,hj.nN,hj.v0,hj.v2,hj.v3,hj.v4,hj.v5,hj.i0,hj.r,hj.b,hj.k,hj.v,hle,hhi,hsz,extS hj.xe,hj.ok⟩,tabS ht⟩)
  refine Qf.seg mixed Qbb0 ⟨rfl,rfl⟩ (fun σ τ (ag:Agree 8 σ τ) (h:Agree 8 g.sig σ)=>h.trans' ag) (fun τ h=>Qbe) hloop (fun τ e ht hi ag=> ?_) (pin0 (by kernel_rfl))
  refine Q6 ?_
  have a:=fun i h=>(ag.val i h).1.symm
  exact .inl ⟨rfl,rfl,Qbi (X:=Q1k) e hi (by kernel_rfl) (by kernel_rfl),⟨0,(ag.val 6 (by decide)).2.2.symm,(a 1 (by decide)).trans hgn,(a 7 (by decide)).trans hgN,a 0 (by decide),a 2 (by decide),a 3 (by decide),a 4 (by decide),a 5 (by decide),rfl,rfl,rfl,rfl,rfl,by omega,Nat.zero_le _,by omega,extS ag.ext.symm,rfl⟩,tabS ht⟩)
end Go.Proofs.YtelimhjceiamcaaDoor.lg
