/-
 Contract of the document's Same, of logs that are alike.
 No conditions.
-/
import Derived.Test.YtelimhjceiamcaaDoorBLg15
set_option maxRecDepth 100000
namespace Go.Proofs.YtelimhjceiamcaaDoor.lg
open Go.Ev Go.RowKit Go.Wbp Go.Lgp
open Go.Proofs.YtelimhjceiamcaaDoor.lgn (mixed sf48 Qda)
set_option linter.unusedVariables false
set_option linter.unusedSimpArgs false
def lgA2:AVal:=.agg [.symi .u32 10,.lsl 1 4 false (.int .i64 0) (.symi .i64 11),.symi .i64 12,.symi .u64 13,.symi .u64 14,.symi .i64 15]
def lgC2:List AVal:=[.symi .u32 10,.lsl 1 4 false (.int .i64 0) (.symi .i64 11),.symi .i64 12,.symi .u64 13,.symi .u64 14,.symi .i64 15]
def Ql6:List (Option IntKind):=lgK++[none,some .i64,some .u32,some .i64,some .i64,some .u64,some .u64,some .i64]
def Qbeu:Shape:=⟨argT 0 [lgA,lgA2],[eL 6 7,eL 8 9]⟩
def Qpr:Shape:=⟨[(0,lgA),(1,lgA2),(2,.ptr 2 0),(3,.ptr 3 0),(5,.symi .i64 16)],[eL 6 7,eL 8 9,.cells lgC 39,.cells lgC2 39]⟩
def Quu:Shape:=⟨[(0,lgA),(1,lgA2)],[eL 6 7,eL 8 9]⟩
def Q2v:List (Option IntKind):=Ql6++[some .i64]
def Qbeo:Shape:=⟨[(0,lgA),(1,lgA2),(4,.bool true)],[eL 6 7,eL 8 9]⟩
def Qd4:List SDef:=lgQ++[.bin .leq (.symi .i64 11) (.symi .i64 9),.bin .leq (.symi .i64 9) (.int .i64 1000000),.bin .eql (.symi .i64 1) (.symi .i64 11),.bin .eql (.symi .u32 0) (.symi .u32 10),.bin .eql (.symi .i64 2) (.symi .i64 12),.bin .eql (.symi .u64 3) (.symi .u64 13),.bin .eql (.symi .u64 4) (.symi .u64 14),.bin .eql (.symi .i64 5) (.symi .i64 15),.bin .eql (.syms 6) (.syms 8)]
def sf18:SymF:=
 {f:=18,m:=16,ins:=Ql6,args:=[lgA,lgA2],pre:=[eL 6 7,eL 8 9],pcs:=Qd4,G:=[],v:=.bool true,post:=[eL 6 7,eL 8 9]}
def Qpg:List SDef:=[.bin .neq (.symi .i64 1) (.symi .i64 11),
 .bin .neq (.symi .u32 0) (.symi .u32 10),
 .bin .neq (.symi .i64 2) (.symi .i64 12),
 .bin .neq (.symi .u64 3) (.symi .u64 13),
 .bin .neq (.symi .u64 4) (.symi .u64 14),
 .bin .neq (.symi .i64 5) (.symi .i64 15)]
def Q1n:LT:=Go.Wbp.fT 16 Qpg (.n (.n (.n .e 27306649 18 .e) 212340714 17 (.n .e 286626465 21 .e)) 471660530 19 (.n (.n .e 656694595 16 .e) 916014411 20 .e))
def Qbcd:Sw:=.node 16 (.dead) (.node 17 (.dead) (.node 18 (.dead) (.node 19 (.dead) (.node 20 (.dead) (.node 21 (.dead) (.run (.leaf .normal Qpr [(0,0),(1,0),(2,0),(3,0)] [(0,.symi .u32 0),(1,.symi .i64 1),(2,.symi .i64 2),(3,.symi .u64 3),(4,.symi .u64 4),(5,.symi .i64 5),(10,.symi .u32 10),(11,.symi .i64 11),(12,.symi .i64 12),(13,.symi .u64 13),(14,.symi .u64 14),(15,.symi .i64 15),(16,.int .i64 0),(6,.syms 6),(7,.symi .i64 7),(8,.syms 8),(9,.symi .i64 9),(0,.symi .u32 0),(1,.symi .i64 1),(2,.symi .i64 2),(3,.symi .u64 3),(4,.symi .u64 4),(5,.symi .i64 5),(10,.symi .u32 10),(11,.symi .i64 11),(12,.symi .i64 12),(13,.symi .u64 13),(14,.symi .u64 14),(15,.symi .i64 15)] [])))))))
def Qbcc:KdT:=.n (.n (.n (.n (.n .e (some .i64) .e) (some .i64) .e) (some .u64) (.n (.n .e none .e) (some .i64) .e)) (some .i64) (.n (.n (.n .e none .e) (some .i64) .e) (some .i64) (.n (.n .e none .e) (some .u64) .e))) (some .u32) (.n (.n (.n (.n .e none .e) none .e) (some .u64) (.n (.n .e none .e) (some .i64) .e)) (some .i64) (.n (.n (.n .e none .e) (some .u32) .e) none (.n .e (some .u64) .e)))
noncomputable def Q1o:Ing:={m:=16,ins:=Ql6,G:=Qpg,T:=Q1n,tab:=Qa,lsts:=Qt,kb:=22,kt:=Qbcc}
theorem Qbce:okLT 16 Qpg Q1n=true:=by kernel_rfl
theorem Qbcf:okG Qpg 16=true:=by kernel_rfl
theorem Qbcg:SegOk Tryd.prog Qa 66 ((Qe (Qc Tryd.f18)).take 4) Qbeu Q1o Qbcd where
 lt:=Qbce
 ok:=Qbcf
 hook:=fun F=>Qcb rfl F
 n0:=rfl
 id:=by kernel_rfl
 reck:=by kernel_rfl
 tab:=rfl
 cuts:=rfl
 kt:=by kernel_rfl
def Qph:List SDef:=[.bin .lss (.symi .i64 16) (.symi .i64 1),
 .bin .lss (.symi .i64 16) (.symi .i64 7),
 .bin .lss (.symi .i64 16) (.symi .i64 11),
 .bin .lss (.symi .i64 16) (.symi .i64 9),
 .bin .leq (.int .i64 0) (.symi .i64 16),
 .sop (.cell [.some .u64,.some .u64,.some .i64,.some .u8] 0) [.syms 6,.symi .i64 16],
 .sop (.cell [.some .u64,.some .u64,.some .i64,.some .u8] 1) [.syms 6,.symi .i64 16],
 .sop (.cell [.some .u64,.some .u64,.some .i64,.some .u8] 2) [.syms 6,.symi .i64 16],
 .sop (.cell [.some .u64,.some .u64,.some .i64,.some .u8] 3) [.syms 6,.symi .i64 16],
 .sop (.cell [.some .u64,.some .u64,.some .i64,.some .u8] 0) [.syms 8,.symi .i64 16],
 .sop (.cell [.some .u64,.some .u64,.some .i64,.some .u8] 1) [.syms 8,.symi .i64 16],
 .sop (.cell [.some .u64,.some .u64,.some .i64,.some .u8] 2) [.syms 8,.symi .i64 16],
 .sop (.cell [.some .u64,.some .u64,.some .i64,.some .u8] 3) [.syms 8,.symi .i64 16],
 .all [(.symi .u64 22,.symi .u64 26),(.symi .u64 23,.symi .u64 27),(.symi .i64 24,.symi .i64 28),(.symi .u8 25,.symi .u8 29)],
 .bin .add (.symi .i64 16) (.int .i64 1)]
def Q1p:LT:=Go.Wbp.fT 17 Qph (.n (.n (.n (.n .e 24215493 19 .e) 43828911 30 (.n .e 82600999 22 .e)) 82601001 23 (.n (.n .e 82601003 24 .e) 82601005 25 (.n .e 124978340 21 .e))) 411250164 20 (.n (.n (.n .e 416613357 26 .e) 416613359 27 (.n .e 416613361 28 .e)) 416613363 29 (.n (.n .e 542323373 31 .e) 798284835 18 (.n .e 885647021 17 .e))))
def Qbci:Sw:=.node 17 (.node 18 (.node 19 (.node 20 (.node 21 (.node 30 (.run (.leaf .normal Qpr [(0,0),(1,0),(2,0),(3,0)] [(0,.symi .u32 0),(1,.symi .i64 1),(2,.symi .i64 2),(3,.symi .u64 3),(4,.symi .u64 4),(5,.symi .i64 5),(10,.symi .u32 10),(11,.symi .i64 11),(12,.symi .i64 12),(13,.symi .u64 13),(14,.symi .u64 14),(15,.symi .i64 15),(16,.symi .i64 31),(6,.syms 6),(7,.symi .i64 7),(8,.syms 8),(9,.symi .i64 9),(0,.symi .u32 0),(1,.symi .i64 1),(2,.symi .i64 2),(3,.symi .u64 3),(4,.symi .u64 4),(5,.symi .i64 5),(10,.symi .u32 10),(11,.symi .i64 11),(12,.symi .i64 12),(13,.symi .u64 13),(14,.symi .u64 14),(15,.symi .i64 15)] [])) (.dead)) (.dead)) (.dead)) (.dead)) (.dead)) (.run (.leaf (.exit 0) Quu [(0,0),(1,0)] [(0,.symi .u32 0),(1,.symi .i64 1),(2,.symi .i64 2),(3,.symi .u64 3),(4,.symi .u64 4),(5,.symi .i64 5),(10,.symi .u32 10),(11,.symi .i64 11),(12,.symi .i64 12),(13,.symi .u64 13),(14,.symi .u64 14),(15,.symi .i64 15),(6,.syms 6),(7,.symi .i64 7),(8,.syms 8),(9,.symi .i64 9)] []))
def Qbch:KdT:=.n (.n (.n (.n (.n (.n .e (some .i64) .e) (some .i64) .e) (some .i64) (.n .e (some .u64) .e)) (some .u64) (.n (.n .e none .e) (some .i64) (.n .e (some .u64) .e))) (some .i64) (.n (.n (.n .e none .e) (some .i64) (.n .e (some .u8) .e)) (some .i64) (.n (.n .e none .e) (some .u64) (.n .e (some .u8) .e)))) (some .u32) (.n (.n (.n (.n .e (some .i64) .e) none (.n .e (some .i64) .e)) (some .u64) (.n (.n .e none .e) (some .i64) (.n .e (some .i64) .e))) (some .i64) (.n (.n (.n .e none .e) (some .u32) (.n .e (some .u64) .e)) none (.n (.n .e (some .u64) .e) (some .u64) (.n .e none .e))))
noncomputable def Qub:Ing:={m:=17,ins:=Q2v,G:=Qph,T:=Q1p,tab:=Qa,lsts:=Qt,kb:=32,kt:=Qbch}
theorem Qbcj:okLT 17 Qph Q1p=true:=by kernel_rfl
theorem Qbck:okG Qph 17=true:=by kernel_rfl
theorem Qbcl:SegOk Tryd.prog Qa 66 ([Qca (Qc Tryd.f18)]) Qpr Qub Qbci where
 lt:=Qbcj
 ok:=Qbck
 hook:=fun F=>Qcb rfl F
 n0:=rfl
 id:=by kernel_rfl
 reck:=by kernel_rfl
 tab:=rfl
 cuts:=rfl
 kt:=by kernel_rfl
def Quc:List SDef:=[]
def Q1q:LT:=.e
def Qbcn:Sw:=.run (.leaf .ret Qbeo [(0,0),(1,0)] [(0,.symi .u32 0),(1,.symi .i64 1),(2,.symi .i64 2),(3,.symi .u64 3),(4,.symi .u64 4),(5,.symi .i64 5),(10,.symi .u32 10),(11,.symi .i64 11),(12,.symi .i64 12),(13,.symi .u64 13),(14,.symi .u64 14),(15,.symi .i64 15),(6,.syms 6),(7,.symi .i64 7),(8,.syms 8),(9,.symi .i64 9)] [])
def Qbcm:KdT:=.n (.n (.n (.n (.n .e (some .i64) .e) (some .i64) .e) (some .u64) (.n .e (some .i64) .e)) (some .i64) (.n (.n .e (some .i64) .e) (some .i64) (.n .e (some .u64) .e))) (some .u32) (.n (.n (.n .e none .e) (some .u64) (.n .e (some .i64) .e)) (some .i64) (.n (.n .e (some .u32) .e) none (.n .e (some .u64) .e)))
noncomputable def Qbco:Ing:={m:=16,ins:=Ql6,G:=Quc,T:=Q1q,tab:=Qa,lsts:=Qt,kb:=16,kt:=Qbcm}
theorem Qbcp:okLT 16 Quc Q1q=true:=by kernel_rfl
theorem Qbcq:okG Quc 16=true:=by kernel_rfl
theorem Qbcr:SegOk Tryd.prog Qa 66 ((Qe (Qc Tryd.f18)).drop 5) Quu Qbco Qbcn where
 lt:=Qbcp
 ok:=Qbcq
 hook:=fun F=>Qcb rfl F
 n0:=rfl
 id:=by kernel_rfl
 reck:=by kernel_rfl
 tab:=rfl
 cuts:=rfl
 kt:=by kernel_rfl
structure M18 (g:Sig) (n N:Nat) (σ:Sig):Prop where
 s:σ.sval 6=g.sval 6
 s8:σ.sval 8=g.sval 6
 n0:σ.ival 1=n
 nN:σ.ival 7=N
 v9:σ.ival 9=g.ival 9
 v0:σ.ival 0=g.ival 0
 v2:σ.ival 2=g.ival 2
 v3:σ.ival 3=g.ival 3
 v4:σ.ival 4=g.ival 4
 v5:σ.ival 5=g.ival 5
 v10:σ.ival 10=g.ival 10
 v12:σ.ival 12=g.ival 12
 v13:σ.ival 13=g.ival 13
 v14:σ.ival 14=g.ival 14
 v15:σ.ival 15=g.ival 15
 v11:σ.ival 11=n
 le:n<=N
 le9:(n:Int)<=g.ival 9
 sz:N<=1000000
 xe:σ.ext=g.ext
theorem M18.agree {g:Sig} {n N:Nat} {σ τ:Sig} (ag:Agree 16 σ τ) (h:M18 g n N σ):M18 g n N τ:=
 ⟨by rw [<-(ag.val 6 (by decide)).2.2];exact h.s,by rw [<-(ag.val 8 (by decide)).2.2];exact h.s8,by rw [<-(ag.val 1 (by decide)).1];exact h.n0,by rw [<-(ag.val 7 (by decide)).1];exact h.nN,by rw [<-(ag.val 9 (by decide)).1];exact h.v9,by rw [<-(ag.val 0 (by decide)).1];exact h.v0,by rw [<-(ag.val 2 (by decide)).1];exact h.v2,by rw [<-(ag.val 3 (by decide)).1];exact h.v3,by rw [<-(ag.val 4 (by decide)).1];exact h.v4,by rw [<-(ag.val 5 (by decide)).1];exact h.v5,by rw [<-(ag.val 10 (by decide)).1];exact h.v10,by rw [<-(ag.val 12 (by decide)).1];exact h.v12,by rw [<-(ag.val 13 (by decide)).1];exact h.v13,by rw [<-(ag.val 14 (by decide)).1];exact h.v14,by rw [<-(ag.val 15 (by decide)).1];exact h.v15,by rw [<-(ag.val 11 (by decide)).1];exact h.v11,h.le,h.le9,h.sz,by rw [<-ag.ext];exact h.xe⟩
structure J18 (g:Sig) (n N i:Nat) (σ:Sig):Prop where
 m:M18 g n N σ
 hi:i<=n
 i0:σ.ival 16=i
theorem J18.agree {g:Sig} {n N i:Nat} {σ τ:Sig} (ag:Agree 17 σ τ) (h:J18 g n N i σ):J18 g n N i τ:=
 ⟨h.m.agree (ag.less (by decide)),h.hi,by rw [<-(ag.val 16 (by decide)).1];exact h.i0⟩
def L18:Asg:=[(6,.syms 6),(7,.symi .i64 7),(8,.syms 8),(9,.symi .i64 9)]
abbrev Z18 (g:Inj) (w:World):Exit->Act->World->Prop:=bodyPost Tryd.prog Tryd.f18 (MemR Qa sf18 g w)
set_option maxHeartbeats 1000000 in
theorem c18:SymFOk Tryd.prog Qa (fun _=>True) sf18:=
 Qel Tryd.func18 rfl (n:=66) rfl (by decide) (by decide) rfl rfl (by kernel_rfl) (fun g w hg _ hE hI hpc hH=>by
  have q0:=hpc (.bin .leq (.int .i64 0) (.symi .i64 1)) (by simp [sf18,Qd4,lgQ])
  have q1:=hpc (.bin .leq (.symi .i64 1) (.symi .i64 7)) (by simp [sf18,Qd4,lgQ])
  have q2:=hpc (.bin .leq (.symi .i64 7) (.int .i64 1000000)) (by simp [sf18,Qd4,lgQ])
  have q3:=hpc (.bin .leq (.symi .i64 11) (.symi .i64 9)) (by simp [sf18,Qd4])
  have q4:=hpc (.bin .eql (.symi .i64 1) (.symi .i64 11)) (by simp [sf18,Qd4])
  have q5:=hpc (.bin .eql (.symi .u32 0) (.symi .u32 10)) (by simp [sf18,Qd4])
  have q6:=hpc (.bin .eql (.symi .i64 2) (.symi .i64 12)) (by simp [sf18,Qd4])
  have q7:=hpc (.bin .eql (.symi .u64 3) (.symi .u64 13)) (by simp [sf18,Qd4])
  have q8:=hpc (.bin .eql (.symi .u64 4) (.symi .u64 14)) (by simp [sf18,Qd4])
  have q9:=hpc (.bin .eql (.symi .i64 5) (.symi .i64 15)) (by simp [sf18,Qd4])
  have qs:=hpc (.bin .eql (.syms 6) (.syms 8)) (by simp [sf18,Qd4])
  have q4:g.sig.ival 1=g.sig.ival 11:=by simpa [Qb,den,binS,intA] using q4
  have q5:g.sig.ival 0=g.sig.ival 10:=by simpa [Qb,den,binS,intA] using q5
  have q6:g.sig.ival 2=g.sig.ival 12:=by simpa [Qb,den,binS,intA] using q6
  have q7:g.sig.ival 3=g.sig.ival 13:=by simpa [Qb,den,binS,intA] using q7
  have q8:g.sig.ival 4=g.sig.ival 14:=by simpa [Qb,den,binS,intA] using q8
  have q9:g.sig.ival 5=g.sig.ival 15:=by simpa [Qb,den,binS,intA] using q9
  have qs:g.sig.sval 6=g.sig.sval 8:=by
   have:((g.sig.sval 6).toList==(g.sig.sval 8).toList)=true:=by simpa [Qb,den,binS,strA] using qs
   exact toList_inj (by simpa using this)
  simp only [Qb,den,binS,intA,if_true,Option.some.injEq,AVal.bool.injEq,decide_eq_true_eq] at q0 q1 q2 q3
  obtain ⟨n,hgn⟩: ∃n:Nat,g.sig.ival 1=n:=⟨(g.sig.ival 1).toNat,by omega⟩
  obtain ⟨N,hgN⟩: ∃n:Nat,g.sig.ival 7=n:=⟨(g.sig.ival 7).toNat,by omega⟩
  have hlast:Qf Tryd.prog Qa 66 (Qbh g w sf18.pre.length) (Z18 g w) ((Qe (Qc Tryd.f18)).drop 5) Quu 16 Ql6 (M18 g.sig n N):=by
   refine Qf.last mixed Qbcr ⟨rfl,rfl⟩ (fun σ τ ag h=>h.agree ag) (fun τ h=>Qbe) (fun τ e ht hi hj=> ?_) (pin0 (by kernel_rfl))
   refine Q6 ?_
   exact Qeu (M:=16) (l:=L18) (vs:=[.bool true]) (by kernel_rfl) rfl rfl hH hg rfl rfl rfl (by kernel_rfl) (by kernel_rfl) ⟨congrArg AVal.str hj.s,congrArg (AVal.int .i64) (hj.nN.trans hgN.symm),congrArg AVal.str (hj.s8.trans qs),congrArg (AVal.int .i64) hj.v9,trivial⟩ (by decide) (extS hj.xe) (.inl rfl)
  rw [show Qe (Qc Tryd.f18)=(Qe (Qc Tryd.f18)).take 4++(.block (idOf (Qc Tryd.f18)) (.loop (Qca (Qc Tryd.f18)))::(Qe (Qc Tryd.f18)).drop 5) from rfl]
  have hloop:Qf Tryd.prog Qa 66 (Qbh g w sf18.pre.length) (Z18 g w) (.block (idOf (Qc Tryd.f18)) (.loop (Qca (Qc Tryd.f18)))::(Qe (Qc Tryd.f18)).drop 5) Qpr 17 Q2v (fun σ=> ∃i,J18 g.sig n N i σ):=by
   refine Qf.loop (μ:=fun σ=>(σ.ival 1-σ.ival 16).toNat) mixed Qbcl ⟨rfl,rfl⟩ (fun σ τ ag h=>let ⟨i,hi⟩:=h;⟨i,hi.agree ag⟩) (fun σ τ ag=>by rw [(ag.val 1 (by decide)).1,(ag.val 16 (by decide)).1]) (fun τ h=>Qbe) hlast (fun τ e ht hi hj=> ?_) (pin0 (by kernel_rfl))
   obtain ⟨i,⟨hj,hhi,hi0⟩⟩:=hj
   refine Q6 ?_
   have hn0:=hj.n0
   have hnN:=hj.nN
   have hv9:=hj.v9
   have hv11:=hj.v11
   have hle:=hj.le
   have hle9:=hj.le9
   have hsz:=hj.sz
   have b17:τ.bval 17=decide (τ.ival 16<τ.ival 1):=eqB (e.at 0 _ rfl rfl) rfl
   have b18:τ.bval 18=decide (τ.ival 16<τ.ival 7):=eqB (e.at 1 _ rfl rfl) rfl
   have b19:τ.bval 19=decide (τ.ival 16<τ.ival 11):=eqB (e.at 2 _ rfl rfl) rfl
   have b20:τ.bval 20=decide (τ.ival 16<τ.ival 9):=eqB (e.at 3 _ rfl rfl) rfl
   have b21:τ.bval 21=decide ((0:Int)<=τ.ival 16):=eqB (e.at 4 _ rfl rfl) rfl
   have i22:τ.ival 22=(rowE (τ.sval 6) (τ.ival 16:Int).toNat).r:=Qb0 (e.at 5 _ rfl rfl) rfl
   have i23:τ.ival 23=(rowE (τ.sval 6) (τ.ival 16:Int).toNat).b:=Qb0 (e.at 6 _ rfl rfl) rfl
   have i24:τ.ival 24=(rowE (τ.sval 6) (τ.ival 16:Int).toNat).k:=Qb0 (e.at 7 _ rfl rfl) rfl
   have i25:τ.ival 25=(rowE (τ.sval 6) (τ.ival 16:Int).toNat).v:=Qb0 (e.at 8 _ rfl rfl) rfl
   have i26:τ.ival 26=(rowE (τ.sval 8) (τ.ival 16:Int).toNat).r:=Qb0 (e.at 9 _ rfl rfl) rfl
   have i27:τ.ival 27=(rowE (τ.sval 8) (τ.ival 16:Int).toNat).b:=Qb0 (e.at 10 _ rfl rfl) rfl
   have i28:τ.ival 28=(rowE (τ.sval 8) (τ.ival 16:Int).toNat).k:=Qb0 (e.at 11 _ rfl rfl) rfl
   have i29:τ.ival 29=(rowE (τ.sval 8) (τ.ival 16:Int).toNat).v:=Qb0 (e.at 12 _ rfl rfl) rfl
   have i31:τ.ival 31=IntKind.i64.wrap (τ.ival 16+1):=eqI (e.at 14 _ rfl rfl) rfl
   have b30:τ.bval 30=((τ.ival 22==τ.ival 26)&&((τ.ival 23==τ.ival 27)&&((τ.ival 24==τ.ival 28)&&((τ.ival 25==τ.ival 29)&&true)))):=eqB (e.at 13 _ rfl rfl) rfl
   have tr: ∀{P:Prop} {b:Bool} [Decidable P],b=decide P->b=false->P->False:=fun hb hf hp=>by rw [hb,decide_eq_false_iff_not] at hf;exact hf hp
   refine ⟨fun f17=> ?_,fun f17=> .inr (.inl ⟨rfl,rfl,Qbi (X:=Qub) e hi (by kernel_rfl) (by kernel_rfl),⟨hj.s,hj.s8,hj.n0,hj.nN,hj.v9,hj.v0,hj.v2,hj.v3,hj.v4,hj.v5,hj.v10,hj.v12,hj.v13,hj.v14,hj.v15,hj.v11,hj.le,hj.le9,hj.sz,extS hj.xe⟩,tabS ht⟩)⟩
   rw [b17,decide_eq_true_eq] at f17
   rw [hj.s] at i22 i23 i24 i25
   rw [hj.s8] at i26 i27 i28 i29
   rw [Qh] at i31
   refine ⟨fun _=>⟨fun _=>⟨fun _=>⟨fun _=>⟨fun _=> .inl ⟨rfl,rfl,Qbi (X:=Qub) e hi (by kernel_rfl) (by kernel_rfl),⟨i+1,⟨hj.s,hj.s8,hj.n0,hj.nN,hj.v9,hj.v0,hj.v2,hj.v3,hj.v4,hj.v5,hj.v10,hj.v12,hj.v13,hj.v14,hj.v15,hj.v11,hj.le,hj.le9,hj.sz,extS hj.xe⟩,by omega,?_⟩,tabS ht,?_⟩,fun f=> ?_⟩,fun f=>tr b21 f (by omega)⟩,fun f=>tr b20 f (by omega)⟩,fun f=>tr b19 f (by omega)⟩,fun f=>tr b18 f (by omega)⟩
   ·show τ.ival 31=_
    omega
   ·show (τ.ival 1-τ.ival 31).toNat<(τ.ival 1-τ.ival 16).toNat
    omega
   ·rw [b30,i22,i23,i24,i25,i26,i27,i28,i29] at f
    simp at f
  refine Qf.seg mixed Qbcg ⟨rfl,rfl⟩ (fun σ τ (ag:Agree 16 σ τ) (h:Agree 16 g.sig σ)=>h.trans' ag) (fun τ h=>Qbe) hloop (fun τ e ht hi ag=> ?_) (pin0 (by kernel_rfl))
  refine Q6 ?_
  have a:=fun i h=>(ag.val i h).1.symm
  have sa:=fun i h=>(ag.val i h).2.2.symm
  have a0:=a 0 (by decide)
  have a1:=a 1 (by decide)
  have a2:=a 2 (by decide)
  have a3:=a 3 (by decide)
  have a4:=a 4 (by decide)
  have a5:=a 5 (by decide)
  have a7:=a 7 (by decide)
  have a9:=a 9 (by decide)
  have a10:=a 10 (by decide)
  have a11:=a 11 (by decide)
  have a12:=a 12 (by decide)
  have a13:=a 13 (by decide)
  have a14:=a 14 (by decide)
  have a15:=a 15 (by decide)
  have b16:τ.bval 16= !((τ.ival 1:Int)==τ.ival 11):=eqB (e.at 0 _ rfl rfl) rfl
  have b17:τ.bval 17= !((τ.ival 0:Int)==τ.ival 10):=eqB (e.at 1 _ rfl rfl) rfl
  have b18:τ.bval 18= !((τ.ival 2:Int)==τ.ival 12):=eqB (e.at 2 _ rfl rfl) rfl
  have b19:τ.bval 19= !((τ.ival 3:Int)==τ.ival 13):=eqB (e.at 3 _ rfl rfl) rfl
  have b20:τ.bval 20= !((τ.ival 4:Int)==τ.ival 14):=eqB (e.at 4 _ rfl rfl) rfl
  have b21:τ.bval 21= !((τ.ival 5:Int)==τ.ival 15):=eqB (e.at 5 _ rfl rfl) rfl
  refine ⟨fun f=> ?_,fun _=>⟨fun f=> ?_,fun _=>⟨fun f=> ?_,fun _=>⟨fun f=> ?_,fun _=>⟨fun f=> ?_,fun _=>⟨fun f=> ?_,fun _=> .inl ⟨rfl,rfl,Qbi (X:=Q1o) e hi (by kernel_rfl) (by kernel_rfl),⟨0,⟨sa 6 (by decide),(sa 8 (by decide)).trans qs.symm,a1.trans hgn,a7.trans hgN,a9,a0,a2,a3,a4,a5,a10,a12,a13,a14,a15,(a11.trans q4.symm).trans hgn,by omega,by omega,by omega,extS ag.ext.symm⟩,Nat.zero_le _,rfl⟩,tabS ht⟩⟩⟩⟩⟩⟩⟩
  ·rw [b16,a1,a11,q4] at f
   simp at f
  ·rw [b17,a0,a10,q5] at f
   simp at f
  ·rw [b18,a2,a12,q6] at f
   simp at f
  ·rw [b19,a3,a13,q7] at f
   simp at f
  ·rw [b20,a4,a14,q8] at f
   simp at f
  ·rw [b21,a5,a15,q9] at f
   simp at f)
end Go.Proofs.YtelimhjceiamcaaDoor.lg
