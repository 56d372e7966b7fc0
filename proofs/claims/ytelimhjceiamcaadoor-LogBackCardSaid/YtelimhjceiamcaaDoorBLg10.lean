/-
 Contract of as: a log as the document's.
 No conditions.
-/
import Derived.Test.YtelimhjceiamcaaDoorBLg15
set_option maxRecDepth 100000
namespace Go.Proofs.YtelimhjceiamcaaDoor.lg
open Go.Ev Go.RowKit Go.Wbp Go.Lgp
open Go.Proofs.YtelimhjceiamcaaDoor.lgn (mixed sf48 Qda)
set_option linter.unusedVariables false
set_option linter.unusedSimpArgs false
def lgZ0:List AVal:=[.int .u32 0,.nilslice,.int .i64 0,.int .u64 0,.int .u64 0,.int .i64 0]
def Qber:Shape:=⟨argT 0 [lgA],[eL 6 7]⟩
def Q21:List (Nat×AVal):=[(0,lgA),(1,.ptr 1 0),(2,.ptr 2 0),(3,.ptr 3 0)]
def Q2n:List Blk:=[eL 6 7,.cells lgC 26,.cells lgZ0 39,.cells [.symi .u32 0,.lsl 4 4 true (.int .i64 0) (.symi .i64 9),.symi .i64 2,.symi .u64 3,.symi .u64 4,.symi .i64 5] 39,.lst (.syms 10) (.symi .i64 9) cl4 67]
def Qpq:Shape:=⟨Q21++[(4,.symi .i64 8)],Q2n⟩
def Qus:Shape:=⟨Q21,Q2n⟩
def Q2u:List (Option IntKind):=lgK++[some .i64,some .i64,none]
def Q2x:List (Option IntKind):=lgK++[none,some .i64,none]
def Qpw:List AVal:=[.symi .u32 0,.lsl 1 4 true (.int .i64 0) (.symi .i64 1),.symi .i64 2,.symi .u64 3,.symi .u64 4,.symi .i64 5]
def Qben:Shape:=⟨[(0,lgA),(2,.ptr 2 0)],[eL 6 7,.lst (.syms 8) (.symi .i64 1) cl4 67,.cells Qpw 39]⟩
def sf10:SymF:=
 {f:=10,m:=8,ins:=lgK,args:=[lgA],pre:=[eL 6 7],pcs:=lgQ,G:=[.sop (.fs 704) [.syms 6,.symi .i64 1]],
  v:=.agg Qpw,post:=[eL 6 7,.lst (.syms 8) (.symi .i64 1) cl4 67,.cells Qpw 39]}
def Qt3:List SDef:=[]
def Q06:LT:=.e
def Qba5:Sw:=.run (.leaf .normal Qpq [(0,0),(1,0),(2,0),(3,0),(1000004,0)] [(0,.symi .u32 0),(1,.symi .i64 1),(2,.symi .i64 2),(3,.symi .u64 3),(4,.symi .u64 4),(5,.symi .i64 5),(8,.int .i64 0),(6,.syms 6),(7,.symi .i64 7),(0,.symi .u32 0),(1,.symi .i64 1),(2,.symi .i64 2),(3,.symi .u64 3),(4,.symi .u64 4),(5,.symi .i64 5),(0,.symi .u32 0),(9,.int .i64 0),(2,.symi .i64 2),(3,.symi .u64 3),(4,.symi .u64 4),(5,.symi .i64 5),(10,.str ⟨#[]⟩),(9,.int .i64 0)] [])
def Qba4:KdT:=.n (.n (.n (.n .e (some .i64) .e) (some .u64) .e) (some .i64) (.n .e (some .i64) .e)) (some .u32) (.n (.n .e (some .u64) .e) (some .i64) (.n .e none .e))
noncomputable def Q07:Ing:={m:=8,ins:=lgK,G:=Qt3,T:=Q06,tab:=Qa,lsts:=Qt,kb:=8,kt:=Qba4}
theorem Qba6:okLT 8 Qt3 Q06=true:=by kernel_rfl
theorem Qba7:okG Qt3 8=true:=by kernel_rfl
theorem Qba8:SegOk Tryd.prog Qa 34 ((Qe (Qc Tryd.f10)).take 3) Qber Q07 Qba5 where
 lt:=Qba6
 ok:=Qba7
 hook:=fun F=>Qcb rfl F
 n0:=rfl
 id:=by kernel_rfl
 reck:=by kernel_rfl
 tab:=rfl
 cuts:=rfl
 kt:=by kernel_rfl
def Qpd:List SDef:=[.bin .lss (.symi .i64 8) (.symi .i64 1),
 .bin .lss (.symi .i64 8) (.symi .i64 7),
 .bin .leq (.int .i64 0) (.symi .i64 8),
 .sop (.cell [.some .u64,.some .u64,.some .i64,.some .u8] 0) [.syms 6,.symi .i64 8],
 .sop (.cell [.some .u64,.some .u64,.some .i64,.some .u8] 1) [.syms 6,.symi .i64 8],
 .sop (.cell [.some .u64,.some .u64,.some .i64,.some .u8] 2) [.syms 6,.symi .i64 8],
 .sop (.cell [.some .u64,.some .u64,.some .i64,.some .u8] 3) [.syms 6,.symi .i64 8],
 .sop (.row [.some .u64,.some .u64,.some .i64,.some .u8]) [.symi .u64 14,.symi .u64 15,.symi .i64 16,.symi .u8 17],
 .sop .cat [.syms 10,.syms 18],
 .bin .add (.symi .i64 9) (.int .i64 1),
 .bin .leq (.int .i64 0) (.symi .i64 20),
 .bin .leq (.symi .i64 20) (.int .i64 4398046511104),
 .bin .add (.symi .i64 8) (.int .i64 1)]
def Q08:LT:=Go.Wbp.fT 11 Qpd (.n (.n (.n (.n .e 77644597 11 .e) 331444568 22 (.n .e 370448242 19 .e)) 424650825 21 (.n (.n .e 521749651 18 .e) 542408004 14 .e)) 542408006 15 (.n (.n (.n .e 542408008 16 .e) 542408010 17 (.n .e 599375197 13 .e)) 808062776 23 (.n (.n .e 909063079 20 .e) 1064024238 12 .e)))
def Qbba:Sw:=.node 11 (.node 12 (.node 13 (.node 21 (.node 22 (.run (.leaf .normal Qpq [(0,0),(1,0),(2,0),(3,0),(6,0)] [(0,.symi .u32 0),(1,.symi .i64 1),(2,.symi .i64 2),(3,.symi .u64 3),(4,.symi .u64 4),(5,.symi .i64 5),(8,.symi .i64 23),(6,.syms 6),(7,.symi .i64 7),(0,.symi .u32 0),(1,.symi .i64 1),(2,.symi .i64 2),(3,.symi .u64 3),(4,.symi .u64 4),(5,.symi .i64 5),(0,.symi .u32 0),(9,.symi .i64 20),(2,.symi .i64 2),(3,.symi .u64 3),(4,.symi .u64 4),(5,.symi .i64 5),(10,.syms 19),(9,.symi .i64 20)] [])) (.dead)) (.dead)) (.dead)) (.dead)) (.run (.leaf (.exit 0) Qus [(0,0),(1,0),(2,0),(3,0),(4,0)] [(0,.symi .u32 0),(1,.symi .i64 1),(2,.symi .i64 2),(3,.symi .u64 3),(4,.symi .u64 4),(5,.symi .i64 5),(6,.syms 6),(7,.symi .i64 7),(0,.symi .u32 0),(1,.symi .i64 1),(2,.symi .i64 2),(3,.symi .u64 3),(4,.symi .u64 4),(5,.symi .i64 5),(0,.symi .u32 0),(9,.symi .i64 9),(2,.symi .i64 2),(3,.symi .u64 3),(4,.symi .u64 4),(5,.symi .i64 5),(10,.syms 10),(9,.symi .i64 9)] []))
def Qba9:KdT:=.n (.n (.n (.n (.n .e (some .u64) .e) (some .i64) (.n .e (some .i64) .e)) (some .u64) (.n (.n .e none .e) none .e)) (some .i64) (.n (.n (.n .e (some .u8) .e) (some .i64) .e) (some .i64) (.n (.n .e none .e) none .e))) (some .u32) (.n (.n (.n (.n .e (some .i64) .e) (some .i64) .e) (some .u64) (.n (.n .e (some .i64) .e) none .e)) (some .i64) (.n (.n (.n .e none .e) none .e) none (.n (.n .e none .e) (some .u64) .e)))
noncomputable def Qt4:Ing:={m:=11,ins:=Q2u,G:=Qpd,T:=Q08,tab:=Qa,lsts:=Qt,kb:=24,kt:=Qba9}
theorem Qbbb:okLT 11 Qpd Q08=true:=by kernel_rfl
theorem Qbbc:okG Qpd 11=true:=by kernel_rfl
theorem Qbbd:SegOk Tryd.prog Qa 34 ([Qca (Qc Tryd.f10)]) Qpq Qt4 Qbba where
 lt:=Qbbb
 ok:=Qbbc
 hook:=fun F=>Qcb rfl F
 n0:=rfl
 id:=by kernel_rfl
 reck:=by kernel_rfl
 tab:=rfl
 cuts:=rfl
 kt:=by kernel_rfl
def Qt5:List SDef:=[]
def Q09:LT:=.e
def Qbbf:Sw:=.run (.leafE .ret Qben [(0,0),(4,0),(2,0)] [(0,.symi .u32 0),(1,.symi .i64 1),(2,.symi .i64 2),(3,.symi .u64 3),(4,.symi .u64 4),(5,.symi .i64 5),(6,.syms 6),(7,.symi .i64 7),(8,.syms 10),(1,.symi .i64 9),(0,.symi .u32 0),(1,.symi .i64 9),(2,.symi .i64 2),(3,.symi .u64 3),(4,.symi .u64 4),(5,.symi .i64 5)] [])
def Qbbe:KdT:=.n (.n (.n (.n .e (some .i64) .e) (some .u64) .e) (some .i64) (.n (.n .e (some .i64) .e) (some .i64) .e)) (some .u32) (.n (.n (.n .e none .e) (some .u64) .e) (some .i64) (.n (.n .e none .e) none .e))
noncomputable def Qbbg:Ing:={m:=11,ins:=Q2x,G:=Qt5,T:=Q09,tab:=Qa,lsts:=Qt,kb:=11,kt:=Qbbe}
theorem Qbbh:okLT 11 Qt5 Q09=true:=by kernel_rfl
theorem Qbbi:okG Qt5 11=true:=by kernel_rfl
theorem Qbbj:SegOk Tryd.prog Qa 34 ((Qe (Qc Tryd.f10)).drop 4) Qus Qbbg Qbbf where
 lt:=Qbbh
 ok:=Qbbi
 hook:=fun F=>Qcb rfl F
 n0:=rfl
 id:=by kernel_rfl
 reck:=by kernel_rfl
 tab:=rfl
 cuts:=rfl
 kt:=by kernel_rfl
structure M10 (g:Sig) (C:ByteArray) (n N i:Nat) (σ:Sig):Prop where
 s:σ.sval 6=C
 n0:σ.ival 1=n
 nN:σ.ival 7=N
 v0:σ.ival 0=g.ival 0
 v2:σ.ival 2=g.ival 2
 v3:σ.ival 3=g.ival 3
 v4:σ.ival 4=g.ival 4
 v5:σ.ival 5=g.ival 5
 m:σ.ival 9=i
 c:σ.sval 10=Lgp.encL (lstE C i)
 le:n<=N
 hi:i<=n
 sz:N<=1000000
 xe:σ.ext=g.ext
theorem M10.agree {g:Sig} {C:ByteArray} {n N i:Nat} {σ τ:Sig} (ag:Agree 11 σ τ) (h:M10 g C n N i σ):M10 g C n N i τ:=
 ⟨by rw [<-(ag.val 6 (by decide)).2.2];exact h.s,by rw [<-(ag.val 1 (by decide)).1];exact h.n0,by rw [<-(ag.val 7 (by decide)).1];exact h.nN,by rw [<-(ag.val 0 (by decide)).1];exact h.v0,by rw [<-(ag.val 2 (by decide)).1];exact h.v2,by rw [<-(ag.val 3 (by decide)).1];exact h.v3,by rw [<-(ag.val 4 (by decide)).1];exact h.v4,by rw [<-(ag.val 5 (by decide)).1];exact h.v5,by rw [<-(ag.val 9 (by decide)).1];exact h.m,by rw [<-(ag.val 10 (by decide)).2.2];exact h.c,h.le,h.hi,h.sz,by rw [<-ag.ext];exact h.xe⟩
structure J10 (g:Sig) (C:ByteArray) (n N i:Nat) (σ:Sig):Prop where
 m:M10 g C n N i σ
 i0:σ.ival 8=i
theorem J10.agree {g:Sig} {C:ByteArray} {n N i:Nat} {σ τ:Sig} (ag:Agree 11 σ τ) (h:J10 g C n N i σ):J10 g C n N i τ:=
 ⟨h.m.agree ag,by rw [<-(ag.val 8 (by decide)).1];exact h.i0⟩
def L10:Asg:=[(0,.symi .u32 0),(1,.symi .i64 1),(2,.symi .i64 2),(3,.symi .u64 3),(4,.symi .u64 4),(5,.symi .i64 5),(6,.syms 6),(7,.symi .i64 7),(8,.syms 8),(1,.symi .i64 1),(0,.symi .u32 0),(1,.symi .i64 1),(2,.symi .i64 2),(3,.symi .u64 3),(4,.symi .u64 4),(5,.symi .i64 5)]
abbrev Z10 (g:Inj) (w:World):Exit->Act->World->Prop:=bodyPost Tryd.prog Tryd.f10 (MemR Qa sf10 g w)
set_option maxHeartbeats 1000000 in
theorem c10:SymFOk Tryd.prog Qa (fun _=>True) sf10:=
 Qel Tryd.func10 rfl (n:=34) rfl (by decide) (by decide) rfl rfl (by kernel_rfl) (fun g w hg _ hE hI hpc hH=>by
  have q0:=hpc (.bin .leq (.int .i64 0) (.symi .i64 1)) (by simp [sf10,lgQ])
  have q1:=hpc (.bin .leq (.symi .i64 1) (.symi .i64 7)) (by simp [sf10,lgQ])
  have q2:=hpc (.bin .leq (.symi .i64 7) (.int .i64 1000000)) (by simp [sf10,lgQ])
  simp only [Qb,den,binS,intA,if_true,Option.some.injEq,AVal.bool.injEq,decide_eq_true_eq] at q0 q1 q2
  obtain ⟨n,hgn⟩: ∃n:Nat,g.sig.ival 1=n:=⟨(g.sig.ival 1).toNat,by omega⟩
  obtain ⟨N,hgN⟩: ∃n:Nat,g.sig.ival 7=n:=⟨(g.sig.ival 7).toNat,by omega⟩
  have g8:g.sig.sval 8=decS (g.sig.tab 704 [encB (g.sig.sval 6),g.sig.ival 1]):=eqFs (hE.at 0 _ rfl rfl)
  rw [hg,hgn,Qu0] at g8
  have hlast:Qf Tryd.prog Qa 34 (Qbh g w sf10.pre.length) (Z10 g w) ((Qe (Qc Tryd.f10)).drop 4) Qus 11 Q2x (M10 g.sig (g.sig.sval 6) n N n):=by
   refine Qf.last mixed Qbbj ⟨rfl,rfl⟩ (fun σ τ ag h=>h.agree ag) (fun τ h=>Qbe) (fun τ e ht hi hj=> ?_) (pin0 (by kernel_rfl))
   refine Q6 ?_
   have h9:den τ (.symi .i64 9)=den τ (.symi .i64 1):=congrArg (AVal.int .i64) (hj.m.trans hj.n0.symm)
   have h1:τ.ival 1=g.sig.ival 1:=hj.n0.trans hgn.symm
   have h9g:τ.ival 9=g.sig.ival 1:=hj.m.trans hgn.symm
   refine ⟨⟨h9,h9,trivial⟩,?_⟩
   exact Qeu (M:=9) (l:=L10) (vs:=[.agg Qpw]) (by kernel_rfl) rfl rfl hH hg rfl rfl rfl (by kernel_rfl) (by kernel_rfl) ⟨congrArg (AVal.int .u32) hj.v0,congrArg (AVal.int .i64) h1,congrArg (AVal.int .i64) hj.v2,congrArg (AVal.int .u64) hj.v3,congrArg (AVal.int .u64) hj.v4,congrArg (AVal.int .i64) hj.v5,congrArg AVal.str hj.s,congrArg (AVal.int .i64) (hj.nN.trans hgN.symm),congrArg AVal.str (hj.c.trans g8.symm),congrArg (AVal.int .i64) h1,congrArg (AVal.int .u32) hj.v0,congrArg (AVal.int .i64) h1,congrArg (AVal.int .i64) hj.v2,congrArg (AVal.int .u64) hj.v3,congrArg (AVal.int .u64) hj.v4,congrArg (AVal.int .i64) hj.v5,trivial⟩ (by decide) (extS hj.xe) (.inl rfl)
  rw [show Qe (Qc Tryd.f10)=(Qe (Qc Tryd.f10)).take 3++(.block (idOf (Qc Tryd.f10)) (.loop (Qca (Qc Tryd.f10)))::(Qe (Qc Tryd.f10)).drop 4) from rfl]
  have hloop:Qf Tryd.prog Qa 34 (Qbh g w sf10.pre.length) (Z10 g w) (.block (idOf (Qc Tryd.f10)) (.loop (Qca (Qc Tryd.f10)))::(Qe (Qc Tryd.f10)).drop 4) Qpq 11 Q2u (fun σ=> ∃i,J10 g.sig (g.sig.sval 6) n N i σ):=by
   refine Qf.loop (μ:=fun σ=>(σ.ival 1-σ.ival 8).toNat) mixed Qbbd ⟨rfl,rfl⟩ (fun σ τ ag h=>let ⟨i,hi⟩:=h;⟨i,hi.agree ag⟩) (fun σ τ ag=>by rw [(ag.val 1 (by decide)).1,(ag.val 8 (by decide)).1]) (fun τ h=>Qbe) hlast (fun τ e ht hi hj=> ?_) (pin0 (by kernel_rfl))
   obtain ⟨i,⟨hj,hi0⟩⟩:=hj
   refine Q6 ?_
   have hn0:=hj.n0
   have hnN:=hj.nN
   have hm:=hj.m
   have hle:=hj.le
   have hhi:=hj.hi
   have hsz:=hj.sz
   have b11:τ.bval 11=decide (τ.ival 8<τ.ival 1):=eqB (e.at 0 _ rfl rfl) rfl
   have b12:τ.bval 12=decide (τ.ival 8<τ.ival 7):=eqB (e.at 1 _ rfl rfl) rfl
   have b13:τ.bval 13=decide ((0:Int)<=τ.ival 8):=eqB (e.at 2 _ rfl rfl) rfl
   have i14:τ.ival 14=(rowE (τ.sval 6) (τ.ival 8:Int).toNat).r:=Qb0 (e.at 3 _ rfl rfl) rfl
   have i15:τ.ival 15=(rowE (τ.sval 6) (τ.ival 8:Int).toNat).b:=Qb0 (e.at 4 _ rfl rfl) rfl
   have i16:τ.ival 16=(rowE (τ.sval 6) (τ.ival 8:Int).toNat).k:=Qb0 (e.at 5 _ rfl rfl) rfl
   have i17:τ.ival 17=(rowE (τ.sval 6) (τ.ival 8:Int).toNat).v:=Qb0 (e.at 6 _ rfl rfl) rfl
   have s18:τ.sval 18=encX ⟨τ.ival 14,τ.ival 15,τ.ival 16,τ.ival 17⟩:=Qbu (e.at 7 _ rfl rfl)
   have s19:τ.sval 19=τ.sval 10++τ.sval 18:=Qu (e.at 8 _ rfl rfl) rfl rfl
   have i20:τ.ival 20=IntKind.i64.wrap (τ.ival 9+1):=eqI (e.at 9 _ rfl rfl) rfl
   have b21:τ.bval 21=decide ((0:Int)<=τ.ival 20):=eqB (e.at 10 _ rfl rfl) rfl
   have b22:τ.bval 22=decide (τ.ival 20<=4398046511104):=eqB (e.at 11 _ rfl rfl) rfl
   have i23:τ.ival 23=IntKind.i64.wrap (τ.ival 8+1):=eqI (e.at 12 _ rfl rfl) rfl
   have tr: ∀{P:Prop} {b:Bool} [Decidable P],b=decide P->b=false->P->False:=fun hb hf hp=>by rw [hb,decide_eq_false_iff_not] at hf;exact hf hp
   refine ⟨fun f11=> ?_,fun f11=> ?_⟩
   ·rw [b11,decide_eq_true_eq] at f11
    have hlt:i<n:=by omega
    rw [hj.s,hi0,Int.toNat_natCast] at i14 i15 i16 i17
    rw [i14,i15,i16,i17] at s18
    rw [s18,hj.c] at s19
    have hc:τ.sval 19=Lgp.encL (lstE (g.sig.sval 6) (i+1)):=by
     rw [s19,Qvg,Lgp.encL_snoc]
    rw [Qh] at i20 i23
    refine ⟨fun f12=>⟨fun f13=>⟨fun f21=>⟨fun f22=> .inl ⟨rfl,rfl,Qbi (X:=Qt4) e hi (by kernel_rfl) (by kernel_rfl),⟨i+1,⟨hj.s,hj.n0,hj.nN,hj.v0,hj.v2,hj.v3,hj.v4,hj.v5,?_,hc,hle,hlt,hsz,extS hj.xe⟩,?_⟩,tabS ht,?_⟩,fun f=>tr b22 f (by omega)⟩,fun f=>tr b21 f (by omega)⟩,fun f=>tr b13 f (by omega)⟩,fun f=>tr b12 f (by omega)⟩
    ·show τ.ival 20=_
     omega
    ·show τ.ival 23=_
     omega
    ·show (τ.ival 1-τ.ival 23).toNat<(τ.ival 1-τ.ival 8).toNat
     omega
   ·rw [b11,decide_eq_false_iff_not] at f11
    obtain rfl:i=n:=by omega
    exact .inr (.inl ⟨rfl,rfl,Qbi (X:=Qt4) e hi (by kernel_rfl) (by kernel_rfl),⟨hj.s,hj.n0,hj.nN,hj.v0,hj.v2,hj.v3,hj.v4,hj.v5,hj.m,hj.c,hle,hhi,hsz,extS hj.xe⟩,tabS ht⟩)
  refine Qf.seg mixed Qba8 ⟨rfl,rfl⟩ (fun σ τ (ag:Agree 8 σ τ) (h:Agree 8 g.sig σ)=>h.trans' ag) (fun τ h=>Qbe) hloop (fun τ e ht hi ag=> ?_) (pin0 (by kernel_rfl))
  refine Q6 ?_
  have a:=fun i h=>(ag.val i h).1.symm
  exact .inl ⟨rfl,rfl,Qbi (X:=Q07) e hi (by kernel_rfl) (by kernel_rfl),⟨0,⟨(ag.val 6 (by decide)).2.2.symm,(a 1 (by decide)).trans hgn,(a 7 (by decide)).trans hgN,a 0 (by decide),a 2 (by decide),a 3 (by decide),a 4 (by decide),a 5 (by decide),rfl,rfl,by omega,Nat.zero_le _,by omega,extS ag.ext.symm⟩,rfl⟩,tabS ht⟩)
end Go.Proofs.YtelimhjceiamcaaDoor.lg
