/-
 Contract of log.Sum: the check of bytes.
 No conditions.
-/
import Derived.Test.YtelimhjceiamcaaDoorBLg28
set_option maxRecDepth 100000
namespace Go.Proofs.YtelimhjceiamcaaDoor.lg
open Go.Ev Go.RowKit Go.Wbp Go.Lgp
open Go.Proofs.YtelimhjceiamcaaDoor.lgn (mixed sf48 Qda)
set_option linter.unusedVariables false
set_option linter.unusedSimpArgs false
def Ql7:List (Option IntKind):=[none]
def Qbew:Shape:=⟨argT 0 [.iface 92 (.ptr 0 0),.syms 0],[.cells [.int .u8 0] 90]⟩
def Qps:Shape:=⟨[(0,.iface 92 (.ptr 0 0)),(1,.syms 0),(6,.symi .i64 1),(7,.symi .i64 2)],[.cells [.symi .u8 3] 90]⟩
def Q2w:List (Option IntKind):=[none,none,some .i64,some .u8]
def Q2r:Shape:=⟨[(0,.iface 92 (.ptr 0 0))],[.cells [.symi .u8 2] 90]⟩
def sf37:SymF:=
 {f:=37,m:=1,ins:=Ql7,args:=[.iface 92 (.ptr 0 0),.syms 0],pre:=[.cells [.int .u8 0] 90],pcs:=[.bin .leq (.symi .i64 1) (.int .i64 1000000)],
  G:=[.sop .len [.syms 0],.fn 384 .u8 [.syms 0]],v:=.tuple [],post:=[.cells [.symi .u8 2] 90]}
def Qbev:Shape:=⟨argT 0 [.syms 0],[]⟩
def Qbep:Shape:=⟨[(2,.symi .u8 2)],[]⟩
def sf20:SymF:=
 {f:=20,m:=1,ins:=Ql7,args:=[.syms 0],pre:=[],pcs:=[.bin .leq (.symi .i64 1) (.int .i64 1000000)],
  G:=[.sop .len [.syms 0],.fn 384 .u8 [.syms 0]],v:=.symi .u8 2,post:=[]}
def Qpi:List SDef:=[.sop .len [.syms 0]]
def Q14:LT:=Go.Wbp.fT 1 Qpi (.n .e 7086 1 .e)
def Qbc6:Sw:=.run (.leaf .normal Qps [(0,0)] [(0,.syms 0),(1,.symi .i64 1),(2,.int .i64 0),(3,.int .u8 0)] [])
def Qbc5:KdT:=.n (.n .e none .e) none .e
noncomputable def Q15:Ing:={m:=1,ins:=Ql7,G:=Qpi,T:=Q14,tab:=Qa,lsts:=Qt,kb:=2,kt:=Qbc5}
theorem Qbc7:okLT 1 Qpi Q14=true:=by kernel_rfl
theorem Qbc8:okG Qpi 1=true:=by kernel_rfl
theorem Qbc9:SegOk Tryd.prog Qa 19 ((Qe (Qc Tryd.f37)).take 1) Qbew Q15 Qbc6 where
 lt:=Qbc7
 ok:=Qbc8
 hook:=fun F=>Qcb rfl F
 n0:=rfl
 id:=by kernel_rfl
 reck:=by kernel_rfl
 tab:=rfl
 cuts:=rfl
 kt:=by kernel_rfl
def Qpj:List SDef:=[.bin .lss (.symi .i64 2) (.symi .i64 1),
 .sop .len [.syms 0],
 .bin .leq (.int .i64 0) (.symi .i64 2),
 .bin .lss (.symi .i64 2) (.symi .i64 5),
 .sop .at [.syms 0,.symi .i64 2],
 .bin .shl (.symi .u8 3) (.int .u64 1),
 .bin .shr (.symi .u8 3) (.int .u64 7),
 .bin .or (.symi .u8 9) (.symi .u8 10),
 .bin .add (.symi .u8 11) (.symi .u8 8),
 .bin .add (.symi .i64 2) (.int .i64 1)]
def Q16:LT:=Go.Wbp.fT 4 Qpj (.n (.n (.n (.n .e 7086 5 .e) 47601572 11 .e) 202060958 13 (.n (.n .e 303061317 9 .e) 303361534 10 .e)) 545384606 4 (.n (.n (.n .e 636636807 12 .e) 686737383 6 .e) 690532547 8 (.n .e 845057091 7 .e)))
def Qbdb:Sw:=.node 6 (.run (.node 4 (.node 7 (.leaf .normal Qps [(0,0)] [(0,.syms 0),(1,.symi .i64 1),(2,.symi .i64 13),(3,.symi .u8 12)] []) (.dead)) (.leaf (.exit 0) Q2r [(0,0)] [(2,.symi .u8 3)] []))) (.dead)
def Qbda:KdT:=.n (.n (.n (.n .e none .e) (some .u8) (.n .e (some .u8) .e)) none (.n (.n .e (some .u8) .e) none (.n .e (some .i64) .e))) none (.n (.n (.n .e (some .u8) .e) none (.n .e (some .u8) .e)) (some .i64) (.n (.n .e (some .u8) .e) none .e))
noncomputable def Quj:Ing:={m:=4,ins:=Q2w,G:=Qpj,T:=Q16,tab:=Qa,lsts:=Qt,kb:=14,kt:=Qbda}
theorem Qbdc:okLT 4 Qpj Q16=true:=by kernel_rfl
theorem Qbdd:okG Qpj 4=true:=by kernel_rfl
theorem Qbde:SegOk Tryd.prog Qa 19 ([Qca (Qc Tryd.f37)]) Qps Quj Qbdb where
 lt:=Qbdc
 ok:=Qbdd
 hook:=fun F=>Qcb rfl F
 n0:=rfl
 id:=by kernel_rfl
 reck:=by kernel_rfl
 tab:=rfl
 cuts:=rfl
 kt:=by kernel_rfl
def Qlx:List SDef:=[.sop .len [.syms 0],
 .bin .leq (.symi .i64 1) (.int .i64 1000000),
 .fn 384 .u8 [.syms 0]]
def Qud:LT:=Go.Wbp.fT 1 Qlx (.n (.n .e 7086 1 .e) 22061 3 (.n .e 743886676 2 .e))
def Qbcs:Sw:=.node 2 (.run (.leaf .ret Qbep [] [(2,.symi .u8 3)] [])) (.dead)
def Q1r:KdT:=.n (.n (.n .e (some .u8) .e) none .e) none (.n .e none .e)
noncomputable def Q1s:Ing:={m:=1,ins:=Ql7,G:=Qlx,T:=Qud,tab:=Qa,lsts:=Qt,kb:=4,kt:=Q1r}
noncomputable def Qhs:Ing:={m:=1,ins:=Ql7,G:=Qlx,T:=Qud,tab:=Qa,lsts:=Qt,kb:=4,kt:=Q1r,mh:=Qbo (kdX Q1s) [sf37]}
theorem Q1t:okLT 1 Qlx Qud=true:=by kernel_rfl
theorem Qbcu:okG Qlx 1=true:=by kernel_rfl
theorem Qbam {S:ByteArray} {i:Nat} (h:i<S.size):(ints S).take (i+1)=(ints S).take i++[bAt S i]:=by
 have hl:i<(ints S).length:=by rw [Qtr];exact h
 rw [List.take_add_one,List.getElem?_eq_getElem hl]
 have:=Q0o S i h
 rw [List.getD_eq_getElem?_getD,List.getElem?_eq_getElem hl] at this
 simp only [Option.getD_some] at this
 simp only [Option.toList_some,this]
theorem roll {c x s r o v:Int} (h0:0<=c) (h1:c<256) (hs:s=c*2%256) (hr:r=c/128) (ho:o=IntKind.u8.wrap ((BitVec.ofInt IntKind.u8.bits s|||BitVec.ofInt IntKind.u8.bits r).toNat:Int)) (hv:v=(o+x)%256):v=Qm6 c x:=by
 have e:o=c*2%256+c/128:=by
  rw [ho,hs,hr]
  show IntKind.u8.wrap ((BitVec.ofInt 8 (c*2%256)|||BitVec.ofInt 8 (c/128):BitVec 8).toNat:Int)=_
  rw [wr_u8,BitVec.toNat_or,BitVec.toNat_ofInt,BitVec.toNat_ofInt]
  have e1:((c*2%256)%(2^8:Nat)).toNat=2^1*(c%128).toNat:=by omega
  have e2:(c/128%(2^8:Nat)).toNat=(c/128).toNat:=by omega
  rw [e1,e2,<-Nat.two_pow_add_eq_or_of_lt (by omega:(c/128).toNat<2^1)]
  omega
 rw [hv,e]
 unfold Qm6
 omega
structure J37 (S:ByteArray) (i:Nat) (σ:Sig):Prop where
 s:σ.sval 0=S
 n:σ.ival 1=(S.size:Nat)
 i0:σ.ival 2=i
 c:σ.ival 3=sumL ((ints S).take i)
 hi:i<=S.size
 sz:S.size<=1000000
theorem J37.agree {S:ByteArray} {i:Nat} {σ τ:Sig} (ag:Agree 4 σ τ) (h:J37 S i σ):J37 S i τ:=
 ⟨by rw [<-(ag.val 0 (by decide)).2.2];exact h.s,by rw [<-(ag.val 1 (by decide)).1];exact h.n,by rw [<-(ag.val 2 (by decide)).1];exact h.i0,by rw [<-(ag.val 3 (by decide)).1];exact h.c,h.hi,h.sz⟩
def L37:Asg:=[(2,.symi .u8 2)]
set_option maxHeartbeats 1000000 in
theorem c37:SymFOk Tryd.prog Qa (fun _=>True) sf37:=
 Qel Tryd.func37 rfl (n:=19) rfl (by decide) (by decide) rfl rfl (by kernel_rfl) (fun g w hg _ hE hI hpc hH=>by
  have q0:=hpc (.bin .leq (.symi .i64 1) (.int .i64 1000000)) (by simp [sf37])
  simp only [Qb,den,binS,intA,if_true,Option.some.injEq,AVal.bool.injEq,decide_eq_true_eq] at q0
  have g1:g.sig.ival 1=((g.sig.sval 0).size:Nat):=Qbm (hE.at 0 _ rfl rfl)
  have g2:g.sig.ival 2=sumS (g.sig.sval 0):=by
   have h:g.sig.ival 2=IntKind.u8.wrap (g.sig.tab 384 [encB (g.sig.sval 0)]):=eqFn (hE.at 1 _ rfl rfl)
   have:=Qhb (ints (g.sig.sval 0))
   rw [hg,Qma,wr_u8] at h
   unfold sumS at h⊢
   omega
  have hlast:Qf Tryd.prog Qa 19 (Qbh g w sf37.pre.length) (bodyPost Tryd.prog Tryd.f37 (MemR Qa sf37 g w)) [] Q2r 3 [none,none,some .u8] (fun σ=>σ.ival 2=sumS (g.sig.sval 0)/\σ.ext=g.sig.ext):=by
   intro a w' σ hA hi hj ht
   refine (Qeu (M:=3) (l:=L37) (vs:=[]) (x:=.normal) (by kernel_rfl) rfl rfl hH hg rfl rfl rfl (by kernel_rfl) (by kernel_rfl) ⟨?_,trivial⟩ (by decide) hj.2 (.inr rfl)) .normal a w' trivial hA
   show AVal.int .u8 (σ.ival 2)=AVal.int .u8 (g.sig.ival 2)
   rw [hj.1,g2]
  rw [show Qe (Qc Tryd.f37)=(Qe (Qc Tryd.f37)).take 1++(.block (idOf (Qc Tryd.f37)) (.loop (Qca (Qc Tryd.f37)))::[]) from rfl]
  have hloop:Qf Tryd.prog Qa 19 (Qbh g w sf37.pre.length) (bodyPost Tryd.prog Tryd.f37 (MemR Qa sf37 g w)) (.block (idOf (Qc Tryd.f37)) (.loop (Qca (Qc Tryd.f37)))::[]) Qps 4 Q2w (fun σ=>(∃i,J37 (g.sig.sval 0) i σ)/\σ.ext=g.sig.ext):=by
   refine Qf.loop (μ:=fun σ=>(σ.ival 1-σ.ival 2).toNat) mixed Qbde ⟨rfl,rfl⟩ (fun σ τ ag h=>⟨(let ⟨i,hi⟩:=h.1;⟨i,hi.agree ag⟩),by rw [<-ag.ext];exact h.2⟩) (fun σ τ ag=>by rw [(ag.val 1 (by decide)).1,(ag.val 2 (by decide)).1]) (fun τ h=>Qbe) hlast (fun τ e ht hi hj=> ?_) (pin0 (by kernel_rfl))
   obtain ⟨⟨i,hj⟩,hx⟩:=hj
   refine Q6 ?_
   have hs:=hj.s
   have hn:=hj.n
   have hi0:=hj.i0
   have hc:=hj.c
   have hhi:=hj.hi
   have hsz:=hj.sz
   have hc0:=Qhb ((ints (g.sig.sval 0)).take i)
   have b4:τ.bval 4=decide (τ.ival 2<τ.ival 1):=eqB (e.at 0 _ rfl rfl) rfl
   have i5:τ.ival 5=((τ.sval 0).size:Nat):=Qbm (e.at 1 _ rfl rfl)
   have b6:τ.bval 6=decide ((0:Int)<=τ.ival 2):=eqB (e.at 2 _ rfl rfl) rfl
   have b7:τ.bval 7=decide (τ.ival 2<τ.ival 5):=eqB (e.at 3 _ rfl rfl) rfl
   have i8:τ.ival 8=bAt (τ.sval 0) (τ.ival 2):=eqAt (e.at 4 _ rfl rfl) rfl
   have i9:τ.ival 9=IntKind.u8.wrap (τ.ival 3*2):=(eqI (x:=IntKind.u8.wrap (τ.ival 3*2^(min (1:Int).toNat IntKind.u8.bits))) (e.at 5 _ rfl rfl) rfl).trans (by rw [show (2:Int)^(min (1:Int).toNat IntKind.u8.bits)=2 by decide])
   have i10:τ.ival 10=τ.ival 3/128:=(eqI (x:=(τ.ival 3:Int).fdiv (2^(min (7:Int).toNat IntKind.u8.bits))) (e.at 6 _ rfl rfl) rfl).trans (by rw [show (2:Int)^(min (7:Int).toNat IntKind.u8.bits)=128 by decide];exact Qbg (by decide))
   have i11:τ.ival 11=IntKind.u8.wrap (BitVec.ofInt IntKind.u8.bits (τ.ival 9)|||BitVec.ofInt IntKind.u8.bits (τ.ival 10)).toNat:=eqI (e.at 7 _ rfl rfl) rfl
   have i12:τ.ival 12=IntKind.u8.wrap (τ.ival 11+τ.ival 8):=eqI (e.at 8 _ rfl rfl) rfl
   have i13:τ.ival 13=IntKind.i64.wrap (τ.ival 2+1):=eqI (e.at 9 _ rfl rfl) rfl
   have tr: ∀{P:Prop} {b:Bool} [Decidable P],b=decide P->b=false->P->False:=fun hb hf hp=>by rw [hb,decide_eq_false_iff_not] at hf;exact hf hp
   rw [hs] at i5 i8
   refine ⟨fun f6=>⟨fun f4=>⟨fun f7=> ?_,fun f=>tr b7 f (by rw [b4,decide_eq_true_eq] at f4;omega)⟩,fun f4=> ?_⟩,fun f=>tr b6 f (by omega)⟩
   ·rw [b4,decide_eq_true_eq] at f4
    rw [Qh] at i13
    rw [wr_u8] at i9 i12
    have hlt:i<(g.sig.sval 0).size:=by omega
    have hst:=roll (by omega) (by omega) i9 i10 i11 i12
    rw [hi0] at i8
    rw [hc] at hst
    refine .inl ⟨rfl,rfl,Qbi (X:=Quj) e hi (by kernel_rfl) (by kernel_rfl),⟨⟨i+1,hs,hn,?_,?_,hlt,hsz⟩,extS hx⟩,tabS ht,?_⟩
    ·show τ.ival 13=_
     omega
    ·show τ.ival 12=_
     rw [Qbam hlt,Q6f,hst,i8]
    ·show (τ.ival 1-τ.ival 13).toNat<(τ.ival 1-τ.ival 2).toNat
     omega
   ·rw [b4,decide_eq_false_iff_not] at f4
    have hie:i=(ints (g.sig.sval 0)).length:=by rw [Qtr];omega
    refine .inr (.inl ⟨rfl,rfl,Qbi (X:=Quj) e hi (by kernel_rfl) (by kernel_rfl),⟨?_,extS hx⟩,tabS ht⟩)
    show τ.ival 3=_
    rw [hc,hie,List.take_length]
    rfl
  refine Qf.seg mixed Qbc9 ⟨rfl,rfl⟩ (fun σ τ (ag:Agree 1 σ τ) (h:Agree 1 g.sig σ)=>h.trans' ag) (fun τ h=>Qbe) hloop (fun τ e ht hi ag=> ?_) (pin0 (by kernel_rfl))
  refine Q6 ?_
  have i1:τ.ival 1=((τ.sval 0).size:Nat):=Qbm (e.at 0 _ rfl rfl)
  have a0:τ.sval 0=g.sig.sval 0:=(ag.val 0 (by decide)).2.2.symm
  refine .inl ⟨rfl,rfl,Qbi (X:=Q15) e hi (by kernel_rfl) (by kernel_rfl),⟨⟨0,a0,?_,rfl,rfl,Nat.zero_le _,by omega⟩,extS ag.ext.symm⟩,tabS ht⟩
  show τ.ival 1=_
  rw [i1,a0])
theorem Qbct (F:List Fact):Hooks Tryd.prog (cxOf Qhs F) where
 val:=fun f args v h=>by simp only [Qhs,cxOf,Qc8,reduceCtorEq] at h
 mem:=fun f args hp v hp' h=>by
  replace h:(Qbo (kdX Q1s) [sf37]) (symS (Qq Qhs F)) f args hp=some (v,hp'):=h
  exact Qf4 (X:=Qhs) (tbl:=[sf37]) (inv:=fun _=>True) (fun e he=>by
   simp only [List.mem_cons,List.not_mem_nil,or_false] at he
   rcases he with rfl
   ·exact c37
   ) Q1t rfl (fun _ _ _ _=>trivial) F f args hp v hp' h
 ovl:=fun f k h=>by simp only [Qhs,cxOf,reduceCtorEq] at h
 atm:=fun k b h=>by simp only [Qhs,cxOf,List.not_mem_nil] at h
theorem Qbcv:SegOk Tryd.prog Qa 8 (Qe (Qc Tryd.f20)) Qbev Qhs Qbcs where
 lt:=Q1t
 ok:=Qbcu
 hook:=Qbct
 n0:=rfl
 id:=by kernel_rfl
 reck:=by kernel_rfl
 tab:=rfl
 cuts:=rfl
 kt:=by kernel_rfl
def L20:Asg:=[(2,.symi .u8 2)]
theorem c20:SymFOk Tryd.prog Qa (fun _=>True) sf20:=
 Qel Tryd.func20 rfl (n:=8) rfl (by decide) (by decide) rfl rfl (by kernel_rfl) (fun g w hg _ hE hI hpc hH=>by
  refine Qf.last mixed Qbcv ⟨rfl,rfl⟩ (fun σ τ (ag:Agree 1 σ τ) (h:Agree 1 g.sig σ)=>h.trans' ag) (fun τ h=>Qbe) (fun τ e ht hi ag=> ?_) (pin0 (by kernel_rfl))
  refine Q6 ?_
  have q0:=hpc (.bin .leq (.symi .i64 1) (.int .i64 1000000)) (by simp [sf20])
  simp only [Qb,den,binS,intA,if_true,Option.some.injEq,AVal.bool.injEq,decide_eq_true_eq] at q0
  have g1:g.sig.ival 1=((g.sig.sval 0).size:Nat):=Qbm (hE.at 0 _ rfl rfl)
  have g2:g.sig.ival 2=IntKind.u8.wrap (g.sig.tab 384 [encB (g.sig.sval 0)]):=eqFn (hE.at 1 _ rfl rfl)
  have a0:τ.sval 0=g.sig.sval 0:=(ag.val 0 (by decide)).2.2.symm
  have i1:τ.ival 1=((τ.sval 0).size:Nat):=Qbm (e.at 0 _ rfl rfl)
  have b2:τ.bval 2=decide (τ.ival 1<=1000000):=eqB (e.at 1 _ rfl rfl) rfl
  have i3:τ.ival 3=IntKind.u8.wrap (τ.tab 384 [encB (τ.sval 0)]):=eqFn (e.at 2 _ rfl rfl)
  have tr: ∀{P:Prop} {b:Bool} [Decidable P],b=decide P->b=false->P->False:=fun hb hf hp=>by rw [hb,decide_eq_false_iff_not] at hf;exact hf hp
  refine ⟨fun _=>Qeu (M:=3) (l:=L20) (vs:=[.symi .u8 2]) (by kernel_rfl) rfl rfl hH hg rfl rfl rfl (by kernel_rfl) (by kernel_rfl) ⟨?_,trivial⟩ (by decide) (extS ag.ext.symm) (.inl rfl),fun f=>tr b2 f (by rw [i1,a0];omega)⟩
  show AVal.int .u8 (τ.ival 3)=AVal.int .u8 (g.sig.ival 2)
  rw [i3,g2,ht,hg,a0])
end Go.Proofs.YtelimhjceiamcaaDoor.lg
