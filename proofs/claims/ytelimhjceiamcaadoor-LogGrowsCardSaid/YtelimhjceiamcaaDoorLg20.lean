/-
 Contract of log.Sum: the check of bytes.
 No conditions.
-/
import Derived.Test.YtelimhjceiamcaaDoorLg28
set_option maxRecDepth 100000
namespace Go.Proofs.YtelimhjceiamcaaDoor.lg
open Go.Ev Go.RowKit Go.Wbp Go.Lgp
open Go.Proofs.YtelimhjceiamcaaDoor.lgn (mixed sf48 Qdp)
set_option linter.unusedVariables false
set_option linter.unusedSimpArgs false
def Qmi:List (Option IntKind):=[none]
def Q6v:Shape:=⟨argT 0 [.iface 92 (.ptr 0 0),.syms 0],[.cells [.int .u8 0] 90]⟩
def Qok:Shape:=⟨[(0,.iface 92 (.ptr 0 0)),(1,.syms 0),(6,.symi .i64 1),(7,.symi .i64 2)],[.cells [.symi .u8 3] 90]⟩
def Q0t:List (Option IntKind):=[none,none,some .i64,some .u8]
def Q0s:Shape:=⟨[(0,.iface 92 (.ptr 0 0))],[.cells [.symi .u8 2] 90]⟩
def sf37:SymF:=
 {f:=37,m:=1,ins:=Qmi,args:=[.iface 92 (.ptr 0 0),.syms 0],pre:=[.cells [.int .u8 0] 90],pcs:=[.bin .leq (.symi .i64 1) (.int .i64 1000000)],
  G:=[.sop .len [.syms 0],.fn 384 .u8 [.syms 0]],v:=.tuple [],post:=[.cells [.symi .u8 2] 90]}
def Qbdd:Shape:=⟨argT 0 [.syms 0],[]⟩
def Qbhi:Shape:=⟨[(2,.symi .u8 2)],[]⟩
def sf20:SymF:=
 {f:=20,m:=1,ins:=Qmi,args:=[.syms 0],pre:=[],pcs:=[.bin .leq (.symi .i64 1) (.int .i64 1000000)],
  G:=[.sop .len [.syms 0],.fn 384 .u8 [.syms 0]],v:=.symi .u8 2,post:=[]}
def Qu9:List SDef:=[.sop .len [.syms 0]]
def Qzh:LT:=.n (.e) 7086 1 (.sop .len [.syms 0]) (.e)
def Qbai:Sw:=.run (.leaf .normal Qok [(0,0)] [(0,.syms 0),(1,.symi .i64 1),(2,.int .i64 0),(3,.int .u8 0)] [])
def Qbfy:KdT:=.n (.n .e none .e) none .e
noncomputable def Q4m:Ing:={m:=1,ins:=Qmi,G:=Qu9,T:=Qzh,tab:=Qb,lsts:=Q6,kb:=2,kt:=Qbfy}
theorem Qbib:okLT 1 Qu9 Qzh=true:=by kernel_rfl
theorem Qbd2:okG Qu9 1=true:=by kernel_rfl
theorem Qbh6:SegOk Tryd.prog Qb 19 ((Qf (Qd Tryd.f37)).take 1) Q6v Q4m Qbai where
 lt:=Qbib
 ok:=Qbd2
 hook:=fun F=>Qda rfl F
 n0:=rfl
 id:=by kernel_rfl
 reck:=by kernel_rfl
 tab:=rfl
 cuts:=rfl
 kt:=by kernel_rfl
def Qvb:List SDef:=[.bin .lss (.symi .i64 2) (.symi .i64 1),
 .sop .len [.syms 0],
 .bin .leq (.int .i64 0) (.symi .i64 2),
 .bin .lss (.symi .i64 2) (.symi .i64 5),
 .sop .at [.syms 0,.symi .i64 2],
 .bin .shl (.symi .u8 3) (.int .u64 1),
 .bin .shr (.symi .u8 3) (.int .u64 7),
 .bin .or (.symi .u8 9) (.symi .u8 10),
 .bin .add (.symi .u8 11) (.symi .u8 8),
 .bin .add (.symi .i64 2) (.int .i64 1)]
def Q5v:LT:=.n (.n (.n (.n (.e) 7086 5 (.sop .len [.syms 0]) (.e)) 47601572 11 (.bin .or (.symi .u8 9) (.symi .u8 10)) (.e)) 202060958 13 (.bin .add (.symi .i64 2) (.int .i64 1)) (.n (.n (.e) 303061317 9 (.bin .shl (.symi .u8 3) (.int .u64 1)) (.e)) 303361534 10 (.bin .shr (.symi .u8 3) (.int .u64 7)) (.e))) 545384606 4 (.bin .lss (.symi .i64 2) (.symi .i64 1)) (.n (.n (.n (.e) 636636807 12 (.bin .add (.symi .u8 11) (.symi .u8 8)) (.e)) 686737383 6 (.bin .leq (.int .i64 0) (.symi .i64 2)) (.e)) 690532547 8 (.sop .at [.syms 0,.symi .i64 2]) (.n (.e) 845057091 7 (.bin .lss (.symi .i64 2) (.symi .i64 5)) (.e)))
def Qbf1:Sw:=.node 6 (.run (.node 4 (.node 7 (.leaf .normal Qok [(0,0)] [(0,.syms 0),(1,.symi .i64 1),(2,.symi .i64 13),(3,.symi .u8 12)] []) (.dead)) (.leaf (.exit 0) Q0s [(0,0)] [(2,.symi .u8 3)] []))) (.dead)
def Qbgx:KdT:=.n (.n (.n (.n .e none .e) (some .u8) (.n .e (some .u8) .e)) none (.n (.n .e (some .u8) .e) none (.n .e (some .i64) .e))) none (.n (.n (.n .e (some .u8) .e) none (.n .e (some .u8) .e)) (some .i64) (.n (.n .e (some .u8) .e) none .e))
noncomputable def Qwm:Ing:={m:=4,ins:=Q0t,G:=Qvb,T:=Q5v,tab:=Qb,lsts:=Q6,kb:=14,kt:=Qbgx}
theorem Qbf3:okLT 4 Qvb Q5v=true:=by kernel_rfl
theorem Qbdu:okG Qvb 4=true:=by kernel_rfl
theorem Qbik:SegOk Tryd.prog Qb 19 ([Qc2 (Qd Tryd.f37)]) Qok Qwm Qbf1 where
 lt:=Qbf3
 ok:=Qbdu
 hook:=fun F=>Qda rfl F
 n0:=rfl
 id:=by kernel_rfl
 reck:=by kernel_rfl
 tab:=rfl
 cuts:=rfl
 kt:=by kernel_rfl
def Qna:List SDef:=[.sop .len [.syms 0],
 .bin .leq (.symi .i64 1) (.int .i64 1000000),
 .fn 384 .u8 [.syms 0]]
def Qrd:LT:=.n (.n (.e) 7086 1 (.sop .len [.syms 0]) (.e)) 22061 3 (.fn 384 .u8 [.syms 0]) (.n (.e) 743886676 2 (.bin .leq (.symi .i64 1) (.int .i64 1000000)) (.e))
def Q85:Sw:=.node 2 (.run (.leaf .ret Qbhi [] [(2,.symi .u8 3)] [])) (.dead)
def Q3f:KdT:=.n (.n (.n .e (some .u8) .e) none .e) none (.n .e none .e)
noncomputable def Qyv:Ing:={m:=1,ins:=Qmi,G:=Qna,T:=Qrd,tab:=Qb,lsts:=Q6,kb:=4,kt:=Q3f}
noncomputable def Qh3:Ing:={m:=1,ins:=Qmi,G:=Qna,T:=Qrd,tab:=Qb,lsts:=Q6,kb:=4,kt:=Q3f,mh:=Qb5 (kdX Qyv) [sf37]}
theorem Qxk:okLT 1 Qna Qrd=true:=by kernel_rfl
theorem Qbd6:okG Qna 1=true:=by kernel_rfl
theorem Qbgg {S:ByteArray} {i:Nat} (h:i<S.size):(ints S).take (i+1)=(ints S).take i++[bAt S i]:=by
 have hl:i<(ints S).length:=by rw [Qs2];exact h
 rw [List.take_add_one,List.getElem?_eq_getElem hl]
 have:=Qzf S i h
 rw [List.getD_eq_getElem?_getD,List.getElem?_eq_getElem hl] at this
 simp only [Option.getD_some] at this
 simp only [Option.toList_some,this]
theorem roll {c x s r o v:Int} (h0:0<=c) (h1:c<256) (hs:s=c*2%256) (hr:r=c/128) (ho:o=IntKind.u8.wrap ((BitVec.ofInt IntKind.u8.bits s|||BitVec.ofInt IntKind.u8.bits r).toNat:Int)) (hv:v=(o+x)%256):v=Qlz c x:=by
 have e:o=c*2%256+c/128:=by
  rw [ho,hs,hr]
  show IntKind.u8.wrap ((BitVec.ofInt 8 (c*2%256)|||BitVec.ofInt 8 (c/128):BitVec 8).toNat:Int)=_
  rw [wr_u8,BitVec.toNat_or,BitVec.toNat_ofInt,BitVec.toNat_ofInt]
  have e1:((c*2%256)%(2^8:Nat)).toNat=2^1*(c%128).toNat:=by omega
  have e2:(c/128%(2^8:Nat)).toNat=(c/128).toNat:=by omega
  rw [e1,e2,<-Nat.two_pow_add_eq_or_of_lt (by omega:(c/128).toNat<2^1)]
  omega
 rw [hv,e]
 unfold Qlz
 omega
structure J37 (S:ByteArray) (i:Nat) (σ:Sig):Prop where
 s:σ.sval 0=S
 n:σ.ival 1=(S.size:Nat)
 i0:σ.ival 2=i
 c:σ.ival 3=sumL ((ints S).take i)
 hi:i<=S.size
 sz:S.size<=1000000
theorem J37.agree {S:ByteArray} {i:Nat} {σ τ:Sig} (ag:Agree 4 σ τ) (h:J37 S i σ):J37 S i τ:=
 ⟨by rw [<-(ag.val 0 (by decide)).2.2];exact h.s,by rw [<-(ag.val 1 (by decide)).1];exact h.n,by rw [<-(ag.val 2 (by decide)).1];exact h.i0,by rw [<-(ag.val 3 (by decide)).1];exact h.c,h.hi,h.sz⟩
def L37:Asg:=[(2,.symi .u8 2)]
set_option maxHeartbeats 1000000 in
theorem c37:SymFOk Tryd.prog Qb (fun _=>True) sf37:=
 Qg1 Tryd.func37 rfl (n:=19) rfl (by decide) (by decide) rfl rfl (by kernel_rfl) (fun g w hg _ hE hI hpc hH=>by
  have q0:=hpc (.bin .leq (.symi .i64 1) (.int .i64 1000000)) (by simp [sf37])
  simp only [Qa,den,binS,intA,if_true,Option.some.injEq,AVal.bool.injEq,decide_eq_true_eq] at q0
  have g1:g.sig.ival 1=((g.sig.sval 0).size:Nat):=Qb3 (hE.at 0 _ rfl rfl)
  have g2:g.sig.ival 2=sumS (g.sig.sval 0):=by
   have h:g.sig.ival 2=IntKind.u8.wrap (g.sig.tab 384 [encB (g.sig.sval 0)]):=eqFn (hE.at 1 _ rfl rfl)
   have:=Qgi (ints (g.sig.sval 0))
   rw [hg,Ql6,wr_u8] at h
   unfold sumS at h⊢
   omega
  have hlast:Qg Tryd.prog Qb 19 (Qbw g w sf37.pre.length) (bodyPost Tryd.prog Tryd.f37 (MemR Qb sf37 g w)) [] Q0s 3 [none,none,some .u8] (fun σ=>σ.ival 2=sumS (g.sig.sval 0)/\σ.ext=g.sig.ext):=by
   intro a w' σ hA hi hj ht
   refine (Qf9 (M:=3) (l:=L37) (vs:=[]) (x:=.normal) (by kernel_rfl) rfl rfl hH hg rfl rfl rfl (by kernel_rfl) (by kernel_rfl) ⟨?_,trivial⟩ (by decide) hj.2 (.inr rfl)) .normal a w' trivial hA
   show AVal.int .u8 (σ.ival 2)=AVal.int .u8 (g.sig.ival 2)
   rw [hj.1,g2]
  rw [show Qf (Qd Tryd.f37)=(Qf (Qd Tryd.f37)).take 1++(.block (idOf (Qd Tryd.f37)) (.loop (Qc2 (Qd Tryd.f37)))::[]) from rfl]
  have hloop:Qg Tryd.prog Qb 19 (Qbw g w sf37.pre.length) (bodyPost Tryd.prog Tryd.f37 (MemR Qb sf37 g w)) (.block (idOf (Qd Tryd.f37)) (.loop (Qc2 (Qd Tryd.f37)))::[]) Qok 4 Q0t (fun σ=>(∃i,J37 (g.sig.sval 0) i σ)/\σ.ext=g.sig.ext):=by
   refine Qg.loop (μ:=fun σ=>(σ.ival 1-σ.ival 2).toNat) mixed Qbik ⟨rfl,rfl⟩ (fun σ τ ag h=>⟨(let ⟨i,hi⟩:=h.1;⟨i,hi.agree ag⟩),by rw [<-ag.ext];exact h.2⟩) (fun σ τ ag=>by rw [(ag.val 1 (by decide)).1,(ag.val 2 (by decide)).1]) (fun τ h=>Qbp) hlast (fun τ e ht hi hj=> ?_) (pin0 (by kernel_rfl))
   obtain ⟨⟨i,hj⟩,hx⟩:=hj
   refine Qbf ?_
   have hs:=hj.s
   have hn:=hj.n
   have hi0:=hj.i0
   have hc:=hj.c
   have hhi:=hj.hi
   have hsz:=hj.sz
   have hc0:=Qgi ((ints (g.sig.sval 0)).take i)
   have b4:τ.bval 4=decide (τ.ival 2<τ.ival 1):=eqB (e.at 0 _ rfl rfl) rfl
   have i5:τ.ival 5=((τ.sval 0).size:Nat):=Qb3 (e.at 1 _ rfl rfl)
   have b6:τ.bval 6=decide ((0:Int)<=τ.ival 2):=eqB (e.at 2 _ rfl rfl) rfl
   have b7:τ.bval 7=decide (τ.ival 2<τ.ival 5):=eqB (e.at 3 _ rfl rfl) rfl
   have i8:τ.ival 8=bAt (τ.sval 0) (τ.ival 2):=eqAt (e.at 4 _ rfl rfl) rfl
   have i9:τ.ival 9=IntKind.u8.wrap (τ.ival 3*2):=(eqI (x:=IntKind.u8.wrap (τ.ival 3*2^(min (1:Int).toNat IntKind.u8.bits))) (e.at 5 _ rfl rfl) rfl).trans (by rw [show (2:Int)^(min (1:Int).toNat IntKind.u8.bits)=2 by decide])
   have i10:τ.ival 10=τ.ival 3/128:=(eqI (x:=(τ.ival 3:Int).fdiv (2^(min (7:Int).toNat IntKind.u8.bits))) (e.at 6 _ rfl rfl) rfl).trans (by rw [show (2:Int)^(min (7:Int).toNat IntKind.u8.bits)=128 by decide];exact Qbe (by decide))
   have i11:τ.ival 11=IntKind.u8.wrap (BitVec.ofInt IntKind.u8.bits (τ.ival 9)|||BitVec.ofInt IntKind.u8.bits (τ.ival 10)).toNat:=eqI (e.at 7 _ rfl rfl) rfl
   have i12:τ.ival 12=IntKind.u8.wrap (τ.ival 11+τ.ival 8):=eqI (e.at 8 _ rfl rfl) rfl
   have i13:τ.ival 13=IntKind.i64.wrap (τ.ival 2+1):=eqI (e.at 9 _ rfl rfl) rfl
   have tr: ∀{P:Prop} {b:Bool} [Decidable P],b=decide P->b=false->P->False:=fun hb hf hp=>by rw [hb,decide_eq_false_iff_not] at hf;exact hf hp
   rw [hs] at i5 i8
   refine ⟨fun f6=>⟨fun f4=>⟨fun f7=> ?_,fun f=>tr b7 f (by rw [b4,decide_eq_true_eq] at f4;omega)⟩,fun f4=> ?_⟩,fun f=>tr b6 f (by omega)⟩
   ·rw [b4,decide_eq_true_eq] at f4
    rw [Qh] at i13
    rw [wr_u8] at i9 i12
    have hlt:i<(g.sig.sval 0).size:=by omega
    have hst:=roll (by omega) (by omega) i9 i10 i11 i12
    rw [hi0] at i8
    rw [hc] at hst
    refine .inl ⟨rfl,rfl,Qbq (X:=Qwm) e hi (by kernel_rfl) (by kernel_rfl),⟨⟨i+1,hs,hn,?_,?_,hlt,hsz⟩,extS hx⟩,tabS ht,?_⟩
    ·show τ.ival 13=_
     omega
    ·show τ.ival 12=_
     rw [Qbgg hlt,Q1l,hst,i8]
    ·show (τ.ival 1-τ.ival 13).toNat<(τ.ival 1-τ.ival 2).toNat
     omega
   ·rw [b4,decide_eq_false_iff_not] at f4
    have hie:i=(ints (g.sig.sval 0)).length:=by rw [Qs2];omega
    refine .inr (.inl ⟨rfl,rfl,Qbq (X:=Qwm) e hi (by kernel_rfl) (by kernel_rfl),⟨?_,extS hx⟩,tabS ht⟩)
    show τ.ival 3=_
    rw [hc,hie,List.take_length]
    rfl
  refine Qg.seg mixed Qbh6 ⟨rfl,rfl⟩ (fun σ τ (ag:Agree 1 σ τ) (h:Agree 1 g.sig σ)=>h.trans' ag) (fun τ h=>Qbp) hloop (fun τ e ht hi ag=> ?_) (pin0 (by kernel_rfl))
  refine Qbf ?_
  have i1:τ.ival 1=((τ.sval 0).size:Nat):=Qb3 (e.at 0 _ rfl rfl)
  have a0:τ.sval 0=g.sig.sval 0:=(ag.val 0 (by decide)).2.2.symm
  refine .inl ⟨rfl,rfl,Qbq (X:=Q4m) e hi (by kernel_rfl) (by kernel_rfl),⟨⟨0,a0,?_,rfl,rfl,Nat.zero_le _,by omega⟩,extS ag.ext.symm⟩,tabS ht⟩
  show τ.ival 1=_
  rw [i1,a0])
theorem Qbia (F:List Fact):Hooks Tryd.prog (cxOf Qh3 F) where
 val:=fun f args v h=>by simp only [Qh3,cxOf,Qdb,reduceCtorEq] at h
 mem:=fun f args hp v hp' h=>by
  replace h:(Qb5 (kdX Qyv) [sf37]) (symS (Qu Qh3 F)) f args hp=some (v,hp'):=h
  exact Qft (X:=Qh3) (tbl:=[sf37]) (inv:=fun _=>True) (fun e he=>by
   simp only [List.mem_cons,List.not_mem_nil,or_false] at he
   rcases he with rfl
   ·exact c37
   ) Qxk rfl (fun _ _ _ _=>trivial) F f args hp v hp' h
 ovl:=fun f k h=>by simp only [Qh3,cxOf,reduceCtorEq] at h
 atm:=fun k b h=>by simp only [Qh3,cxOf,List.not_mem_nil] at h
theorem Qbcr:SegOk Tryd.prog Qb 8 (Qf (Qd Tryd.f20)) Qbdd Qh3 Q85 where
 lt:=Qxk
 ok:=Qbd6
 hook:=Qbia
 n0:=rfl
 id:=by kernel_rfl
 reck:=by kernel_rfl
 tab:=rfl
 cuts:=rfl
 kt:=by kernel_rfl
def L20:Asg:=[(2,.symi .u8 2)]
theorem c20:SymFOk Tryd.prog Qb (fun _=>True) sf20:=
 Qg1 Tryd.func20 rfl (n:=8) rfl (by decide) (by decide) rfl rfl (by kernel_rfl) (fun g w hg _ hE hI hpc hH=>by
  refine Qg.last mixed Qbcr ⟨rfl,rfl⟩ (fun σ τ (ag:Agree 1 σ τ) (h:Agree 1 g.sig σ)=>h.trans' ag) (fun τ h=>Qbp) (fun τ e ht hi ag=> ?_) (pin0 (by kernel_rfl))
  refine Qbf ?_
  have q0:=hpc (.bin .leq (.symi .i64 1) (.int .i64 1000000)) (by simp [sf20])
  simp only [Qa,den,binS,intA,if_true,Option.some.injEq,AVal.bool.injEq,decide_eq_true_eq] at q0
  have g1:g.sig.ival 1=((g.sig.sval 0).size:Nat):=Qb3 (hE.at 0 _ rfl rfl)
  have g2:g.sig.ival 2=IntKind.u8.wrap (g.sig.tab 384 [encB (g.sig.sval 0)]):=eqFn (hE.at 1 _ rfl rfl)
  have a0:τ.sval 0=g.sig.sval 0:=(ag.val 0 (by decide)).2.2.symm
  have i1:τ.ival 1=((τ.sval 0).size:Nat):=Qb3 (e.at 0 _ rfl rfl)
  have b2:τ.bval 2=decide (τ.ival 1<=1000000):=eqB (e.at 1 _ rfl rfl) rfl
  have i3:τ.ival 3=IntKind.u8.wrap (τ.tab 384 [encB (τ.sval 0)]):=eqFn (e.at 2 _ rfl rfl)
  have tr: ∀{P:Prop} {b:Bool} [Decidable P],b=decide P->b=false->P->False:=fun hb hf hp=>by rw [hb,decide_eq_false_iff_not] at hf;exact hf hp
  refine ⟨fun _=>Qf9 (M:=3) (l:=L20) (vs:=[.symi .u8 2]) (by kernel_rfl) rfl rfl hH hg rfl rfl rfl (by kernel_rfl) (by kernel_rfl) ⟨?_,trivial⟩ (by decide) (extS ag.ext.symm) (.inl rfl),fun f=>tr b2 f (by rw [i1,a0];omega)⟩
  show AVal.int .u8 (τ.ival 3)=AVal.int .u8 (g.sig.ival 2)
  rw [i3,g2,ht,hg,a0])
end Go.Proofs.YtelimhjceiamcaaDoor.lg
