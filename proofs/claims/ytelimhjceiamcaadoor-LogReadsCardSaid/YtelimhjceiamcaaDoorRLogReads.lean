/-
 Contract of alike.
 No conditions.
-/
import Derived.Test.YtelimhjceiamcaaDoorRLgs
import Derived.Test.YtelimhjceiamcaaDoorRLg25
import Derived.Test.YtelimhjceiamcaaDoorRLg9
import Derived.Test.YtelimhjceiamcaaDoorRLg15
import Derived.Test.YtelimhjceiamcaaDoorRFal
import Derived.Test.YtelimhjceiamcaaDoorREv7
import Derived.Test.YtelimhjceiamcaaDoorREv8
import Derived.Test.YtelimhjceiamcaaDoorRows
import Derived.Test.YtelimhjceiamcaaDoorCards
import Derived.Test.YtelimhjceiamcaaDoorTie
import Derived.SevenTiedAt
import Derived.WalkKit
import Derived.ProofKit
import Derived.OpenShut
import Derived.Below
import Derived.ChangeSame
import Derived.ChangeMaps5
import Derived.Lib.Strings
set_option linter.unusedVariables false
set_option linter.unusedSimpArgs false
set_option maxRecDepth 100000
namespace Go.Proofs.YtelimhjceiamcaaDoor.lg
open Go.Ev Go.RowKit Go.Wbp Go.Lgp
open Go.Proofs.YtelimhjceiamcaaDoor.lgn (mixed sf48 Qbt)
open Go.Proofs.YtelimhjceiamcaaDoor.fa
def Qu1:List (Option IntKind):=lgK++[none]
def Qbhm:Shape:=⟨argT 0 [lgA,.s 8],[eL 6 7]⟩
def Qqg:Shape:=⟨[(1,.s 8),(2,.ptr 1 0),(5,.s 9),(6,.i 11),(7,.s 10),(8,.i 11)],[eL 6 7,.cells lgC 26]⟩
def Qu2:List (Option IntKind):=Qu1++[none,none,some .i64]
def Qjk:Shape:=⟨[(4,.bool true),(43,lgA)],[eL 6 7]⟩
def sf12:SymF:=
 {f:=12,m:=9,ins:=Qu1,args:=[lgA,.s 8],pre:=[eL 6 7],pcs:=lgQ++[.q .leq (.i 1) (.z 1000),.q .leq (.i 9) (.z 1000000)],G:=[.sop .len [.s 8]],v:=.bool true,post:=[eL 6 7]}
def Ql3:List SDef:=[.q .leq (.z 0) (.i 1),
 .q .leq (.i 1) (.i 7),
 .q .leq (.i 7) (.z 1000000),
 .q .leq (.i 1) (.z 1000),
 .q .leq (.i 1) (.i 1),
 .q .leq (.i 1) (.z 1000000),
 .sop (.fs 704) [.s 6,.i 1],
 .fnb 448 [.w 0,.s 6,.i 1,.i 2,.u 3,.u 4,.i 5],
 .fnb 448 [.w 0,.s 15,.i 1,.i 2,.u 3,.u 4,.i 5],
 .un .not (.symb 16),
 .un .not (.symb 17),
 .sop (.fs 512) [.w 0,.s 6,.i 1,.i 2,.u 3,.u 4,.i 5],
 .sop (.fs 512) [.w 0,.s 15,.i 1,.i 2,.u 3,.u 4,.i 5],
 .q .eql (.s 20) (.s 21),
 .text []]
def Q1x:LT:=Go.Wbp.fT 9 Ql3 (.n (.n (.n (.n .e 168 23 .e) 348734 21 (.n .e 151045718 12 .e)) 276146667 11 (.n (.n .e 320878263 16 .e) 343383805 9 (.n .e 357022124 10 .e))) 444384310 13 (.n (.n (.n .e 542312227 18 .e) 643315560 19 (.n .e 647821532 22 .e)) 650265181 20 (.n (.n .e 743886676 14 .e) 811225403 15 (.n .e 964328569 17 .e))))
def Qbdk:Sw:=.x 9 (.x 10 (.x 11 (.x 12 (.x 13 (.x 14 (.n 16 (.x 17 (.run (.leaf .normal Qqg [(0,0),(1,0)] [(8,.s 8),(9,.s 20),(11,.z 0),(10,.s 21),(11,.z 0),(6,.s 6),(7,.i 7),(0,.w 0),(1,.i 1),(2,.i 2),(3,.u 3),(4,.u 4),(5,.i 5)] []))) (.y 17 (.x 18 (.x 19 (.run (.leaf .normal Qqg [(0,0),(1,0)] [(8,.s 8),(9,.s 23),(11,.z 2),(10,.s 23),(11,.z 2),(6,.s 6),(7,.i 7),(0,.w 0),(1,.i 1),(2,.i 2),(3,.u 3),(4,.u 4),(5,.i 5)] [])))))))))))
def Qbdj:KdT:=kdN 0x10122114 5 1 0
noncomputable def Q1y:Ing:={m:=9,ins:=Qu1,G:=Ql3,T:=Q1x,tab:=Qa,lsts:=Qs,kb:=24,kt:=Qbdj}
noncomputable def Qp6:Ing:={Q1y with mh:=Qbr (kdX Q1y) [sf15,Qgc,sf10,sfE9,sf9n]}
theorem Q1z:okLT 9 Ql3 Q1x=true:=by kernel_rfl
theorem Qbdl (F:List Fact):Hooks Tryd.prog (cxOf Qp6 F):=
  Qcx (l:=[sf15,Qgc,sf10,sfE9,sf9n]) rfl rfl rfl rfl rfl Q1z rfl rfl rfl ⟨c15,c15n,c10,cE9,c9n,trivial⟩ F
theorem Qbdm:SegOk Tryd.prog Qa 67 ((Qe (Qc Tryd.f12)).take 3) Qbhm Qp6 Qbdk:=
  ⟨Q1z,by kernel_rfl,Qbdl,rfl,by kernel_rfl,by kernel_rfl,rfl,rfl,fun _=>trivial,by kernel_rfl⟩
def Qjg:List SDef:=[.q .leq (.z 0) (.i 1),
 .q .leq (.i 1) (.i 7),
 .q .leq (.i 7) (.z 1000000),
 .sop .len [.s 8],
 .q .leq (.i 15) (.z 1000000),
 .q .eql (.s 9) (.s 10),
 .fnb 448 [.w 0,.s 6,.i 1,.i 2,.u 3,.u 4,.i 5],
 .q .eql (.i 11) (.z 0),
 .fnb 576 [.s 8],
 .fnb 585 [.s 8],
 .sop (.fs 578) [.s 8],
 .fn 579 .i64 [.s 8],
 .fn 580 .u32 [.s 8],
 .fn 581 .i64 [.s 8],
 .fn 582 .u64 [.s 8],
 .fn 583 .u64 [.s 8],
 .fn 584 .i64 [.s 8],
 .q .leq (.z 0) (.i 23),
 .q .leq (.i 23) (.i 23),
 .q .leq (.i 23) (.z 1000000),
 .q .eql (.i 23) (.i 23),
 .q .eql (.w 24) (.w 24),
 .q .eql (.i 25) (.i 25),
 .q .eql (.u 26) (.u 26),
 .q .eql (.u 27) (.u 27),
 .q .eql (.i 28) (.i 28),
 .sop (.fs 704) [.s 22,.i 23],
 .q .eql (.s 38) (.s 22),
 .fn 384 .u8 [.s 8],
 .fn 577 .i64 [.s 8]]
def Quk:LT:=Go.Wbp.fT 12 Qjg (.n (.n (.n (.n (.n .e 10407264 16 .e) 22335066 20 (.n .e 22335543 21 .e)) 37271900 19 (.n (.n .e 51115757 17 .e) 186425098 36 (.n .e 262314691 15 .e))) 262892697 22 (.n (.n (.n .e 276146667 14 .e) 320878263 18 (.n .e 339806806 38 .e)) 343383805 12 (.n (.n .e 357022124 13 .e) 371459163 34 (.n .e 380969732 29 .e)))) 556493228 32 (.n (.n (.n (.n .e 556493249 30 .e) 630778979 37 (.n .e 662098960 39 .e)) 815813044 35 (.n (.n .e 818409688 31 .e) 1000847109 33 (.n .e 1048060837 40 .e))) 1048069136 41 (.n (.n (.n .e 1048069222 23 .e) 1048069265 24 (.n .e 1048069308 25 .e)) 1048069351 26 (.n (.n .e 1048069394 27 .e) 1048069437 28 .e))))
def Qbdn:Sw:=.x 12 (.x 13 (.x 14 (.x 16 (.x 17 (.n 18 (.x 19 (.n 20 (.x 29 (.x 30 (.x 31 (.x 32 (.x 33 (.x 34 (.x 35 (.x 36 (.x 37 (.x 39 (.run (.leaf .ret Qjk [(0,0)] [(0,.w 0),(1,.i 1),(2,.i 2),(3,.u 3),(4,.u 4),(5,.i 5),(6,.s 6),(7,.i 7)] [])))))))))))) (.x 21 (.run (.leaf .ret Qjk [(0,0)] [(0,.w 0),(1,.i 1),(2,.i 2),(3,.u 3),(4,.u 4),(5,.i 5),(6,.s 6),(7,.i 7)] []))))) (.y 19 (.n 20 (.x 29 (.x 30 (.x 31 (.x 32 (.x 33 (.x 34 (.x 35 (.x 36 (.x 37 (.x 39 (.run (.leaf .ret Qjk [(0,0)] [(0,.w 0),(1,.i 1),(2,.i 2),(3,.u 3),(4,.u 4),(5,.i 5),(6,.s 6),(7,.i 7)] [])))))))))))) (.x 21 (.run (.leaf .ret Qjk [(0,0)] [(0,.w 0),(1,.i 1),(2,.i 2),(3,.u 3),(4,.u 4),(5,.i 5),(6,.s 6),(7,.i 7)] []))))))))))
def Q10:KdT:=kdN 0x130000000000012214100000000000100010122114 6 1 0
noncomputable def Qp7:Ing:={m:=12,ins:=Qu2,G:=Qjg,T:=Quk,tab:=Qa,lsts:=Qs,kb:=42,kt:=Q10}
noncomputable def Qe7:Ing:={m:=12,ins:=Qu2,G:=Qjg,T:=Quk,tab:=Qa,lsts:=Qs,kb:=42,kt:=Q10,mh:=orMh (asMh Tryd.prog 35 78 88 36 34) (Qbr (kdX Qp7) [sf32,sf25,Qhb,sf10,sf17,sf18,sf20,sf11]),ph:=Qbr (kdX Qp7) [Qhc],inv:=Qdo 0 Qdt}
theorem Qp8:okLT 12 Qjg Quk=true:=by kernel_rfl
theorem Qbdo (F:List Fact):Hooks Tryd.prog (cxOf Qe7 F) where
 val:=fun f args v h=>by simp only [Qe7,cxOf,Qfb,reduceCtorEq] at h
 mem:=fun f args hp v hp' h=>by
  replace h:(orMh (asMh Tryd.prog 35 78 88 36 34) (Qbr (kdX Qp7) [sf32,sf25,Qhb,sf10,sf17,sf18,sf20,sf11])) (symS (Q3 Qe7 F)) f args hp=some (v,hp'):=h
  unfold orMh at h
  split at h
  ·rename_i x hx
   cases h
   exact Qx9 (X:=Qe7) Qp8 as_ok is_ok (fun _ h=>h) F f args hp v hp' hx
  ·exact Qvv (X:=Qe7) (tbl:=[sf32,sf25,Qhb,sf10,sf17,sf18,sf20,sf11]) (inv:=fun _=>True) (fun e he=>by
    simp only [List.mem_cons,List.not_mem_nil,or_false] at he
    rcases he with rfl|rfl|rfl|rfl|rfl|rfl|rfl|rfl
    ·exact c32
    ·exact c25
    ·exact c25p
    ·exact c10
    ·exact c17
    ·exact c18
    ·exact c20
    ·exact c11
    ) Qp8 rfl (fun _ _ _ _=>trivial) F f args hp v hp' h
 pan:=fun f args hp v hp' h=>by
  replace h:(Qbr (kdX Qp7) [Qhc]) (symS (Q3 Qe7 F)) f args hp=some (v,hp'):=h
  exact Qbjj (X:=Qe7) (tbl:=[Qhc]) (inv:=fun _=>True) (fun e he=>by
   simp only [List.mem_cons,List.not_mem_nil,or_false] at he
   rcases he with rfl
   exact c32p) Qp8 rfl (fun _ _ _ _=>trivial) F f args hp v hp' h
 ovl:=fun f k h=>by simp only [Qe7,cxOf,reduceCtorEq] at h
 atm:=fun k b h=>by simp only [Qe7,cxOf,List.not_mem_nil] at h
theorem Qbdp:SegOkI Tryd.prog Qa 67 ((Qe (Qc Tryd.f12)).drop 3) Qqg Qe7 Qbdn:=
  ⟨Qp8,by kernel_rfl,Qbdo,rfl,by kernel_rfl,by kernel_rfl,rfl,rfl,by kernel_rfl⟩
theorem Qvr (C:ByteArray) (n:Nat):lstE (Lgp.encL (lstE C n)) n=lstE C n:=by
 have:=Qm7 (l:=lstE C n) Qbh8
 rw [Qvp] at this
 exact this
theorem Q6f {blk:Nat} {OK:Obj->Prop} {V U:Sig} (hx:U.ext=V.ext) (h:Qdo blk OK V):Qdo blk OK U:=by
 obtain ⟨r,Y,O,h1,h2⟩:=h
 exact ⟨r,Y,O,by rw [hx];exact h1,h2⟩
structure J12 (g:Sig) (n N:Nat) (V:Sig):Prop where
 i0:V.i 0=g.i 0
 i2:V.i 2=g.i 2
 i3:V.i 3=g.i 3
 i4:V.i 4=g.i 4
 i5:V.i 5=g.i 5
 i1:V.i 1=n
 i7:V.i 7=N
 s6:V.s 6=g.s 6
 s8:V.s 8=g.s 8
 z:(g.s 8).size<=1000000
 eq:V.s 9=V.s 10
 e:right (lgG g n)=decide (V.i 11=0)
 ge:V.i 11=0\/V.i 11=2
 le:n<=N
 sz:N<=1000000
 xe:V.ext=g.ext
theorem J12.agree {g:Sig} {n N:Nat} {V U:Sig} (ag:Agree 12 V U) (h:J12 g n N V):J12 g n N U:=by
  cases h
  constructor<;>first|assumption|(simp (disch:=decide) only [ag.iv,ag.bv,ag.sv,ag.xv];assumption)
def L12:Asg:=[(6,.s 6),(7,.i 7)]
set_option maxHeartbeats 1000000 in
theorem c12:SymFOk Tryd.prog Qa (Qdo 0 Qdt) sf12:=
 Qb2 Tryd.func12 rfl (n:=67) rfl (by decide) (by decide) rfl rfl (by kernel_rfl) (fun g w hg hinv hE hI hpc hH=>by
  have q0:=hpc (.bin .leq (.int .i64 0) (.symi .i64 1)) (by simp [sf12,lgQ])
  have q1:=hpc (.bin .leq (.symi .i64 1) (.symi .i64 7)) (by simp [sf12,lgQ])
  have q2:=hpc (.bin .leq (.symi .i64 7) (.int .i64 1000000)) (by simp [sf12,lgQ])
  have q3:=hpc (.bin .leq (.symi .i64 1) (.int .i64 1000)) (by simp [sf12,lgQ])
  have q4:=hpc (.bin .leq (.symi .i64 9) (.int .i64 1000000)) (by simp [sf12,lgQ])
  simp only [Qb,den,binS,intA,if_true,Option.some.injEq,AVal.bool.injEq,decide_eq_true_eq] at q0 q1 q2 q3 q4
  have g9:g.sig.i 9=((g.sig.s 8).size:Nat):=Qel (hE.at 0 _ rfl rfl)
  have qz:(g.sig.s 8).size<=1000000:=by omega
  obtain ⟨n,hgn⟩: ∃n:Nat,g.sig.i 1=n:=⟨(g.sig.i 1).toNat,by omega⟩
  obtain ⟨N,hgN⟩: ∃N:Nat,g.sig.i 7=N:=⟨(g.sig.i 7).toNat,by omega⟩
  have hle:n<=N:=by omega
  have hsz:N<=1000000:=by omega
  rw [show Qe (Qc Tryd.f12)=(Qe (Qc Tryd.f12)).take 3++(Qe (Qc Tryd.f12)).drop 3 from rfl]
  have hlast:Qg Tryd.prog Qa 67 (Qw g w sf12.pre.length) (bodyPost Tryd.prog Tryd.f12 (MemR Qa sf12 g w)) ((Qe (Qc Tryd.f12)).drop 3) Qqg 12 Qu2 (J12 g.sig n N):=by
   refine Qg.lastI mixed Qbdp ⟨rfl,rfl⟩ (fun V U ag h=>h.agree ag) (fun U h=>Qq) (fun U h=>Q6f h.xe hinv) (fun U e ht hi hj=> ?_) (pin0 (by kernel_rfl))
   refine Qm ?_
   have a1:=hj.i1
   have a7:=hj.i7
   have qz:=hj.z
   have hs8:=hj.s8
   have F:Facs U 12 Qjg:=facs e
   dsimp only [Qjg,Facs,fac1,facI,facS,facB,oI,oK,oB,oS,nmL,nm,Nat.reduceAdd] at F
   obtain ⟨b12,b13,b14,i15,b16,b17,b18,b19,b20,b21,s22,i23,-,-,-,-,-,b29,b30,b31,b32,b33,b34,b35,b36,b37,s38,b39,-⟩:=F
   have tr: ∀{P:Prop} {b:Bool} [Decidable P],b=decide P->b=false->P->False:=fun hb hf hp=>by rw [hb,decide_eq_false_iff_not] at hf;exact hf hp
   rw [hs8] at i15
   rw [ht] at b18 b20 b21 s22 i23 s38
   have e18:U.b 18=right (lgG g.sig n):=by rw [b18,a1,Qjq,hj.s6,hj.i0,hj.i2,hj.i3,hj.i4,hj.i5];rfl
   have e19:U.b 19=decide (U.i 11=0):=by rw [b19,Bool.eq_iff_iff,beq_iff_eq,decide_eq_true_eq]
   rw [lg_ok] at b20
   rw [Qvb] at b21
   have hr:(par (U.s 8)).isOk=true->U.i 23=((par (U.s 8)).val.es.length:Int)/\(par (U.s 8)).val.es.length<=1000000/\U.s 38=U.s 22:=by
    intro h
    obtain ⟨l,hl⟩:=ok_of h
    have r:=rd_ok hl
    have hv:(par (U.s 8)).val=l:=by rw [hl];rfl
    have hn:=r.n
    rw [hs8] at hn
    have h23:=i23
    rw [(Qvc _).1,hv,Qh] at h23
    have e23:U.i 23=(l.es.length:Int):=by omega
    rw [hv]
    refine ⟨e23,by omega,?_⟩
    rw [s38,e23,Qqo,s22,lg_es,hv,r.lst]
   have fin:EndZ Qa 67 (Qw g w sf12.pre.length) (bodyPost Tryd.prog Tryd.f12 (MemR Qa sf12 g w)) .ret Qjk (asgS U ([(0,.symi .u32 0),(1,.symi .i64 1),(2,.symi .i64 2),(3,.symi .u64 3),(4,.symi .u64 4),(5,.symi .i64 5),(6,.syms 6),(7,.symi .i64 7)]++[])):=
    Qbw (M:=9) (l:=L12) (vs:=[.bool true]) (by kernel_rfl) rfl rfl hH hg rfl rfl rfl (by kernel_rfl) (by kernel_rfl) ⟨congrArg AVal.str hj.s6,congrArg (AVal.int .i64) (hj.i7.trans hgN.symm),trivial⟩ (by decide) (extS hj.xe) (.inl rfl)
   have good: ∀f20:U.b 20=true,((U.b 29=true->((U.b 30=true->((U.b 31=true->((U.b 32=true->((U.b 33=true->((U.b 34=true->((U.b 35=true->((U.b 36=true->((U.b 37=true->((U.b 39=true->EndZ Qa 67 (Qw g w sf12.pre.length) (bodyPost Tryd.prog Tryd.f12 (MemR Qa sf12 g w)) .ret Qjk (asgS U ([(0,.symi .u32 0),(1,.symi .i64 1),(2,.symi .i64 2),(3,.symi .u64 3),(4,.symi .u64 4),(5,.symi .i64 5),(6,.syms 6),(7,.symi .i64 7)]++[])))/\(U.b 39=false->False)))/\(U.b 37=false->False)))/\(U.b 36=false->False)))/\(U.b 35=false->False)))/\(U.b 34=false->False)))/\(U.b 33=false->False)))/\(U.b 32=false->False)))/\(U.b 31=false->False)))/\(U.b 30=false->False)))/\(U.b 29=false->False)):=by
    intro f20
    obtain ⟨e23,l23,e38⟩:=hr (by rw [<-b20];exact f20)
    exact ⟨fun f29=>⟨fun f30=>⟨fun f31=>⟨fun f32=>⟨fun f33=>⟨fun f34=>⟨fun f35=>⟨fun f36=>⟨fun f37=>⟨fun f39=>fin,fun f=>(by rw [b39,e38] at f;simp at f)⟩,fun f=>(by rw [b37] at f;simp at f)⟩,fun f=>(by rw [b36] at f;simp at f)⟩,fun f=>(by rw [b35] at f;simp at f)⟩,fun f=>(by rw [b34] at f;simp at f)⟩,fun f=>(by rw [b33] at f;simp at f)⟩,fun f=>(by rw [b32] at f;simp at f)⟩,fun f=>tr b31 f (by omega)⟩,fun f=>tr b30 f (by omega)⟩,fun f=>tr b29 f (by omega)⟩
   exact ⟨fun f12=>⟨fun f13=>⟨fun f14=>⟨fun f16=>⟨fun f17=>⟨fun f18=>⟨fun f19=>⟨fun f20=>good f20,fun f20=>⟨fun f21=>fin,fun f=>(by rw [b21,<-Bool.not_eq_true,Bool.not_eq_true',<-b20,f20] at f;exact f rfl)⟩⟩,fun f=>(by rw [e19,<-hj.e,<-e18,f18] at f;cases f)⟩,fun f18=>⟨fun f=>(by rw [e19,<-hj.e,<-e18,f18] at f;cases f),fun f19=>⟨fun f20=>good f20,fun f20=>⟨fun f21=>fin,fun f=>(by rw [b21,<-Bool.not_eq_true,Bool.not_eq_true',<-b20,f20] at f;exact f rfl)⟩⟩⟩⟩,fun f=>(by rw [b17,hj.eq] at f;simp at f)⟩,fun f=>tr b16 f (by omega)⟩,fun f=>tr b14 f (by omega)⟩,fun f=>tr b13 f (by omega)⟩,fun f=>tr b12 f (by omega)⟩
  refine Qg.seg mixed Qbdm ⟨rfl,rfl⟩ (fun V U (ag:Agree 9 V U) (h:Agree 9 g.sig V)=>h.trans' ag) (fun U h=>Qq) hlast (fun U e ht hi ag=> ?_) (pin0 (by kernel_rfl))
  refine Qm ?_
  have a:=fun i h=>(ag.val i h).1.symm
  have a0:U.i 0=g.sig.i 0:=a 0 (by decide)
  have a2:U.i 2=g.sig.i 2:=a 2 (by decide)
  have a3:U.i 3=g.sig.i 3:=a 3 (by decide)
  have a4:U.i 4=g.sig.i 4:=a 4 (by decide)
  have a5:U.i 5=g.sig.i 5:=a 5 (by decide)
  have a1:U.i 1=n:=(a 1 (by decide)).trans hgn
  have a7:U.i 7=N:=(a 7 (by decide)).trans hgN
  have a6:U.s 6=g.sig.s 6:=(ag.val 6 (by decide)).2.2.symm
  have a8:U.s 8=g.sig.s 8:=(ag.val 8 (by decide)).2.2.symm
  have F:Facs U 9 Ql3:=facs e
  dsimp only [Ql3,Facs,fac1,facI,facS,facB,oI,oK,oB,oS,nmL,nm,Nat.reduceAdd] at F
  obtain ⟨b9,b10,b11,b12,b13,b14,s15,b16,b17,b18,b19,s20,s21,b22,-⟩:=F
  have s23:U.s 23=bs []:=p9.eqText (e.at 14 _ rfl rfl)
  have tr: ∀{P:Prop} {b:Bool} [Decidable P],b=decide P->b=false->P->False:=fun hb hf hp=>by rw [hb,decide_eq_false_iff_not] at hf;exact hf hp
  have e16:U.b 16=right (lgG g.sig n):=by rw [b16,ht,a1,Qjq,a6,a0,a2,a3,a4,a5];rfl
  have e15:U.s 15=Lgp.encL (lstE (g.sig.s 6) n):=by rw [s15,ht,a1,Qqo,a6]
  have e17:U.b 17=U.b 16:=by rw [e16,b17,ht,a1,Qjq,e15,Qvr,a0,a2,a3,a4,a5];rfl
  have e21:U.s 21=U.s 20:=by rw [s21,s20,ht,a1,Qm3,Qm3,e15,Qvr,a6]
  exact ⟨fun f9=>⟨fun f10=>⟨fun f11=>⟨fun f12=>⟨fun f13=>⟨fun f14=>⟨fun f16=>⟨fun f17=> .inl ⟨rfl,rfl,insK (X:=Qp6) e hi,⟨a0,a2,a3,a4,a5,a1,a7,a6,a8,qz,(show U.s 20=U.s 21 from e21.symm),(by show right (lgG g.sig n)=true;rw [<-e16];exact f16),.inl rfl,hle,hsz,extS ag.ext.symm⟩,tabS ht⟩,fun f=>(by rw [e17,f16] at f;cases f)⟩,fun f16=>⟨fun f=>(by rw [e17,f16] at f;cases f),fun f17=>⟨fun f18=>⟨fun f19=> .inl ⟨rfl,rfl,insK (X:=Qp6) e hi,⟨a0,a2,a3,a4,a5,a1,a7,a6,a8,qz,rfl,(by show right (lgG g.sig n)=false;rw [<-e16];exact f16),.inr rfl,hle,hsz,extS ag.ext.symm⟩,tabS ht⟩,fun f=>(by rw [b19,e17,f16] at f;simp at f)⟩,fun f=>(by rw [b18,f16] at f;simp at f)⟩⟩⟩,fun f=>tr b14 f (by omega)⟩,fun f=>tr b13 f (by omega)⟩,fun f=>tr b12 f (by omega)⟩,fun f=>tr b11 f (by omega)⟩,fun f=>tr b10 f (by omega)⟩,fun f=>tr b9 f (by omega)⟩)
end Go.Proofs.YtelimhjceiamcaaDoor.lg
set_option maxRecDepth 100000
namespace Go.Proofs.YtelimhjceiamcaaDoor.lg
open Go.Ev Go.RowKit Go.Wbp Go.Lgp
open Go.Proofs.YtelimhjceiamcaaDoor.lgn (mixed sf48 Qbt)
open Go.Proofs.YtelimhjceiamcaaDoor.fa
def lgK4:List (Option IntKind):=[none,some .u16,some .u16,some .u8,some .u8]
def lgHd:AVal:=.str ⟨#[80,76,1,0,0,0,7]⟩
def lgS4:Shape:=⟨argT 0 [.s 0,.agg lgD4],[]⟩
def Qu9:Shape:=⟨[(0,.s 0),(3,.ptr 0 0),(5,lgHd)],[.cells lgD4 33]⟩
def Qva:Shape:=⟨[(0,.s 0),(3,.ptr 0 0),(5,lgHd),(6,.s 5)],[.cells lgD4 33]⟩
def Q4m:List (Option IntKind):=lgK4++[none]
def lgC4:List AVal:=[.w 5,.lsl 0 4 true (.z 0) (.i 4),.i 6,.u 7,.u 8,.i 9]
def Qjp:Shape:=⟨[(0,.s 0),(5,lgHd),(6,.s 1),(8,.s 2),(9,.ptr 1 0)],[.lst (.s 3) (.i 4) cl4 61,.cells lgC4 26]⟩
def Qjo:List (Option IntKind):=[none,none,none,none,some .i64,some .u32,some .i64,some .u64,some .u64,some .i64]
def lgE4:Shape:=⟨[(4,.bool true)],[]⟩
def Qmo:List SDef:=[.sop .len [.s 0],
 .low [.i 5,.z 200],
 .q .leq (.z 0) (.i 6),
 .q .leq (.i 6) (.i 5),
 .sop .sub [.s 0,.z 0,.i 6]]
def Q3m:LT:=Go.Wbp.fT 5 Qmo (.n (.n (.n .e 7086 5 .e) 175316483 8 .e) 538425099 6 (.n (.n .e 857675420 9 .e) 986409868 7 .e))
def Qbga:Sw:=.x 7 (.x 8 (.run (.leaf .normal Qu9 [(0,0)] [(0,.s 9),(1,.symi .u16 1),(2,.symi .u16 2),(3,.c 3),(4,.c 4)] [])))
def Qbf9:KdT:=kdN 0x33550 4 1 0
noncomputable def Q3n:Ing:={m:=5,ins:=lgK4,G:=Qmo,T:=Q3m,tab:=Qa,lsts:=Qs,kb:=10,kt:=Qbf9}
theorem Qbgb:okLT 5 Qmo Q3m=true:=by kernel_rfl
theorem Qbgc:SegOk Tryd.prog Qa 61 ((Qe (Qc Tryd.f4)).take 3) lgS4 Q3n Qbga:=
  ⟨Qbgb,by kernel_rfl,fun F=>Qb1 rfl F,rfl,by kernel_rfl,by kernel_rfl,rfl,rfl,fun _=>trivial,by kernel_rfl⟩
def Qmp:List SDef:=[.sop (.row [.some .u16,.some .u16,.some .u8,.some .u8]) [.symi .u16 1,.symi .u16 2,.c 3,.c 4],
 .sop (.fs 640) [.s 5,.z 1],
 .fn 641 .i64 [.s 5,.z 1],
 .fn 642 .u64 [.s 5,.z 1,.int .u16 0,.int .u16 0],
 .fn 643 .u64 [.s 5,.z 1,.int .u16 0,.int .u16 0],
 .q .leq (.z 0) (.i 7),
 .q .leq (.i 7) (.i 7),
 .q .leq (.i 7) (.z 1000000),
 .q .leq (.i 7) (.z 1000),
 .sop (.fs 704) [.s 6,.i 7],
 .fnb 448 [.int .u32 7,.s 14,.i 7,.z 0,.u 8,.u 9,.z 0],
 .sop (.fs 512) [.int .u32 7,.s 14,.i 7,.z 0,.u 8,.u 9,.z 0]]
def Q3o:LT:=Go.Wbp.fT 5 Qmp (.n (.n (.n (.n .e 96049593 5 .e) 256021619 10 (.n .e 274016282 16 .e)) 276146667 12 (.n (.n .e 655203543 7 .e) 734805606 14 .e)) 757047536 13 (.n (.n (.n .e 780087458 8 .e) 780087501 9 .e) 835864359 6 (.n (.n .e 899502652 15 .e) 963023942 11 .e)))
def Qbge:Sw:=.x 10 (.x 11 (.x 12 (.x 13 (.x 15 (.run (.leaf .normal Qva [(0,0)] [(0,.s 0),(5,.s 16),(1,.symi .u16 1),(2,.symi .u16 2),(3,.c 3),(4,.c 4)] []))))))
def Qbgd:KdT:=kdN 0x2210033550 5 1 0
noncomputable def Q3p:Ing:={m:=5,ins:=lgK4,G:=Qmp,T:=Q3o,tab:=Qa,lsts:=Qs,kb:=17,kt:=Qbgd}
noncomputable def Qux:Ing:={Q3p with mh:=Qbr (kdX Q3p) [sf81,sf10,sfE9]}
theorem Q3q:okLT 5 Qmp Q3o=true:=by kernel_rfl
theorem Qbgf (F:List Fact):Hooks Tryd.prog (cxOf Qux F):=
  Qcx (l:=[sf81,sf10,sfE9]) rfl rfl rfl rfl rfl Q3q rfl rfl rfl ⟨c81,c10,cE9,trivial⟩ F
theorem Qbgg:SegOk Tryd.prog Qa 61 (((Qe (Qc Tryd.f4)).drop 3).take 1) Qu9 Qux Qbge:=
  ⟨Q3q,by kernel_rfl,Qbgf,rfl,by kernel_rfl,by kernel_rfl,rfl,rfl,fun _=>trivial,by kernel_rfl⟩
def Qmq:List SDef:=[.sop .len [.s 5],
 .q .sub (.i 6) (.z 6),
 .q .leq (.z 0) (.i 7),
 .q .leq (.i 7) (.i 6),
 .sop .sub [.s 5,.z 0,.i 7],
 .sop (.row [.some .u16,.some .u16,.some .u8,.some .u8,.some .u16,.some .u16,.some .u8,.some .u8]) [.symi .u16 1,.symi .u16 2,.c 3,.c 4,.symi .u16 1,.symi .u16 2,.c 3,.c 4],
 .sop (.fs 640) [.s 11,.z 2],
 .fn 641 .i64 [.s 11,.z 2],
 .conv .i64 (.symi .u16 1),
 .q .mul (.i 14) (.z 100),
 .fn 642 .u64 [.s 11,.z 2,.symi .u16 1,.symi .u16 2],
 .fn 643 .u64 [.s 11,.z 2,.symi .u16 1,.symi .u16 2],
 .conv .i64 (.c 3),
 .q .rem (.i 18) (.z 7)]
def Q3r:LT:=Go.Wbp.fT 6 Qmq (.n (.n (.n (.n .e 45171899 10 .e) 103000641 14 (.n .e 256021619 8 .e)) 309001259 18 (.n (.n .e 345276246 15 .e) 367511103 13 (.n .e 606312352 7 .e))) 619670364 9 (.n (.n (.n .e 744624217 19 .e) 764185491 12 (.n .e 801740646 11 .e)) 835037981 6 (.n (.n .e 1000111219 16 .e) 1000111262 17 .e)))
def Qbgi:Sw:=.x 8 (.x 9 (.run (.leaf .normal Qjp [(2,0),(4,0)] [(0,.s 0),(1,.s 5),(2,.s 10),(3,.s 12),(4,.i 13),(5,.int .u32 7),(4,.i 13),(6,.i 15),(7,.u 16),(8,.u 17),(9,.i 19)] [])))
def Qbgh:KdT:=kdN 0x11221110000010033550 5 1 0
noncomputable def Q3s:Ing:={m:=6,ins:=Q4m,G:=Qmq,T:=Q3r,tab:=Qa,lsts:=Qs,kb:=20,kt:=Qbgh}
noncomputable def Quy:Ing:={Q3s with mh:=Qbr (kdX Q3s) [sf82]}
theorem Q3t:okLT 6 Qmq Q3r=true:=by kernel_rfl
theorem Qbgj (F:List Fact):Hooks Tryd.prog (cxOf Quy F):=
  Qcx (l:=[sf82]) rfl rfl rfl rfl rfl Q3t rfl rfl rfl ⟨c82,trivial⟩ F
theorem Qbgk:SegOk Tryd.prog Qa 61 (((Qe (Qc Tryd.f4)).drop 4).take 2) Qva Quy Qbgi:=
  ⟨Q3t,by kernel_rfl,Qbgj,rfl,by kernel_rfl,by kernel_rfl,rfl,rfl,fun _=>trivial,by kernel_rfl⟩
abbrev WZ4 (W:World):Exit->Act->World->Prop:=bodyPost Tryd.prog Tryd.f4 fun e W'=>e=.returned (.bool true)/\Below W.heap.size W W'
structure J4 (E:Nat->Option Fz) (V:Sig):Prop where
 z:(V.s 0).size<=9223372036854775807
 xe:V.ext=E
theorem J4.agree {E:Nat->Option Fz} {V U:Sig} (ag:Agree 5 V U) (h:J4 E V):J4 E U:=by
  cases h
  constructor<;>first|assumption|(simp (disch:=decide) only [ag.iv,ag.bv,ag.sv,ag.xv];assumption)
structure J4a (E:Nat->Option Fz) (V:Sig):Prop where
 z:(V.s 0).size<=200
 xe:V.ext=E
theorem J4a.agree {E:Nat->Option Fz} {V U:Sig} (ag:Agree 5 V U) (h:J4a E V):J4a E U:=by
  cases h
  constructor<;>first|assumption|(simp (disch:=decide) only [ag.iv,ag.bv,ag.sv,ag.xv];assumption)
structure J4b (E:Nat->Option Fz) (L:Lg) (V:Sig):Prop where
 z:(V.s 0).size<=200
 s5:V.s 5=bs (encG L)
 ok:LgOk L
 xe:V.ext=E
theorem J4b.agree {E:Nat->Option Fz} {L:Lg} {V U:Sig} (ag:Agree 6 V U) (h:J4b E L V):J4b E L U:=by
  cases h
  constructor<;>first|assumption|(simp (disch:=decide) only [ag.iv,ag.bv,ag.sv,ag.xv];assumption)
structure J4d (E:Nat->Option Fz) (V:Sig):Prop where
 z:(V.s 0).size<=200
 z1:(V.s 1).size<=1300
 z2:(V.s 2).size<=1300
 n0:0<=V.i 4
 n1:V.i 4<=60
 xe:V.ext=E
theorem J4d.agree {E:Nat->Option Fz} {V U:Sig} (ag:Agree 10 V U) (h:J4d E V):J4d E U:=by
  cases h
  constructor<;>first|assumption|(simp (disch:=decide) only [ag.iv,ag.bv,ag.sv,ag.xv];assumption)
theorem Qba5 {W:World} {V:Sig}:EndZ Qa 61 W (WZ4 W) .ret lgE4 V:=by
 intro en a w hxe hA
 exact Q9q (r:=4) rfl hA (by simp [lgE4]) (.inl hxe)
theorem st4C {W:World} {E:Nat->Option Fz} (hD:Qg Tryd.prog Qa 61 W (WZ4 W) ((Qe (Qc Tryd.f4)).drop 6) Qjp 10 Qjo (J4d E)):Qg Tryd.prog Qa 61 W (WZ4 W) ((Qe (Qc Tryd.f4)).drop 4) Qva 6 Q4m (fun V=> ∃L,J4b E L V):=by
 rw [show (Qe (Qc Tryd.f4)).drop 4=((Qe (Qc Tryd.f4)).drop 4).take 2++(Qe (Qc Tryd.f4)).drop 6 from rfl]
 refine Qg.seg mixed Qbgk ⟨rfl,rfl⟩ (fun V U ag ⟨L,h⟩=>⟨L,h.agree ag⟩) (fun U h=>Qq) hD (fun U e ht hi hj=> ?_)
 obtain ⟨L,hj⟩:=hj
 refine Qm ?_
 have F:Facs U 6 Qmq:=facs e
 dsimp only [Qmq,Facs,fac1,facI,facS,facB,oI,oK,oB,oS,nmL,nm,Nat.reduceAdd] at F
 obtain ⟨i6,i7,b8,b9,s10,-,-,i13,-⟩:=F
 have tr: ∀{P:Prop} {b:Bool} [Decidable P],b=decide P->b=false->P->False:=fun hb hf hp=>by rw [hb,decide_eq_false_iff_not] at hf;exact hf hp
 have hz:=hj.ok.size
 have h7:=Qbjr L 0
 have hm:=Qbis L 0
 rw [hj.s5] at i6 s10
 have i6:U.i 6=((bs (encG L)).size:Nat):=i6
 rw [Qh] at i7
 have e7:U.i 7=U.i 6-6:=by omega
 have z10:(U.s 10).size<=1300:=by
  rw [s10,ByteArray.size_extract]
  omega
 have e13:U.i 13=2:=by
  rw [i13,ht]
  have:=(Qqn (U.s 11) 2 0 0).2.1
  rw [Qs8] at this
  rw [show Qa 641 [encB (U.s 11),2]=2 from this]
  rfl
 exact ⟨fun f8=>⟨fun f9=> .inl ⟨rfl,rfl,insK (X:=Quy) e hi,⟨hj.z,(by show (U.s 5).size<=1300;rw [hj.s5];exact hz),z10,(by show 0<=U.i 13;omega),(by show U.i 13<=60;omega),extS hj.xe⟩,tabS ht⟩,fun f=>tr b9 f (by omega)⟩,fun f=>tr b8 f (by omega)⟩
theorem st4B {W:World} {E:Nat->Option Fz} (hD:Qg Tryd.prog Qa 61 W (WZ4 W) ((Qe (Qc Tryd.f4)).drop 6) Qjp 10 Qjo (J4d E)):Qg Tryd.prog Qa 61 W (WZ4 W) ((Qe (Qc Tryd.f4)).drop 3) Qu9 5 lgK4 (J4a E):=by
 rw [show (Qe (Qc Tryd.f4)).drop 3=((Qe (Qc Tryd.f4)).drop 3).take 1++(Qe (Qc Tryd.f4)).drop 4 from rfl]
 refine Qg.seg mixed Qbgg ⟨rfl,rfl⟩ (fun V U ag h=>h.agree ag) (fun U h=>Qq) (st4C hD) (fun U e ht hi hj=> ?_)
 refine Qm ?_
 have F:Facs U 5 Qmp:=facs e
 dsimp only [Qmp,Facs,fac1,facI,facS,facB,oI,oK,oB,oS,nmL,nm,Nat.reduceAdd] at F
 obtain ⟨-,s6,i7,i8,i9,b10,b11,b12,b13,s14,b15,s16,-⟩:=F
 have tr: ∀{P:Prop} {b:Bool} [Decidable P],b=decide P->b=false->P->False:=fun hb hf hp=>by rw [hb,decide_eq_false_iff_not] at hf;exact hf hp
 obtain ⟨t0,t1,t2,t3⟩:=Qqn (U.s 5) 1 0 0
 rw [ht] at s6 i7 i8 i9 s14 b15 s16
 replace s6:=s6.trans t0
 replace i7:=i7.trans (congrArg _ t1)
 replace i8:=i8.trans (congrArg _ t2)
 replace i9:=i9.trans (congrArg _ t3)
 have hdl:=Qs8 (U.s 5) 1
 obtain ⟨o1,o2,o3,o4,o5,_,_⟩:=Qlb (U.s 5) 1
 rw [show min 1 60=1 from rfl] at s6 i7
 rw [Qh] at i7
 rw [Qf] at i8 i9
 have v1:(draG 0 (U.s 5) 1 0 0 0).ret=(Qu noE (draL (U.s 5) 1)).r+0:=rfl
 have v2:(draG 0 (U.s 5) 1 0 0 0).br=min ((Qu noE (draL (U.s 5) 1)).r+0) ((Qu noE (draL (U.s 5) 1)).b+0):=rfl
 have e7:U.i 7=((1:Nat):Int):=by omega
 have e8:U.i 8=(draG 7 (U.s 5) 1 0 0 0).ret:=by
  show U.i 8=(Qu noE (draL (U.s 5) 1)).r+0
  omega
 have e9:U.i 9=(draG 7 (U.s 5) 1 0 0 0).br:=by
  show U.i 9=min ((Qu noE (draL (U.s 5) 1)).r+0) ((Qu noE (draL (U.s 5) 1)).b+0)
  omega
 have hv:=Qy9 (U.s 5) 1 (by decide)
 have hl:lstE (U.s 6) 1=draL (U.s 5) 1:=by
  have:=Qm7 hv
  rw [hdl,<-s6] at this
  exact this
 have e14:lstE (U.s 14) 1=draL (U.s 5) 1:=by
  rw [s14,e7,Qqo,Qvr,hl]
 have hL:(⟨7,lstE (U.s 14) 1,0,U.i 8,U.i 9,0⟩:Lg)=draG 7 (U.s 5) 1 0 0 0:=by
  rw [e14,e8,e9]
  rfl
 have hr:right (draG 7 (U.s 5) 1 0 0 0)=true:=Qbap (by decide) (by decide) (by decide)
 have e15:U.b 15=true:=by rw [b15,e7,Qjq,hL,hr]
 have e16:U.s 16=bs (encG (draG 7 (U.s 5) 1 0 0 0)):=by rw [s16,e7,Qm3,hL]
 exact ⟨fun _=>⟨fun _=>⟨fun _=>⟨fun _=>⟨fun _=> .inl ⟨rfl,rfl,insK (X:=Qux) e hi,⟨draG 7 (U.s 5) 1 0 0 0,hj.z,e16,⟨hr,hv,(by show (draL (U.s 5) 1).length<=60;omega),(by show (0:Int)<=7/\(7:Int)<4294967296;decide)⟩,extS hj.xe⟩,tabS ht⟩,fun f=>(by rw [e15] at f;cases f)⟩,fun f=>tr b13 f (by omega)⟩,fun f=>tr b12 f (by omega)⟩,fun f=>tr b11 f (by omega)⟩,fun f=>tr b10 f (by omega)⟩
theorem st4A {W:World} {E:Nat->Option Fz} (hD:Qg Tryd.prog Qa 61 W (WZ4 W) ((Qe (Qc Tryd.f4)).drop 6) Qjp 10 Qjo (J4d E)):Qg Tryd.prog Qa 61 W (WZ4 W) (Qe (Qc Tryd.f4)) lgS4 5 lgK4 (J4 E):=by
 rw [show Qe (Qc Tryd.f4)=(Qe (Qc Tryd.f4)).take 3++(Qe (Qc Tryd.f4)).drop 3 from rfl]
 refine Qg.seg mixed Qbgc ⟨rfl,rfl⟩ (fun V U ag h=>h.agree ag) (fun U h=>Qq) (st4B hD) (fun U e ht hi hj=> ?_)
 refine Qm ?_
 have F:Facs U 5 Qmo:=facs e
 dsimp only [Qmo,Facs,fac1,facI,facS,facB,oI,oK,oB,oS,nmL,nm,Nat.reduceAdd] at F
 obtain ⟨i5,i6,b7,b8,s9,-⟩:=F
 have tr: ∀{P:Prop} {b:Bool} [Decidable P],b=decide P->b=false->P->False:=fun hb hf hp=>by rw [hb,decide_eq_false_iff_not] at hf;exact hf hp
 have e6:U.i 6=min (U.i 5) 200:=by rw [i6];split<;>omega
 clear i6
 have z9:(U.s 9).size<=200:=by
  rw [s9,ByteArray.size_extract]
  omega
 exact ⟨fun f7=>⟨fun f8=> .inl ⟨rfl,rfl,insK (X:=Q3n) e hi,⟨z9,extS hj.xe⟩,tabS ht⟩,fun f=>tr b8 f (by omega)⟩,fun f=>tr b7 f (by omega)⟩
end Go.Proofs.YtelimhjceiamcaaDoor.lg
set_option maxRecDepth 100000
namespace Go.Proofs.YtelimhjceiamcaaDoor.logReads
open Go.ChangeShapes Go.WideShapes Go.ChangeAt Go.RowKit
open Go.Ev Go.Wbp Go.Lgp Go.Proofs.YtelimhjceiamcaaDoor.fa Go.Proofs.YtelimhjceiamcaaDoor.lg
open Go.Proofs.YtelimhjceiamcaaDoor.lgn (mixed)
theorem own:ownKnob Tryd.prog.godebug=none:=by kernel_rfl
noncomputable def ing:Ing:={m:=0,G:=[],T:=.e,mh:=asMh Tryd.prog 35 78 88 36 34,inv:=Qdo 0 Qdt}
theorem hooks (F:List Fact):Hooks Tryd.prog (cxOf ing F) where
 val:=fun f args v h=>by simp only [ing,cxOf,Qfb,reduceCtorEq] at h
 mem:=fun f args hp v hp' h=>Q9j (X:=ing) rfl rfl as_ok is_ok (fun _ h=>h) F f args hp v hp' h
 ovl:=fun f k h=>by simp only [ing,cxOf,reduceCtorEq] at h
 atm:=fun k b h=>by simp only [ing,cxOf,List.not_mem_nil] at h
theorem Qbne:Qen ((evD Tryd.prog (cxOf ing) true 1000 40).1 [] 14 [] ⟨[],[]⟩)=true:=by kernel_rfl
theorem Qbnd (w:World) (O:Obj) (hO:Qdt O) (hw:w.heap[0]? =some O):Calls Tryd.prog 14 #[] w fun e w'=>e=.returned (.bool true)/\Below w.heap.size w w':=by
 have hY:FzOk (Qi3 O) w:=by
  obtain ⟨C,t,fr,rfl,hC⟩:=hO
  exact ⟨C,t,fr,hw,fun m j hm hj=>absurd hj (Nat.not_lt_zero j),fun o ho=>by cases ho;exact hw⟩
 exact Q96 (Y:=Qi3 O) ⟨rfl,rfl,rfl,rfl,rfl,rfl⟩ (fun V he=>Q6g (r:=0) hO (by rw [he];rfl)) (hm:=mixed) (hh:=hooks) (h:=Qbne) (w:=w) (hY:=hY)
theorem Qbmo {P:Program} {X:Ing} {fs:List Nat} {blk:Nat} {OK:Obj->Prop}
  (h: ∀f,f∈fs-> ∀(w:World) (O:Obj),OK O->w.heap[blk]? =some O->Calls P f #[] w fun e w'=>e=.returned (.bool true)/\Below w.heap.size w w')
  (hinv: ∀V,X.inv V->Qdo blk OK V) (F:List Fact) (look:SDef->Option AVal) (f:FuncId) (args:List AVal) (hp:Hp) (v:AVal) (hp':Hp) (hm:Qsa fs look f args hp=some (v,hp')):CallP P (cxOf X F) f args hp (.val v) hp':=by
 unfold Qsa at hm
 split at hm
 ·split at hm
  ·rename_i hf
   cases hm
   obtain ⟨f',hf1,hf2⟩:=List.any_eq_true.1 hf
   have:=Nat.eq_of_beq_eq_true hf2
   subst this
   refine ⟨Touch.refl _,fun g w args' hH hl=> ?_⟩
   obtain ⟨l⟩:=args'
   cases hl
   obtain ⟨O,hO1,hO2⟩:=Q6h hH (hinv _ hH.sig.ok.2.inv)
   refine (h f hf1 w O hO1 hO2).mono ?_
   rintro e w' ⟨rfl,hB⟩
   obtain ⟨g1,g2⟩:=hH.below hB
   exact ⟨g,⟨_,rfl,.bool _⟩,g1,g2⟩
  ·cases hm
 ·cases hm
def Qjh:List SDef:=[.q .leq (.z 0) (.i 4),
 .q .leq (.i 4) (.i 4),
 .q .leq (.i 4) (.z 1000000),
 .q .leq (.i 4) (.z 1000),
 .sop .len [.s 0],
 .q .leq (.i 14) (.z 1000000),
 .sop .cat [.str ⟨#[80,76,1,0,0,0,7]⟩,.s 0],
 .sop .len [.s 16],
 .q .leq (.i 17) (.z 1000000),
 .sop .cat [.s 2,.s 0],
 .sop .len [.s 19],
 .q .leq (.i 20) (.z 1000000),
 .sop .cat [.s 0,.s 1],
 .sop .len [.s 22],
 .q .leq (.i 23) (.z 1000000),
 .q .leq (.i 17) (.z 9223372036854775807),
 .q .leq (.i 20) (.z 9223372036854775807),
 .q .leq (.i 23) (.z 9223372036854775807)]
def Quz:LT:=Go.Wbp.fT 10 Qjh (.n (.n (.n (.n (.n .e 7086 14 .e) 220682 16 .e) 179086215 27 (.n .e 212407870 18 .e)) 299702712 10 (.n (.n (.n .e 334231704 19 .e) 452917543 23 .e) 454046627 13 (.n .e 515408779 21 .e))) 524622296 17 (.n (.n (.n (.n .e 646826224 25 .e) 703704126 11 .e) 818409688 24 (.n .e 882443587 22 .e)) 949827133 26 (.n (.n .e 983148788 15 .e) 1025640833 20 (.n .e 1046887585 12 .e))))
def Qbgl:Sw:=.x 10 (.x 11 (.x 12 (.x 13 (.x 15 (.x 18 (.x 21 (.x 24 (.x 25 (.x 26 (.x 27 (.run (.leaf .ret lgE4 [] [] []))))))))))))
def Q3u:KdT:=kdN 0x1221410000 5 1 0
noncomputable def Q3v:Ing:={m:=10,ins:=Qjo,G:=Qjh,T:=Quz,tab:=Qa,lsts:=Qs,kb:=28,kt:=Q3u}
noncomputable def Qg1:Ing:={m:=10,ins:=Qjo,G:=Qjh,T:=Quz,tab:=Qa,lsts:=Qs,kb:=28,kt:=Q3u,mh:=orMh (Qsa [14]) (Qbr (kdX Q3v) [sf12]),inv:=Qdo 0 Qdt}
theorem Q3w:okLT 10 Qjh Quz=true:=by kernel_rfl
theorem Qbgm (F:List Fact):Hooks Tryd.prog (cxOf Qg1 F) where
 val:=fun f args v h=>by simp only [Qg1,cxOf,Qfb,reduceCtorEq] at h
 mem:=fun f args hp v hp' h=>by
  replace h:(orMh (Qsa [14]) (Qbr (kdX Q3v) [sf12])) (symS (Q3 Qg1 F)) f args hp=some (v,hp'):=h
  unfold orMh at h
  split at h
  ·rename_i r hr
   cases h
   exact Qbmo (X:=Qg1) (fs:=[14]) (fun f hf w O h1 h2=>by
    obtain rfl:=List.mem_singleton.1 hf
    exact Qbnd w O h1 h2) (fun _ h=>h) F _ f args hp v hp' hr
  ·exact Qvv (X:=Qg1) (tbl:=[sf12]) (inv:=Qdo 0 Qdt) (fun e he=>by
    obtain rfl:=List.mem_singleton.1 he
    exact c12) Q3w rfl (fun V U hx h=>Q6f hx h) F f args hp v hp' h
 ovl:=fun f k h=>by simp only [Qg1,cxOf,reduceCtorEq] at h
 atm:=fun k b h=>by simp only [Qg1,cxOf,List.not_mem_nil] at h
theorem Qbgn:SegOkI Tryd.prog Qa 61 ((Qe (Qc Tryd.f4)).drop 6) Qjp Qg1 Qbgl:=
  ⟨Q3w,by kernel_rfl,Qbgm,rfl,by kernel_rfl,by kernel_rfl,rfl,rfl,by kernel_rfl⟩
def EE (O:Obj):Nat->Option Fz:=fun i=>if i=0 then some (Qi3 O) else none
theorem Q81 {O:Obj} {i:Nat} (h:1000<=i):EE O i=none:=by
 unfold EE
 rw [if_neg (by omega)]
theorem Q82 {O:Obj} (hO:Qdt O) {V:Sig} (h:V.ext=EE O):Qdo 0 Qdt V:=Q6g (r:=0) hO (by rw [h];rfl)
theorem st4D {W:World} {O:Obj} (hO:Qdt O):Qg Tryd.prog Qa 61 W (WZ4 W) ((Qe (Qc Tryd.f4)).drop 6) Qjp 10 Qjo (J4d (EE O)):=by
 refine Qg.lastI mixed Qbgn ⟨rfl,rfl⟩ (fun V U ag h=>h.agree ag) (fun U h=>Qq) (fun U h=>Q82 hO h.xe) (fun U e ht hi hj=> ?_)
 refine Qm ?_
 have F:Facs U 10 Qjh:=facs e
 dsimp only [Qjh,Facs,fac1,facI,facS,facB,oI,oK,oB,oS,nmL,nm,Nat.reduceAdd] at F
 obtain ⟨b10,b11,b12,b13,i14,b15,s16,i17,b18,s19,i20,b21,s22,i23,b24,b25,b26,b27,-⟩:=F
 have tr: ∀{P:Prop} {b:Bool} [Decidable P],b=decide P->b=false->P->False:=fun hb hf hp=>by rw [hb,decide_eq_false_iff_not] at hf;exact hf hp
 have hz:=hj.z
 have hz1:=hj.z1
 have hz2:=hj.z2
 have hn0:=hj.n0
 have hn1:=hj.n1
 have z16:(U.s 16).size=7+(U.s 0).size:=by rw [s16,ByteArray.size_append];rfl
 have z19:(U.s 19).size=(U.s 2).size+(U.s 0).size:=by rw [s19,ByteArray.size_append]
 have z22:(U.s 22).size=(U.s 0).size+(U.s 1).size:=by rw [s22,ByteArray.size_append]
 exact ⟨fun f10=>⟨fun f11=>⟨fun f12=>⟨fun f13=>⟨fun f15=>⟨fun f18=>⟨fun f21=>⟨fun f24=>⟨fun f25=>⟨fun f26=>⟨fun f27=>Qba5,fun f=>tr b27 f (by omega)⟩,fun f=>tr b26 f (by omega)⟩,fun f=>tr b25 f (by omega)⟩,fun f=>tr b24 f (by omega)⟩,fun f=>tr b21 f (by omega)⟩,fun f=>tr b18 f (by omega)⟩,fun f=>tr b15 f (by omega)⟩,fun f=>tr b13 f (by omega)⟩,fun f=>tr b12 f (by omega)⟩,fun f=>tr b11 f (by omega)⟩,fun f=>tr b10 f (by omega)⟩
def d4:List Cl:=[.i .u16,.i .u16,.i .u8,.i .u8]
theorem walk (W:World) (hL:laidMetH Tryd.prog laid W) (s0:ByteArray) (z0:s0.size<=9223372036854775807) (l1:List Int) (i1:InR d4 l1):
  Calls Tryd.prog 4 #[.string s0,.agg (Q8 d4 l1).toArray] W fun e W'=>e=.returned (.bool true)/\Below W.heap.size W W':=by
 obtain ⟨O,hO,hYO⟩:=Qbbg (Qbb0 hL)
 obtain ⟨a0,a1,a2,a3,rfl,w0,w1,w2,w3⟩: ∃a0 a1 a2 a3:Int,l1=[a0,a1,a2,a3]/\IntKind.u16.wrap a0=a0/\IntKind.u16.wrap a1=a1/\IntKind.u8.wrap a2=a2/\IntKind.u8.wrap a3=a3:=by
  match l1,i1 with
  |[a,b,c,d],⟨h1,h2,h3,h4,_⟩=>exact ⟨a,b,c,d,rfl,h1,h2,h3,h4⟩
 let V0:Sig:=⟨fun i=>if i=1 then a0 else if i=2 then a1 else if i=3 then a2 else a3,fun _=>false,fun _=>s0,Qa,EE O⟩
 refine Q92 (V0:=V0) (tab:=Qa) (n:=61) (q:=5) (ins:=lgK4) (args:=[.syms 0,.agg lgD4]) (J:=J4 (EE O)) Tryd.func4 rfl rfl rfl (.cons _ _ _ _ (.syms 0) (.cons _ _ _ _ ?_ .nil)) (by simp) ?_ ?_ ⟨z0,rfl⟩ (st4A (st4D hO)) (fun i Y h0 h=>by rw [show V0.ext i=none from Q81 h0] at h;cases h)
 ·have h0:Q8 d4 [a0,a1,a2,a3]=[.int .u16 a0,.int .u16 a1,.int .u8 a2,.int .u8 a3]:=by simp [Q8,encC,d4,w0,w1,w2,w3]
  rw [h0]
  exact .agg _ _ (.cons _ _ _ _ (.symi .u16 1) (.cons _ _ _ _ (.symi .u16 2) (.cons _ _ _ _ (.symi .u8 3) (.cons _ _ _ _ (.symi .u8 4) .nil))))
 ·intro i Y h hlen
  have h:EE O i=some Y:=h
  unfold EE at h
  split at h
  ·cases h;exact hYO
  ·cases h
 ·intro i k hi hk
  have:i=0\/i=1\/i=2\/i=3\/i=4:=by omega
  rcases this with rfl|rfl|rfl|rfl|rfl
  ·cases hk
  ·have hk:IntKind.u16=k:=Option.some.inj hk
   subst hk
   exact w0
  ·have hk:IntKind.u16=k:=Option.some.inj hk
   subst hk
   exact w1
  ·have hk:IntKind.u8=k:=Option.some.inj hk
   subst hk
   exact w2
  ·have hk:IntKind.u8=k:=Option.some.inj hk
   subst hk
   exact w3
section
variable {H : Type} {enc : TypeId × Value -> H} {P : Program}
theorem Qbjp {f:Func} {s:ChangeSpec} {apart fresh handsOn again:Bool} {W W':World} {args:Array Value} {v:Value} {ds gs:List (DataW H)} {before pa pv:List MemPlace}
  (hW:DataW.Whole enc P f.params.toList s.vars apart W args.toList ds gs before)
  (hres: ∀(b:Nat) (sp:Nat->Bool) (hd:Bool),DataW.TrodAll enc P W' b sp hd f.resultTypes.toList (v.resultList f.resultTypes.size) (s.fn H (ds++gs)).results [])
  (hargs: ∀sp:Nat->Bool,(∀p∈before,sp p.block=true)->DataW.TrodAll enc P W' 0 sp true f.params.toList args.toList (s.fn H (ds++gs)).args pa)
  (hvars: ∀sp:Nat->Bool,(∀p∈before,sp p.block=true)->DataW.TrodVars enc P W' sp s.vars (s.fn H (ds++gs)).vars pv)
  (hps:before=pa++pv) (hb:Below W.heap.size W W')
  (hok: ∀(j:Nat) (t:TypeId) (r:Value),f.resultTypes[j]? =some t->(v.resultList f.resultTypes.size)[j]? =some r->Value.okWide P W' .any 0 t r):
  s.post enc P f apart fresh handsOn again W args v W':=by
 have hlt: ∀p∈before,p.block<W.heap.size:=fun p hp=>hW.lt p hp
 have hold: ∀p∈before,(fun b=>decide (b<W.heap.size)) p.block=true:=fun p hp=>by simpa using hlt p hp
 refine ⟨ds,gs,before,[],pa,pv,hW,hres _ _ _,hargs _ hold,hvars _ hold,World.keptBut_mono (fun p hp=>⟨hp,?_⟩) (hb.frame (· ∈before)),fun _=> ?_⟩
 ·rw [hps,List.mem_append] at hp
  exact Or.inr hp
 ·obtain ⟨_,_,_,_,_,hz,hn⟩:=hW
  refine ⟨hok,_,_,([]++pa)++pv,⟨[]++pa,pv,trodAll_append (hargs _ (fun _ _=>rfl)) (hres _ _ _),hvars _ (fun _ _=>rfl),rfl,?_,?_⟩,?_⟩
  ·intro b off hp
   have hin:MemPlace.cell b off∈before:=by rw [hps];simpa using hp
   rw [hb.frozen (hlt _ hin)]
   exact hz b off hin
  ·intro ha
   have:=hn ha
   rw [hps] at this
   simpa using this
  ·intro p hp _
   rw [hps]
   simpa using hp
end
theorem Q0d:flat Tryd.prog 4 33=some d4:=by kernel_rfl
theorem Q86:Ev.isAgg Tryd.prog 33=true:=by kernel_rfl
theorem lifted (os:Os) (started:os.Started) (H:Type) (enc:TypeId×Value->H):
  ReturnsInHanded {} Tryd.checked os 4 .any (fun w args=>(Rows.logReadsSpec.pre enc Tryd.prog Tryd.f4 [] false w args/\laidMetH Tryd.prog laid w)/\sizedMet enc Tryd.prog Tryd.f4 (OpenSpec.ofChange Rows.logReadsSpec) false w args) (Rows.logReadsSpec.post enc Tryd.prog Tryd.f4 false true false false):=by
 refine returnsInHanded_of_change_and (C:=Tryd.checked) (X:=fun w _=>laidMetH Tryd.prog laid w) (fun _ _ _ hh h=>h.of_heap hh) own started (by kernel_rfl) Tryd.func4
  (ChangeSpec.witness_at (enc:=enc) (C:=Tryd.checked) (os:=os) (X:=fun w _=>laidMetH Tryd.prog laid w) false (Q1c os) #[.string .empty,.agg #[.int .u16 0,.int .u16 0,.int .u8 0,.int .u8 0]] 8 rfl (by kernel_rfl) (by kernel_rfl) (by kernel_rfl) (by kernel_rfl) (by kernel_rfl) (Qbco os _)) ?_
 intro W base args ds gs before hval0 hW _ _ hL _
 have hval: ∀(j:Nat) t v,Tryd.f4.params[j]? =some t->args[j]? =some v->Value.okWide Tryd.prog W .any base t v:=hval0
 have hW':=hW
 obtain ⟨p,q,hA0,hVv,rfl,hfz,hnd⟩:=hW
 have hA:DataW.TrodAll enc Tryd.prog W 0 (fun _=>true) true Tryd.f4.params.toList args.toList ds p:=hA0
 rw [Tryd.params4] at hA hval
 obtain ⟨v0,vs0,d0,ds0,p0,q0,hargs,rfl,rfl,h0,r0⟩:=trodAll_cons hA
 obtain ⟨v1,vs1,d1,ds1,p1,q1,rfl,rfl,rfl,h1,r1⟩:=trodAll_cons r0
 obtain ⟨rfl,rfl,rfl⟩:=trodAll_nil r1
 obtain rfl:args= #[v0,v1]:=by cases args;simp_all
 obtain ⟨rfl,rfl⟩:=trodVars_none hVv
 obtain ⟨s0,rfl,rfl,rfl,z0⟩:=Go.ChangeMaps.open_string Tryd.underlying9 (hval 0 9 v0 rfl rfl) h0
 obtain ⟨l1,i1,rfl,rfl⟩:=Qbjc Q0d Q86 (hval 1 33 v1 rfl rfl) h1
 clear hA0 hval0
 simp only [List.append_nil] at hW'
 refine (walk W hL s0 z0 l1 i1).mono fun e W' ⟨he,hg⟩=> ?_
 subst he
 exact ⟨_,rfl,Qbjp (pa:=[]++([]++([]))) (pv:=[]) hW' (fun _ _ _=>(trodAll_cons_mk (shut_bool Tryd.underlying4 _) trodAll_mk0)) (fun sp hsp=>(trodAll_cons_mk (Go.ChangeMaps.shut_string Tryd.underlying9 z0) (trodAll_cons_mk (Qbl1 Q0d h1) trodAll_mk0))) (fun _ _=>rfl) (by simp)
  hg (ok_one (by kernel_rfl) rfl (okWide_bool_mk Tryd.underlying4 _))⟩
theorem over:Rows.logReadsRow.holds Tryd.pinned (OpenSpec.ofChange Rows.logReadsSpec):=
 OpenClaim.holds_of_wide 4 Tryd.f4 rfl rfl rfl rfl rfl rfl rfl ⟨rfl,rfl,rfl,rfl,rfl⟩ rfl rfl rfl rfl rfl (by kernel_rfl) Tryd.func4 (by kernel_rfl)
  (of_decide_eq_true (by kernel_rfl)) (by unfold Func.isWrapper;first|(rw [if_pos (by decide+kernel)];kernel_rfl)|(rw [if_neg (by decide+kernel)];exact ⟨rfl,rfl⟩))
  (fun os started H enc _=>lifted os started H enc)
theorem proved:Rows.LogReadsCardSaid:=
 Claim7.holds_tied_plain_at .later [] [.handle] true (true, "f7320017d8dbac5bf9390de536c7a94b842b6469bd8c9c4a50570fa0399e2027") true
  over (fun _ h=>by cases h) (by kernel_rfl) (fun _ h=>by cases h) logReads_row_tie rfl ⟨rfl,rfl⟩ (by kernel_rfl) rfl
  (fun f fn hf hfn=>by
   obtain rfl:f=4:=Option.some.inj ((show Tryd.prog.funcNamed "plover/ploverlaw26.LogReads" =some 4 by kernel_rfl).symm.trans hf)|>.symm
   obtain rfl:fn=Tryd.f4:=(Option.some.inj (Tryd.func4.symm.trans hfn)).symm
   exact ⟨by kernel_rfl,fun j t ht=>by
    rw [Tryd.params4] at ht
    rcases j with _|_|j
    ·obtain rfl:t=9:=by simpa using ht.symm
     exact (show Tryd.prog.wantsStandIn 9=false by kernel_rfl)
    ·obtain rfl:t=33:=by simpa using ht.symm
     exact (show Tryd.prog.wantsStandIn 33=false by kernel_rfl)
    ·simp at ht⟩)
  (by kernel_rfl)
#print axioms proved
end Go.Proofs.YtelimhjceiamcaaDoor.logReads
