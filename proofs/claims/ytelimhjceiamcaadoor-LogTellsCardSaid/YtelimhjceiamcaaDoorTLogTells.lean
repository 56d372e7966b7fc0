/-
 Contract of alike.
 No conditions.
-/
import Derived.Test.YtelimhjceiamcaaDoorTLgs
import Derived.Test.YtelimhjceiamcaaDoorTLg25
import Derived.Test.YtelimhjceiamcaaDoorTLg9
import Derived.Test.YtelimhjceiamcaaDoorTLg15
import Derived.Test.YtelimhjceiamcaaDoorTFal
import Derived.Test.YtelimhjceiamcaaDoorTEv7
import Derived.Test.YtelimhjceiamcaaDoorTEv8
import Derived.Test.YtelimhjceiamcaaDoorTLg8r
import Derived.Test.YtelimhjceiamcaaDoorRows
import Derived.Test.YtelimhjceiamcaaDoorCards
import Derived.Test.YtelimhjceiamcaaDoorTie
import Derived.SevenTiedAt
import Derived.WalkKit
import Derived.ProofKit
import Derived.OpenShut
import Derived.Below
import Derived.ChangeSame
import Derived.ChangeMaps5
import Derived.Lib.Strings
import Derived.WideKeyArgs
set_option linter.unusedVariables false
set_option linter.unusedSimpArgs false
set_option maxRecDepth 100000
namespace Go.Proofs.YtelimhjceiamcaaDoor.lg
open Go.Ev Go.RowKit Go.Wbp Go.Lgp
open Go.Proofs.YtelimhjceiamcaaDoor.lgn (mixed sf48 Qbu)
open Go.Proofs.YtelimhjceiamcaaDoor.fa
def Qvm:List (Option IntKind):=lgK++[none]
def Qbix:Shape:=⟨argT 0 [lgA,.s 8],[eL 6 7]⟩
def Qq4:Shape:=⟨[(1,.s 8),(2,.ptr 1 0),(5,.s 9),(6,.i 11),(7,.s 10),(8,.i 11)],[eL 6 7,.cells lgC 26]⟩
def Qvo:List (Option IntKind):=Qvm++[none,none,some .i64]
def Qj0:Shape:=⟨[(4,.bool true),(43,lgA)],[eL 6 7]⟩
def sf12:SymF:=
 {f:=12,m:=9,ins:=Qvm,args:=[lgA,.s 8],pre:=[eL 6 7],pcs:=lgQ++[.q .leq (.i 1) (.z 1000),.q .leq (.i 9) (.z 1000000)],G:=[.sop .len [.s 8]],v:=.bool true,post:=[eL 6 7]}
def Qmp:List SDef:=[.q .leq (.z 0) (.i 1),
 .q .leq (.i 1) (.i 7),
 .q .leq (.i 7) (.z 1000000),
 .q .leq (.i 1) (.z 1000),
 .q .leq (.i 1) (.i 1),
 .q .leq (.i 1) (.z 1000000),
 .sop (.fs 704) [.s 6,.i 1],
 .fnb 448 [.w 0,.s 6,.i 1,.i 2,.u 3,.u 4,.i 5],
 .fnb 448 [.w 0,.s 15,.i 1,.i 2,.u 3,.u 4,.i 5],
 .un .not (.symb 16),
 .un .not (.symb 17),
 .sop (.fs 512) [.w 0,.s 6,.i 1,.i 2,.u 3,.u 4,.i 5],
 .sop (.fs 512) [.w 0,.s 15,.i 1,.i 2,.u 3,.u 4,.i 5],
 .q .eql (.s 20) (.s 21),
 .text []]
def Q2s:LT:=Go.Wbp.fT 9 Qmp (.n (.n (.n (.n .e 168 23 .e) 348734 21 (.n .e 151045718 12 .e)) 276146667 11 (.n (.n .e 320878263 16 .e) 343383805 9 (.n .e 357022124 10 .e))) 444384310 13 (.n (.n (.n .e 542312227 18 .e) 643315560 19 (.n .e 647821532 22 .e)) 650265181 20 (.n (.n .e 743886676 14 .e) 811225403 15 (.n .e 964328569 17 .e))))
def Qbev:Sw:=.x 9 (.x 10 (.x 11 (.x 12 (.x 13 (.x 14 (.n 16 (.x 17 (.run (.leaf .normal Qq4 [(0,0),(1,0)] [(8,.s 8),(9,.s 20),(11,.z 0),(10,.s 21),(11,.z 0),(6,.s 6),(7,.i 7),(0,.w 0),(1,.i 1),(2,.i 2),(3,.u 3),(4,.u 4),(5,.i 5)] []))) (.y 17 (.x 18 (.x 19 (.run (.leaf .normal Qq4 [(0,0),(1,0)] [(8,.s 8),(9,.s 23),(11,.z 2),(10,.s 23),(11,.z 2),(6,.s 6),(7,.i 7),(0,.w 0),(1,.i 1),(2,.i 2),(3,.u 3),(4,.u 4),(5,.i 5)] [])))))))))))
def Qbeu:KdT:=kdN 0x10122114 5 1 0
noncomputable def Q2t:Ing:={m:=9,ins:=Qvm,G:=Qmp,T:=Q2s,tab:=Qa,lsts:=Qs,kb:=24,kt:=Qbeu}
noncomputable def Qqt:Ing:={Q2t with mh:=Qbr (kdX Q2t) [sf15,Qgo,sf10,sfE9,sf9n]}
theorem Q2u:okLT 9 Qmp Q2s=true:=by kernel_rfl
theorem Qbew (F:List Fact):Hooks Tryd.prog (cxOf Qqt F):=
  Qcy (l:=[sf15,Qgo,sf10,sfE9,sf9n]) rfl rfl rfl rfl rfl Q2u rfl rfl rfl ⟨c15,c15n,c10,cE9,c9n,trivial⟩ F
theorem Qbex:SegOk Tryd.prog Qa 67 ((Qe (Qc Tryd.f12)).take 3) Qbix Qqt Qbev:=
  ⟨Q2u,by kernel_rfl,Qbew,rfl,by kernel_rfl,by kernel_rfl,rfl,rfl,fun _=>trivial,by kernel_rfl⟩
def Qjx:List SDef:=[.q .leq (.z 0) (.i 1),
 .q .leq (.i 1) (.i 7),
 .q .leq (.i 7) (.z 1000000),
 .sop .len [.s 8],
 .q .leq (.i 15) (.z 1000000),
 .q .eql (.s 9) (.s 10),
 .fnb 448 [.w 0,.s 6,.i 1,.i 2,.u 3,.u 4,.i 5],
 .q .eql (.i 11) (.z 0),
 .fnb 576 [.s 8],
 .fnb 585 [.s 8],
 .sop (.fs 578) [.s 8],
 .fn 579 .i64 [.s 8],
 .fn 580 .u32 [.s 8],
 .fn 581 .i64 [.s 8],
 .fn 582 .u64 [.s 8],
 .fn 583 .u64 [.s 8],
 .fn 584 .i64 [.s 8],
 .q .leq (.z 0) (.i 23),
 .q .leq (.i 23) (.i 23),
 .q .leq (.i 23) (.z 1000000),
 .q .eql (.i 23) (.i 23),
 .q .eql (.w 24) (.w 24),
 .q .eql (.i 25) (.i 25),
 .q .eql (.u 26) (.u 26),
 .q .eql (.u 27) (.u 27),
 .q .eql (.i 28) (.i 28),
 .sop (.fs 704) [.s 22,.i 23],
 .q .eql (.s 38) (.s 22),
 .fn 384 .u8 [.s 8],
 .fn 577 .i64 [.s 8]]
def Qu4:LT:=Go.Wbp.fT 12 Qjx (.n (.n (.n (.n (.n .e 10407264 16 .e) 22335066 20 (.n .e 22335543 21 .e)) 37271900 19 (.n (.n .e 51115757 17 .e) 186425098 36 (.n .e 262314691 15 .e))) 262892697 22 (.n (.n (.n .e 276146667 14 .e) 320878263 18 (.n .e 339806806 38 .e)) 343383805 12 (.n (.n .e 357022124 13 .e) 371459163 34 (.n .e 380969732 29 .e)))) 556493228 32 (.n (.n (.n (.n .e 556493249 30 .e) 630778979 37 (.n .e 662098960 39 .e)) 815813044 35 (.n (.n .e 818409688 31 .e) 1000847109 33 (.n .e 1048060837 40 .e))) 1048069136 41 (.n (.n (.n .e 1048069222 23 .e) 1048069265 24 (.n .e 1048069308 25 .e)) 1048069351 26 (.n (.n .e 1048069394 27 .e) 1048069437 28 .e))))
def Qbey:Sw:=.x 12 (.x 13 (.x 14 (.x 16 (.x 17 (.n 18 (.x 19 (.n 20 (.x 29 (.x 30 (.x 31 (.x 32 (.x 33 (.x 34 (.x 35 (.x 36 (.x 37 (.x 39 (.run (.leaf .ret Qj0 [(0,0)] [(0,.w 0),(1,.i 1),(2,.i 2),(3,.u 3),(4,.u 4),(5,.i 5),(6,.s 6),(7,.i 7)] [])))))))))))) (.x 21 (.run (.leaf .ret Qj0 [(0,0)] [(0,.w 0),(1,.i 1),(2,.i 2),(3,.u 3),(4,.u 4),(5,.i 5),(6,.s 6),(7,.i 7)] []))))) (.y 19 (.n 20 (.x 29 (.x 30 (.x 31 (.x 32 (.x 33 (.x 34 (.x 35 (.x 36 (.x 37 (.x 39 (.run (.leaf .ret Qj0 [(0,0)] [(0,.w 0),(1,.i 1),(2,.i 2),(3,.u 3),(4,.u 4),(5,.i 5),(6,.s 6),(7,.i 7)] [])))))))))))) (.x 21 (.run (.leaf .ret Qj0 [(0,0)] [(0,.w 0),(1,.i 1),(2,.i 2),(3,.u 3),(4,.u 4),(5,.i 5),(6,.s 6),(7,.i 7)] []))))))))))
def Q2v:KdT:=kdN 0x130000000000012214100000000000100010122114 6 1 0
noncomputable def Qqu:Ing:={m:=12,ins:=Qvo,G:=Qjx,T:=Qu4,tab:=Qa,lsts:=Qs,kb:=42,kt:=Q2v}
noncomputable def Qfe:Ing:={m:=12,ins:=Qvo,G:=Qjx,T:=Qu4,tab:=Qa,lsts:=Qs,kb:=42,kt:=Q2v,mh:=orMh (asMh Tryd.prog 35 78 88 36 34) (Qbr (kdX Qqu) [sf32,sf25,Qhq,sf10,sf17,sf18,sf20,sf11]),ph:=Qbr (kdX Qqu) [Qhr],inv:=Qdr 0 Qd0}
theorem Qqv:okLT 12 Qjx Qu4=true:=by kernel_rfl
theorem Qbez (F:List Fact):Hooks Tryd.prog (cxOf Qfe F) where
 val:=fun f args v h=>by simp only [Qfe,cxOf,Qgf,reduceCtorEq] at h
 mem:=fun f args hp v hp' h=>by
  replace h:(orMh (asMh Tryd.prog 35 78 88 36 34) (Qbr (kdX Qqu) [sf32,sf25,Qhq,sf10,sf17,sf18,sf20,sf11])) (symS (Q5 Qfe F)) f args hp=some (v,hp'):=h;unfold orMh at h;split at h;rename_i x hx;cases h;exact Qyw (X:=Qfe) Qqv as_ok is_ok (fun _ h=>h) F f args hp v hp' hx;exact Qwj (X:=Qfe) (tbl:=[sf32,sf25,Qhq,sf10,sf17,sf18,sf20,sf11]) (inv:=fun _=>True) (fun e he=>by
   simp only [List.mem_cons,List.not_mem_nil,or_false] at he;rcases he with rfl|rfl|rfl|rfl|rfl|rfl|rfl|rfl
   exact c32;exact c25;exact c25p;exact c10;exact c17;exact c18;exact c20;exact c11
   ) Qqv rfl (fun _ _ _ _=>trivial) F f args hp v hp' h
 pan:=fun f args hp v hp' h=>by
  replace h:(Qbr (kdX Qqu) [Qhr]) (symS (Q5 Qfe F)) f args hp=some (v,hp'):=h;exact Qbky (X:=Qfe) (tbl:=[Qhr]) (inv:=fun _=>True) (fun e he=>by
   simp only [List.mem_cons,List.not_mem_nil,or_false] at he;rcases he with rfl
   exact c32p) Qqv rfl (fun _ _ _ _=>trivial) F f args hp v hp' h
 ovl:=fun f k h=>by simp only [Qfe,cxOf,reduceCtorEq] at h
 atm:=fun k b h=>by simp only [Qfe,cxOf,List.not_mem_nil] at h
theorem Qbe0:SegOkI Tryd.prog Qa 67 ((Qe (Qc Tryd.f12)).drop 3) Qq4 Qfe Qbey:=
  ⟨Qqv,by kernel_rfl,Qbez,rfl,by kernel_rfl,by kernel_rfl,rfl,rfl,by kernel_rfl⟩
theorem Qwd (C:ByteArray) (n:Nat):lstE (Lgp.encL (lstE C n)) n=lstE C n:=by
 have:=Qnv (l:=lstE C n) Qbji;rw [Qwb] at this;exact this
theorem Q7i {blk:Nat} {OK:Obj->Prop} {V U:Sig} (hx:U.ext=V.ext) (h:Qdr blk OK V):Qdr blk OK U:=by
 obtain ⟨r,Y,O,h1,h2⟩:=h;exact ⟨r,Y,O,by rw [hx];exact h1,h2⟩
structure J12 (g:Sig) (n N:Nat) (V:Sig):Prop where
 i0:V.i 0=g.i 0
 i2:V.i 2=g.i 2
 i3:V.i 3=g.i 3
 i4:V.i 4=g.i 4
 i5:V.i 5=g.i 5
 i1:V.i 1=n
 i7:V.i 7=N
 s6:V.s 6=g.s 6
 s8:V.s 8=g.s 8
 z:(g.s 8).size<=1000000
 eq:V.s 9=V.s 10
 e:right (lgG g n)=decide (V.i 11=0)
 ge:V.i 11=0\/V.i 11=2
 le:n<=N
 sz:N<=1000000
 xe:V.ext=g.ext
theorem J12.agree {g:Sig} {n N:Nat} {V U:Sig} (ag:Agree 12 V U) (h:J12 g n N V):J12 g n N U:=by
  cases h;constructor<;>first|assumption|(simp (disch:=decide) only [ag.iv,ag.bv,ag.sv,ag.xv];assumption)
def L12:Asg:=[(6,.s 6),(7,.i 7)]
set_option maxHeartbeats 1000000 in
theorem c12:SymFOk Tryd.prog Qa (Qdr 0 Qd0) sf12:=
 Qb5 Tryd.func12 rfl (n:=67) rfl (by decide) (by decide) rfl rfl (by kernel_rfl) (fun g w hg hinv hE hI hpc hH=>by
  have q0:=hpc (.bin .leq (.int .i64 0) (.symi .i64 1)) (by simp [sf12,lgQ]);have q1:=hpc (.bin .leq (.symi .i64 1) (.symi .i64 7)) (by simp [sf12,lgQ]);have q2:=hpc (.bin .leq (.symi .i64 7) (.int .i64 1000000)) (by simp [sf12,lgQ]);have q3:=hpc (.bin .leq (.symi .i64 1) (.int .i64 1000)) (by simp [sf12,lgQ]);have q4:=hpc (.bin .leq (.symi .i64 9) (.int .i64 1000000)) (by simp [sf12,lgQ]);simp only [Qb,den,binS,intA,if_true,Option.some.injEq,AVal.bool.injEq,decide_eq_true_eq] at q0 q1 q2 q3 q4;have g9:g.sig.i 9=((g.sig.s 8).size:Nat):=Qet (hE.at 0 _ rfl rfl);have qz:(g.sig.s 8).size<=1000000:=by omega
  obtain ⟨n,hgn⟩: ∃n:Nat,g.sig.i 1=n:=⟨(g.sig.i 1).toNat,by omega⟩;obtain ⟨N,hgN⟩: ∃N:Nat,g.sig.i 7=N:=⟨(g.sig.i 7).toNat,by omega⟩;have hle:n<=N:=by omega
  have hsz:N<=1000000:=by omega
  rw [show Qe (Qc Tryd.f12)=(Qe (Qc Tryd.f12)).take 3++(Qe (Qc Tryd.f12)).drop 3 from rfl];have hlast:Qf Tryd.prog Qa 67 (Qu g w sf12.pre.length) (bodyPost Tryd.prog Tryd.f12 (MemR Qa sf12 g w)) ((Qe (Qc Tryd.f12)).drop 3) Qq4 12 Qvo (J12 g.sig n N):=by
   refine Qf.lastI mixed Qbe0 ⟨rfl,rfl⟩ (fun V U ag h=>h.agree ag) (fun U h=>Qv) (fun U h=>Q7i h.xe hinv) (fun U e ht hi hj=> ?_) (pin0 (by kernel_rfl));refine Qp ?_;have a1:=hj.i1;have a7:=hj.i7;have qz:=hj.z;have hs8:=hj.s8;have F:Facs U 12 Qjx:=facs e;dsimp only [Qjx,Facs,fac1,facI,facS,facB,oI,oK,oB,oS,nmL,nm,Nat.reduceAdd] at F;obtain ⟨b12,b13,b14,i15,b16,b17,b18,b19,b20,b21,s22,i23,-,-,-,-,-,b29,b30,b31,b32,b33,b34,b35,b36,b37,s38,b39,-⟩:=F;have tr: ∀{P:Prop} {b:Bool} [Decidable P],b=decide P->b=false->P->False:=fun hb hf hp=>by rw [hb,decide_eq_false_iff_not] at hf;exact hf hp
   rw [hs8] at i15;rw [ht] at b18 b20 b21 s22 i23 s38;have e18:U.b 18=right (lgG g.sig n):=by rw [b18,a1,Qj6,hj.s6,hj.i0,hj.i2,hj.i3,hj.i4,hj.i5];rfl
   have e19:U.b 19=decide (U.i 11=0):=by rw [b19,Bool.eq_iff_iff,beq_iff_eq,decide_eq_true_eq]
   rw [lg_ok] at b20;rw [Qvw] at b21;have hr:(par (U.s 8)).isOk=true->U.i 23=((par (U.s 8)).val.es.length:Int)/\(par (U.s 8)).val.es.length<=1000000/\U.s 38=U.s 22:=by
    intro h;obtain ⟨l,hl⟩:=ok_of h;have r:=rd_ok hl;have hv:(par (U.s 8)).val=l:=by rw [hl];rfl
    have hn:=r.n;rw [hs8] at hn;have h23:=i23;rw [(Qvx _).1,hv,Qh] at h23;have e23:U.i 23=(l.es.length:Int):=by omega
    rw [hv];refine ⟨e23,by omega,?_⟩;rw [s38,e23,Qra,s22,lg_es,hv,r.lst]
   have fin:EndZ Qa 67 (Qu g w sf12.pre.length) (bodyPost Tryd.prog Tryd.f12 (MemR Qa sf12 g w)) .ret Qj0 (asgS U ([(0,.symi .u32 0),(1,.symi .i64 1),(2,.symi .i64 2),(3,.symi .u64 3),(4,.symi .u64 4),(5,.symi .i64 5),(6,.syms 6),(7,.symi .i64 7)]++[])):=
    Qb8 (M:=9) (l:=L12) (vs:=[.bool true]) (by kernel_rfl) rfl rfl hH hg rfl rfl rfl (by kernel_rfl) (by kernel_rfl) ⟨congrArg AVal.str hj.s6,congrArg (AVal.int .i64) (hj.i7.trans hgN.symm),trivial⟩ (by decide) (extS hj.xe) (.inl rfl)
   have good: ∀f20:U.b 20=true,((U.b 29=true->((U.b 30=true->((U.b 31=true->((U.b 32=true->((U.b 33=true->((U.b 34=true->((U.b 35=true->((U.b 36=true->((U.b 37=true->((U.b 39=true->EndZ Qa 67 (Qu g w sf12.pre.length) (bodyPost Tryd.prog Tryd.f12 (MemR Qa sf12 g w)) .ret Qj0 (asgS U ([(0,.symi .u32 0),(1,.symi .i64 1),(2,.symi .i64 2),(3,.symi .u64 3),(4,.symi .u64 4),(5,.symi .i64 5),(6,.syms 6),(7,.symi .i64 7)]++[])))/\(U.b 39=false->False)))/\(U.b 37=false->False)))/\(U.b 36=false->False)))/\(U.b 35=false->False)))/\(U.b 34=false->False)))/\(U.b 33=false->False)))/\(U.b 32=false->False)))/\(U.b 31=false->False)))/\(U.b 30=false->False)))/\(U.b 29=false->False)):=by
    intro f20;obtain ⟨e23,l23,e38⟩:=hr (by rw [<-b20];exact f20);exact ⟨fun f29=>⟨fun f30=>⟨fun f31=>⟨fun f32=>⟨fun f33=>⟨fun f34=>⟨fun f35=>⟨fun f36=>⟨fun f37=>⟨fun f39=>fin,fun f=>(by rw [b39,e38] at f;simp at f)⟩,fun f=>(by rw [b37] at f;simp at f)⟩,fun f=>(by rw [b36] at f;simp at f)⟩,fun f=>(by rw [b35] at f;simp at f)⟩,fun f=>(by rw [b34] at f;simp at f)⟩,fun f=>(by rw [b33] at f;simp at f)⟩,fun f=>(by rw [b32] at f;simp at f)⟩,fun f=>tr b31 f (by omega)⟩,fun f=>tr b30 f (by omega)⟩,fun f=>tr b29 f (by omega)⟩
   exact ⟨fun f12=>⟨fun f13=>⟨fun f14=>⟨fun f16=>⟨fun f17=>⟨fun f18=>⟨fun f19=>⟨fun f20=>good f20,fun f20=>⟨fun f21=>fin,fun f=>(by rw [b21,<-Bool.not_eq_true,Bool.not_eq_true',<-b20,f20] at f;exact f rfl)⟩⟩,fun f=>(by rw [e19,<-hj.e,<-e18,f18] at f;cases f)⟩,fun f18=>⟨fun f=>(by rw [e19,<-hj.e,<-e18,f18] at f;cases f),fun f19=>⟨fun f20=>good f20,fun f20=>⟨fun f21=>fin,fun f=>(by rw [b21,<-Bool.not_eq_true,Bool.not_eq_true',<-b20,f20] at f;exact f rfl)⟩⟩⟩⟩,fun f=>(by rw [b17,hj.eq] at f;simp at f)⟩,fun f=>tr b16 f (by omega)⟩,fun f=>tr b14 f (by omega)⟩,fun f=>tr b13 f (by omega)⟩,fun f=>tr b12 f (by omega)⟩
  refine Qf.seg mixed Qbex ⟨rfl,rfl⟩ (fun V U (ag:Agree 9 V U) (h:Agree 9 g.sig V)=>h.trans' ag) (fun U h=>Qv) hlast (fun U e ht hi ag=> ?_) (pin0 (by kernel_rfl));refine Qp ?_;have a:=fun i h=>(ag.val i h).1.symm;have a0:U.i 0=g.sig.i 0:=a 0 (by decide);have a2:U.i 2=g.sig.i 2:=a 2 (by decide);have a3:U.i 3=g.sig.i 3:=a 3 (by decide);have a4:U.i 4=g.sig.i 4:=a 4 (by decide);have a5:U.i 5=g.sig.i 5:=a 5 (by decide);have a1:U.i 1=n:=(a 1 (by decide)).trans hgn;have a7:U.i 7=N:=(a 7 (by decide)).trans hgN;have a6:U.s 6=g.sig.s 6:=(ag.val 6 (by decide)).2.2.symm;have a8:U.s 8=g.sig.s 8:=(ag.val 8 (by decide)).2.2.symm;have F:Facs U 9 Qmp:=facs e;dsimp only [Qmp,Facs,fac1,facI,facS,facB,oI,oK,oB,oS,nmL,nm,Nat.reduceAdd] at F;obtain ⟨b9,b10,b11,b12,b13,b14,s15,b16,b17,b18,b19,s20,s21,b22,-⟩:=F;have s23:U.s 23=bs []:=p9.eqText (e.at 14 _ rfl rfl);have tr: ∀{P:Prop} {b:Bool} [Decidable P],b=decide P->b=false->P->False:=fun hb hf hp=>by rw [hb,decide_eq_false_iff_not] at hf;exact hf hp
  have e16:U.b 16=right (lgG g.sig n):=by rw [b16,ht,a1,Qj6,a6,a0,a2,a3,a4,a5];rfl
  have e15:U.s 15=Lgp.encL (lstE (g.sig.s 6) n):=by rw [s15,ht,a1,Qra,a6]
  have e17:U.b 17=U.b 16:=by rw [e16,b17,ht,a1,Qj6,e15,Qwd,a0,a2,a3,a4,a5];rfl
  have e21:U.s 21=U.s 20:=by rw [s21,s20,ht,a1,Qnr,Qnr,e15,Qwd,a6]
  exact ⟨fun f9=>⟨fun f10=>⟨fun f11=>⟨fun f12=>⟨fun f13=>⟨fun f14=>⟨fun f16=>⟨fun f17=> .inl ⟨rfl,rfl,insK (X:=Qqt) e hi,⟨a0,a2,a3,a4,a5,a1,a7,a6,a8,qz,(show U.s 20=U.s 21 from e21.symm),(by show right (lgG g.sig n)=true;rw [<-e16];exact f16),.inl rfl,hle,hsz,extS ag.ext.symm⟩,tabS ht⟩,fun f=>(by rw [e17,f16] at f;cases f)⟩,fun f16=>⟨fun f=>(by rw [e17,f16] at f;cases f),fun f17=>⟨fun f18=>⟨fun f19=> .inl ⟨rfl,rfl,insK (X:=Qqt) e hi,⟨a0,a2,a3,a4,a5,a1,a7,a6,a8,qz,rfl,(by show right (lgG g.sig n)=false;rw [<-e16];exact f16),.inr rfl,hle,hsz,extS ag.ext.symm⟩,tabS ht⟩,fun f=>(by rw [b19,e17,f16] at f;simp at f)⟩,fun f=>(by rw [b18,f16] at f;simp at f)⟩⟩⟩,fun f=>tr b14 f (by omega)⟩,fun f=>tr b13 f (by omega)⟩,fun f=>tr b12 f (by omega)⟩,fun f=>tr b11 f (by omega)⟩,fun f=>tr b10 f (by omega)⟩,fun f=>tr b9 f (by omega)⟩)
end Go.Proofs.YtelimhjceiamcaaDoor.lg
set_option maxRecDepth 100000
namespace Go.Proofs.YtelimhjceiamcaaDoor.lg
open Go.Ev Go.RowKit Go.Wbp Go.Lgp
open Go.Proofs.YtelimhjceiamcaaDoor.lgn (mixed sf48 Qbu)
open Go.Proofs.YtelimhjceiamcaaDoor.fa
def lgTl:List AVal:=[.w 0,.lsl 0 4 false (.z 0) (.i 1),.i 2,.u 3,.u 4,.i 5]
def lgTt:List AVal:=[.symi .u16 8,.symi .u16 9,.c 10,.symb 11]
def lgK3:List (Option IntKind):=[some .u32,some .i64,some .i64,some .u64,some .u64,some .i64,none,some .i64,some .u16,some .u16,some .u8,none]
def lgS3:Shape:=⟨argT 0 [.agg lgTl,.row 0,.agg lgTt],[.gone]⟩
def lgTo:List AVal:=[.w 14,.lsl 3 4 true (.z 0) (.i 13),.i 15,.u 16,.u 17,.i 18]
def lgTh:List Blk:=[.cells lgTl 26,.cells lgTt 30,.lst (.syms 12) (.symi .i64 13) cl4 61,.cells lgTo 26]
def lgTg:List Blk:=[.cells lgTl 26,.cells lgTt 30,.lst (.syms 12) (.symi .i64 13) cl4 0,.cells lgTo 26]
def lgT3:List (Nat×AVal):=[(3,.ptr 1 0),(5,.ptr 2 0),(7,.ptr 4 0)]
def Qib:Shape:=⟨lgT3,.gone::lgTh⟩
def Qga:List (Option IntKind):=lgK3++[none,some .i64,some .u32,some .i64,some .u64,some .u64,some .i64]
def Qnp:Shape:=⟨lgT3,eL 6 7::lgTh⟩
def Qvv:Shape:=⟨lgT3++[(8,.s 19),(10,.lsl 5 1 false (.z 0) (.i 20))],eL 6 7::(lgTg++[.lst (.s 19) (.i 20) [some .u8] 5])⟩
def Qvn:List (Option IntKind):=Qga++[none,none]
def Qj5:Shape:=⟨lgT3++[(8,.s 19),(10,.lsl 5 1 false (.z 0) (.i 20))],eL 6 7::(lgTg++[.lst (.s 21) (.i 20) [some .u8] 5])⟩
def Qnm:List (Option IntKind):=Qvn++[none]
def lgE3:Shape:=⟨[(6,.bool true),(3,.ptr 1 0)],[eL 6 7,.cells lgTl 26]⟩
def Qna:List SDef:=[.q .leq (.z 0) (.i 13),
 .q .leq (.i 13) (.i 13),
 .q .leq (.i 13) (.z 1000000),
 .q .leq (.i 13) (.z 1000),
 .sop (.fs 704) [.s 12,.i 13],
 .fnb 448 [.w 14,.s 23,.i 13,.i 15,.u 16,.u 17,.i 18],
 .sop (.fs 512) [.w 14,.s 23,.i 13,.i 15,.u 16,.u 17,.i 18],
 .sop .len [.s 25],
 .q .leq (.i 26) (.z 1000000)]
def Q4l:LT:=Go.Wbp.fT 19 Qna (.n (.n (.n (.n .e 47668770 27 .e) 168659433 19 .e) 197116186 24 (.n .e 289307527 22 .e)) 407921747 20 (.n (.n (.n .e 428864135 25 .e) 586681056 23 .e) 882148485 21 (.n .e 953936080 26 .e)))
def Q4m:Sw:=.x 19 (.x 20 (.x 21 (.x 22 (.x 24 (.x 27 (.run (.leaf .normal Qvv [(0,0),(1,0),(2,0),(3,0),(4,0),(7,0)] [(19,.s 25),(20,.i 26),(6,.s 6),(7,.i 7),(0,.w 0),(1,.i 1),(2,.i 2),(3,.u 3),(4,.u 4),(5,.i 5),(8,.symi .u16 8),(9,.symi .u16 9),(10,.c 10),(11,.symb 11),(12,.s 12),(13,.i 13),(14,.w 14),(13,.i 13),(15,.i 15),(16,.u 16),(17,.u 17),(18,.i 18),(19,.s 25),(20,.i 26)] [])))))))
def Qbhm:KdT:=kdN 0x1221410035510122114 5 1 0
noncomputable def Q4n:Ing:={m:=19,ins:=Qga,G:=Qna,T:=Q4l,tab:=Qa,lsts:=Qs,kb:=28,kt:=Qbhm}
noncomputable def Qvi:Ing:={Q4n with mh:=Qbr (kdX Q4n) [sf10,sfE9]}
theorem Q4o:okLT 19 Qna Q4l=true:=by kernel_rfl
theorem Qbhn (F:List Fact):Hooks Tryd.prog (cxOf Qvi F):=
  Qcy (l:=[sf10,sfE9]) rfl rfl rfl rfl rfl Q4o rfl rfl rfl ⟨c10,cE9,trivial⟩ F
theorem Qbho:SegOk Tryd.prog Qa 96 (((Qe (Qc Tryd.f3)).drop 2).take 2) Qnp Qvi Q4m:=
  ⟨Q4o,by kernel_rfl,Qbhn,rfl,by kernel_rfl,by kernel_rfl,rfl,rfl,fun _=>trivial,by kernel_rfl⟩
def Qnb:List SDef:=[.q .gtr (.i 20) (.z 0),
 .conv .i64 (.symi .u16 8),
 .q .rem (.i 22) (.i 20),
 .q .leq (.z 0) (.i 23),
 .q .lss (.i 23) (.i 20),
 .sop (.cell [.some .u8] 0) [.s 19,.i 23],
 .q .xor (.c 26) (.c 10),
 .sop (.upd [.some .u8] 0) [.s 19,.i 23,.c 27],
 .q .sub (.i 20) (.z 1),
 .q .leq (.z 0) (.i 29),
 .q .leq (.i 29) (.i 20),
 .sop .sub [.s 28,.z 0,.i 29],
 .sop .len [.s 32],
 .q .leq (.i 33) (.z 1000000),
 .q .lss (.z 0) (.i 29),
 .fn 384 .u8 [.s 32],
 .q .lss (.i 29) (.i 20),
 .sop (.upd [.some .u8] 0) [.s 28,.i 29,.c 36]]
def Q4p:LT:=Go.Wbp.fT 21 Qnb (.n (.n (.n (.n (.n .e 132434326 37 .e) 132434333 31 .e) 293607539 35 (.n .e 293607546 30 .e)) 380969732 24 (.n (.n (.n .e 457107843 28 .e) 499173969 23 .e) 600174335 25 (.n .e 690864903 27 .e))) 754670891 34 (.n (.n (.n (.n .e 824002804 22 .e) 911826098 26 .e) 926553501 32 (.n .e 946274655 21 .e)) 946324592 29 (.n (.n .e 970951684 36 .e) 1014577664 38 (.n .e 1049237506 33 .e))))
def Qvj:Sw:=.pick 20 0 (.dead) (.node 21 (.node 24 (.node 25 (.node 11 (.node 30 (.node 31 (.node 34 (.node 35 (.node 37 (.run (.leaf .normal Qj5 [(0,0),(1,0),(2,0),(3,0),(4,0),(5,0)] [(19,.s 19),(20,.i 20),(6,.s 6),(7,.i 7),(0,.w 0),(1,.i 1),(2,.i 2),(3,.u 3),(4,.u 4),(5,.i 5),(8,.symi .u16 8),(9,.symi .u16 9),(10,.c 10),(11,.symb 11),(12,.s 12),(13,.i 13),(14,.w 14),(13,.i 13),(15,.i 15),(16,.u 16),(17,.u 17),(18,.i 18),(21,.s 38),(20,.i 20)] [])) (.dead)) (.dead)) (.dead)) (.dead)) (.dead)) (.run (.leaf .normal Qj5 [(0,0),(1,0),(2,0),(3,0),(4,0),(5,0)] [(19,.s 19),(20,.i 20),(6,.s 6),(7,.i 7),(0,.w 0),(1,.i 1),(2,.i 2),(3,.u 3),(4,.u 4),(5,.i 5),(8,.symi .u16 8),(9,.symi .u16 9),(10,.c 10),(11,.symb 11),(12,.s 12),(13,.i 13),(14,.w 14),(13,.i 13),(15,.i 15),(16,.u 16),(17,.u 17),(18,.i 18),(21,.s 28),(20,.i 20)] []))) (.dead)) (.dead)) (.dead))
def Qbhp:KdT:=kdN 0x3000000103300010001221410035510122114 6 1 0
noncomputable def Q4q:Ing:={m:=21,ins:=Qvn,G:=Qnb,T:=Q4p,tab:=Qa,lsts:=Qs,kb:=39,kt:=Qbhp}
noncomputable def Qqz:Ing:={Q4q with mh:=Qbr (kdX Q4q) [sf11]}
theorem Q4r:okLT 21 Qnb Q4p=true:=by kernel_rfl
theorem Qbhq (F:List Fact):Hooks Tryd.prog (cxOf Qqz F):=
  Qcy (l:=[sf11]) rfl rfl rfl rfl rfl Q4r rfl rfl rfl ⟨c11,trivial⟩ F
theorem Qbhr:SegOk Tryd.prog Qa 96 (((Qe (Qc Tryd.f3)).drop 4).take 2) Qvv Qqz Qvj:=
  ⟨Q4r,by kernel_rfl,Qbhq,rfl,by kernel_rfl,by kernel_rfl,rfl,rfl,fun _=>trivial,by kernel_rfl⟩
abbrev WZ3 (W:World):Exit->Act->World->Prop:=bodyPost Tryd.prog Tryd.f3 fun e W'=>e=.returned (.bool true)/\Below W.heap.size W W'
structure J3t (E:Nat->Option Fz) (n:Nat) (L:Lg) (V:Sig):Prop where
 n0:V.i 1=(n:Int)
 n7:V.i 7=min (n:Int) 60
 s12:V.s 12=Lgp.encL L.es
 v13:V.i 13=L.es.length
 v14:V.i 14=L.img
 v15:V.i 15=L.cyc
 v16:V.i 16=L.ret
 v17:V.i 17=L.br
 v18:V.i 18=L.out
 ok:LgOk L
 xe:V.ext=E
theorem J3t.agree {E:Nat->Option Fz} {n:Nat} {L:Lg} {V U:Sig} (ag:Agree 19 V U) (h:J3t E n L V):J3t E n L U:=by
  cases h;constructor<;>first|assumption|(simp (disch:=decide) only [ag.iv,ag.bv,ag.sv,ag.xv];assumption)
structure J3b (E:Nat->Option Fz) (n:Nat) (V:Sig):Prop where
 n0:V.i 1=(n:Int)
 n7:V.i 7=min (n:Int) 60
 m0:0<=V.i 13
 m1:V.i 13<=60
 z:(V.s 19).size<=1300
 z1:7<=(V.s 19).size
 i20:V.i 20=(V.s 19).size
 xe:V.ext=E
theorem J3b.agree {E:Nat->Option Fz} {n:Nat} {V U:Sig} (ag:Agree 21 V U) (h:J3b E n V):J3b E n U:=by
  cases h;constructor<;>first|assumption|(simp (disch:=decide) only [ag.iv,ag.bv,ag.sv,ag.xv];assumption)
structure J3c (E:Nat->Option Fz) (n:Nat) (V:Sig):Prop where
 n0:V.i 1=(n:Int)
 n7:V.i 7=min (n:Int) 60
 m0:0<=V.i 13
 m1:V.i 13<=60
 z:(V.s 19).size<=1300
 z1:7<=(V.s 19).size
 i20:V.i 20=(V.s 19).size
 xe:V.ext=E
 zt:(V.s 21).size<=1300
theorem J3c.agree {E:Nat->Option Fz} {n:Nat} {V U:Sig} (ag:Agree 22 V U) (h:J3c E n V):J3c E n U:=by
  cases h;constructor<;>first|assumption|(simp (disch:=decide) only [ag.iv,ag.bv,ag.sv,ag.xv];assumption)
theorem Q9l {V:Sig} {i a m:Nat} {k:IntKind} {v:AVal} {x:Int} (h:Qb V (.sop (.upd [some .u8] 0) [.syms a,.symi .i64 m,v])=some (den V (.syms i))) (hv:den V v=.int k x) (h0:0<=V.i m) (h1:V.i m<(V.s a).size):(V.s i).size=(V.s a).size:=by
 have e:V.s i=⟨(updR [some .u8] (V.s a).data.toList (V.i m).toNat [.int k x]).toArray⟩:=by
  simp only [Qb,List.map,hv] at h;simp only [den,sopA,Option.some.injEq,AVal.str.injEq] at h;exact h.symm
 have hz:(V.s a).data.toList.length=(V.s a).size:=rfl;have hl: ∀n:Nat,(beB 1 n).length=1:=fun n=>by rw [Qo5]
 rw [e];show (updR [some .u8] (V.s a).data.toList (V.i m).toNat [.int k x]).toArray.size=_;simp only [updR,rowB,encK,csz,rsz,List.append_nil,List.size_toArray,List.length_append,List.length_take,List.length_drop,hl,hz];omega
theorem st3C {F:Fra} {Z:Exit->Act->World->Prop} {E:Nat->Option Fz} {n:Nat} (hpC: ∀i,F.pin i≠none->pinW i Qvj=true) (hD:Qf Tryd.prog Qa 96 F Z ((Qe (Qc Tryd.f3)).drop 6) Qj5 22 Qnm (J3c E n)):Qf Tryd.prog Qa 96 F Z ((Qe (Qc Tryd.f3)).drop 4) Qvv 21 Qvn (J3b E n):=by
 rw [show (Qe (Qc Tryd.f3)).drop 4=((Qe (Qc Tryd.f3)).drop 4).take 2++(Qe (Qc Tryd.f3)).drop 6 from rfl];refine Qf.seg mixed Qbhr ⟨rfl,rfl⟩ (fun V U ag h=>h.agree ag) (fun U h=>Qv) hD (fun U e ht hi hj=> ?_) hpC;refine Qp ?_;have w8:=hi 8 .u16 (by decide) rfl;rw [Qov] at w8;have hz:=hj.z;have hz1:=hj.z1;have h20:=hj.i20;have F:Facs U 21 Qnb:=facs e;dsimp only [Qnb,Facs,fac1,facI,facS,facB,oI,oK,oB,oS,nmL,nm,Nat.reduceAdd] at F;obtain ⟨b21,i22,-,b24,b25,-,-,-,i29,b30,b31,s32,i33,b34,b35,-,b37,-⟩:=F;have n20:U.i 20≠0:=by omega
 have i23:U.i 23=(U.i 22).tmod (U.i 20):=eqI (e 2 _ rfl (fun j hj=>by cases hj;exact n20)) (by simp only [Qb,den,binS,intA,if_true,if_neg n20]);have tr: ∀{P:Prop} {b:Bool} [Decidable P],b=decide P->b=false->P->False:=fun hb hf hp=>by rw [hb,decide_eq_false_iff_not] at hf;exact hf hp
 rw [Qh] at i22 i29;have e22:U.i 22=U.i 8:=by omega
 have e29:U.i 29=U.i 20-1:=by omega
 have h23:0<=U.i 23/\U.i 23<U.i 20:=by
  rw [i23,Qb1 _ (by omega)];exact ⟨Int.emod_nonneg _ n20,Int.emod_lt_of_pos _ (by omega)⟩
 have z28:(U.s 28).size=(U.s 19).size:=Q9l (m:=23) (v:=.symi .u8 27) (e.at 7 _ rfl rfl) rfl h23.1 (by omega);have z38:(U.s 38).size=(U.s 28).size:=Q9l (m:=29) (v:=.symi .u8 36) (e.at 17 _ rfl rfl) rfl (by omega) (by rw [z28];omega);have z32:(U.s 32).size<=1300:=by
  rw [s32,ByteArray.size_extract];omega
 exact ⟨fun f=>n20 f,fun _=>⟨fun f21=>⟨fun f24=>⟨fun f25=>⟨fun f11=>⟨fun f30=>⟨fun f31=>⟨fun f34=>⟨fun f35=>⟨fun f37=> .inl ⟨rfl,rfl,insK (X:=Qqz) e hi,⟨hj.n0,hj.n7,hj.m0,hj.m1,hj.z,hj.z1,hj.i20,extS hj.xe,(by show (U.s 38).size<=1300;omega)⟩,tabS ht⟩,fun f=>tr b37 f (by omega)⟩,fun f=>tr b35 f (by omega)⟩,fun f=>tr b34 f (by omega)⟩,fun f=>tr b31 f (by omega)⟩,fun f=>tr b30 f (by omega)⟩,fun f11=> .inl ⟨rfl,rfl,insK (X:=Qqz) e hi,⟨hj.n0,hj.n7,hj.m0,hj.m1,hj.z,hj.z1,hj.i20,extS hj.xe,(by show (U.s 28).size<=1300;omega)⟩,tabS ht⟩⟩,fun f=>tr b25 f (by omega)⟩,fun f=>tr b24 f (by omega)⟩,fun f=>tr b21 f (by omega)⟩⟩
theorem st3B {F:Fra} {Z:Exit->Act->World->Prop} {E:Nat->Option Fz} {n:Nat} (hpB: ∀i,F.pin i≠none->pinW i Q4m=true) (hpC: ∀i,F.pin i≠none->pinW i Qvj=true) (hD:Qf Tryd.prog Qa 96 F Z ((Qe (Qc Tryd.f3)).drop 6) Qj5 22 Qnm (J3c E n)):Qf Tryd.prog Qa 96 F Z ((Qe (Qc Tryd.f3)).drop 2) Qnp 19 Qga (fun V=> ∃L,J3t E n L V):=by
 rw [show (Qe (Qc Tryd.f3)).drop 2=((Qe (Qc Tryd.f3)).drop 2).take 2++(Qe (Qc Tryd.f3)).drop 4 from rfl];refine Qf.seg mixed Qbho ⟨rfl,rfl⟩ (fun V U ag ⟨L,h⟩=>⟨L,h.agree ag⟩) (fun U h=>Qv) (st3C hpC hD) (fun U e ht hi hj=> ?_) hpB;obtain ⟨L,hj⟩:=hj;refine Qp ?_;have F:Facs U 19 Qna:=facs e;dsimp only [Qna,Facs,fac1,facI,facS,facB,oI,oK,oB,oS,nmL,nm,Nat.reduceAdd] at F;obtain ⟨b19,b20,b21,b22,s23,b24,s25,i26,b27,-⟩:=F;have tr: ∀{P:Prop} {b:Bool} [Decidable P],b=decide P->b=false->P->False:=fun hb hf hp=>by rw [hb,decide_eq_false_iff_not] at hf;exact hf hp
 have hz:=hj.ok.size;have h7:=Qbk6 L 0;have hm:=Qbj1 L 0;have hl:=hj.ok.len;have v13:=hj.v13;rw [ht] at s23 b24 s25;have e23:lstE (U.s 23) L.es.length=L.es:=by rw [s23,v13,Qra,Qwd,hj.s12];exact Qnv hj.ok.val
 have hL:(⟨U.i 14,lstE (U.s 23) L.es.length,U.i 15,U.i 16,U.i 17,U.i 18⟩:Lg)=L:=by
  rw [e23,hj.v14,hj.v15,hj.v16,hj.v17,hj.v18]
 have e24:U.b 24=true:=by rw [b24,v13,Qj6,hL];exact hj.ok.rt
 have e25:U.s 25=bs (encG L):=by rw [s25,v13,Qnr,hL]
 rw [e25] at i26;have i26:U.i 26=((bs (encG L)).size:Nat):=i26;exact ⟨fun _=>⟨fun _=>⟨fun _=>⟨fun _=>⟨fun _=>⟨fun _=> .inl ⟨rfl,rfl,insK (X:=Qvi) e hi,⟨hj.n0,hj.n7,(by show 0<=U.i 13;omega),(by show U.i 13<=60;omega),(by show (U.s 25).size<=1300;rw [e25];exact hz),(by show 7<=(U.s 25).size;rw [e25];omega),(by show U.i 26=(U.s 25).size;rw [e25];exact i26),extS hj.xe⟩,tabS ht⟩,fun f=>tr b27 f (by omega)⟩,fun f=>(by rw [e24] at f;cases f)⟩,fun f=>tr b22 f (by omega)⟩,fun f=>tr b21 f (by omega)⟩,fun f=>tr b20 f (by omega)⟩,fun f=>tr b19 f (by omega)⟩
end Go.Proofs.YtelimhjceiamcaaDoor.lg
namespace Go.Proofs.YtelimhjceiamcaaDoor.lg
open Go.Ev Go.RowKit Go.Wbp Go.Lgp Go.Proofs.YtelimhjceiamcaaDoor.fa
open Go.Proofs.YtelimhjceiamcaaDoor.lgn (mixed)
def SlcV (W:World) (z:Nat) (v:Value):Prop:=
 ∃(a:Option Addr) (len cap:Nat),v=.slice a len cap/\cap<=9223372036854775807/\(0<len-> ∃(ad:Addr) (C:Array Value) (e:TypeId) (fr:Nat×Nat),a=some ad/\ad.spot=none/\W.heap[ad.block]? =some (.cells C e fr)/\ad.off+cap*z<=C.size)
theorem Qbkr {H:Type} {enc:TypeId×Value->H} {P:Program} {W:World} {t e:TypeId} {v:Value} {d:DataW H} {ps:List MemPlace} {r:Reach} {b0 z:Nat} (ht:P.underlying t=some (.slice e)) (hz:P.cellsOf e=z) (hpos:0<z)
  (hv:Value.okWide P W r b0 t v) (hd:DataW.Trod enc P W 0 (fun _=>true) true t v d ps):SlcV W z v:=by
 obtain ⟨a0,len,cap,rfl⟩:=Go.WideShapes.okWide_slice ht hv;obtain ⟨fuel,hd⟩:=hd;have hcs:(Value.slice a0 len cap).cells.toList=[.slice a0 len cap]:=rfl;rw [hcs] at hd;rcases DataW.trod_slice ht hd with ⟨h1,h2⟩|⟨a,len',cap',elems,rest,m,rfl,h1,h2,_,hlc,hcm,hel,hall,hsp,_⟩;simp only [List.cons.injEq,Value.slice.injEq,and_true] at h1;obtain ⟨rfl,rfl,rfl⟩:=h1;exact ⟨none,0,0,rfl,by decide,fun h=>absurd h (Nat.lt_irrefl 0)⟩;simp only [List.cons.injEq,Value.slice.injEq,and_true] at h1;obtain ⟨rfl,rfl,rfl⟩:=h1;obtain ⟨hrl,hrest⟩:=hsp rfl;refine ⟨some a,len,cap,rfl,by unfold maxLen at hcm;omega,fun hl=> ?_⟩;have: ∃cs,W.cells? 0 (a.add ((cap-1)*P.cellsOf e)) (P.cellsOf e)=some cs:=by
  by_cases hk:cap-1<len;have h3:=hall (cap-1) hk;rw [List.getElem?_eq_getElem (by omega)] at h3;obtain ⟨cs,h4,_⟩:=Option.bind_eq_some_iff.1 h3;exact ⟨cs,h4⟩;have h3:=hrest (cap-1-len) (by omega);rw [List.getElem?_eq_getElem (by omega),show len+(cap-1-len)=cap-1 by omega] at h3;obtain ⟨cs,h4,_⟩:=Option.bind_eq_some_iff.1 h3;exact ⟨cs,h4⟩
 obtain ⟨cs,h4⟩:=this;obtain ⟨_,hlen,h5⟩:=World.cells?_some h4;have h6:=h5 (z-1) (by omega);rw [List.getElem?_eq_getElem (by omega),Qyl] at h6;unfold World.cell? at h6;split at h6;rename_i C e' fr hheap;rw [Qoz] at hheap;have hsp0:a.spot=none:=by
  cases hs:a.spot with
  |none=>rfl
  |some x=>
   have hh:(a.add ((cap-1)*P.cellsOf e+(z-1))).spot=some x\/(a.add ((cap-1)*P.cellsOf e+(z-1))).spot=none:=by
    unfold Addr.add;split;exact .inl hs;exact .inr rfl
   have h3:=hall 0 hl;rw [List.getElem?_eq_getElem (by omega),Nat.zero_mul] at h3;obtain ⟨cs0,k4,_⟩:=Option.bind_eq_some_iff.1 h3;obtain ⟨_,klen,k5⟩:=World.cells?_some k4;have k6:=k5 0 (by omega);have hadd:(a.add 0).add 0=a:=by simp [Addr.add]
   rw [hadd,List.getElem?_eq_getElem (by omega)] at k6;unfold World.cell? at k6;rw [hheap,hs] at k6;simp at k6
 refine ⟨a,C,e',fr,rfl,hsp0,hheap,?_⟩;have hoff:(a.add ((cap-1)*P.cellsOf e+(z-1))).off=a.off+((cap-1)*P.cellsOf e+(z-1)):=by
  unfold Addr.add;split;rename_i h0;rw [h0];rfl;rfl
 have hspot:(a.add ((cap-1)*P.cellsOf e+(z-1))).spot=none:=by unfold Addr.add;split;exact hsp0;rfl
 rw [hspot,hoff] at h6;simp at h6;have h7:C[a.off+((cap-1)*P.cellsOf e+(z-1))]?≠none:=by
  intro h8;simp [h8] at h6
 have h8:a.off+((cap-1)*P.cellsOf e+(z-1))<C.size:=by
  rcases Nat.lt_or_ge (a.off+((cap-1)*P.cellsOf e+(z-1))) C.size with h|h;exact h;exact absurd (Array.getElem?_eq_none h) h7
 have hc1:1<=cap:=by omega
 have hm:cap*z=(cap-1)*z+z:=by
  rw [<-Nat.succ_mul];congr 1;omega
 rw [hz] at h8;omega;cases h6
abbrev e4:List Cl:=[.i .u64,.i .u64,.i .i64,.i .u8]
def conE (X:Fz):Nat->ByteArray
 |0=> .empty
 |n+1=>conE X n++⟨(rowB cl4 [X.val n 0,X.val n 1,X.val n 2,X.val n 3]).toArray⟩
theorem elE {W:World} {v:Value} {X:Fz} (hX:RowV W e4 v X) {m:Nat} (hm:m<X.len): ∃a b c d:Int,X.val m 0=.int .u64 a/\X.val m 1=.int .u64 b/\X.val m 2=.int .i64 c/\X.val m 3=.int .u8 d/\IntKind.u64.wrap a=a/\IntKind.u64.wrap b=b/\IntKind.i64.wrap c=c/\IntKind.u8.wrap d=d:=by
 obtain ⟨a,a1,a2⟩:=Qe7 (hX.els m hm) (j:=0) (z:=.i .u64) rfl;obtain ⟨b,b1,b2⟩:=Qe7 (hX.els m hm) (j:=1) (z:=.i .u64) rfl;obtain ⟨c,c1,c2⟩:=Qe7 (hX.els m hm) (j:=2) (z:=.i .i64) rfl;obtain ⟨d,d1,d2⟩:=Qe7 (hX.els m hm) (j:=3) (z:=.i .u8) rfl;exact ⟨a,b,c,d,a2,b2,c2,d2,a1,b1,c1,d1⟩
theorem Qzo {W:World} {v:Value} {X:Fz} (hX:RowV W e4 v X) {m:Nat} (hm:m<X.len):okCs (cx0 (fun _ _=>0)) cl4 [X.val m 0,X.val m 1,X.val m 2,X.val m 3]=true/\ ∀j,j<4-> ∃a,[X.val m 0,X.val m 1,X.val m 2,X.val m 3][j]? =some a/\a=X.val m j/\den sg0 a=a:=by
 obtain ⟨a,b,c,d,q1,q2,q3,q4,h1,h2,h3,h4⟩:=elE hX hm;refine ⟨by rw [q1,q2,q3,q4];simp [okCs,okC,cl4,h1,h2,h3,h4],fun j hj=> ?_⟩
 match j,hj with
 |0,_=>exact ⟨_,rfl,rfl,by rw [q1];rfl⟩
 |1,_=>exact ⟨_,rfl,rfl,by rw [q2];rfl⟩
 |2,_=>exact ⟨_,rfl,rfl,by rw [q3];rfl⟩
 |3,_=>exact ⟨_,rfl,rfl,by rw [q4];rfl⟩
theorem Qzn {W:World} {v:Value} {X:Fz} (hX:RowV W e4 v X) {m:Nat} (hm:m<X.len):[X.val m 0,X.val m 1,X.val m 2,X.val m 3].map (den sg0)=[X.val m 0,X.val m 1,X.val m 2,X.val m 3]:=by
 obtain ⟨a,b,c,d,q1,q2,q3,q4,_⟩:=elE hX hm;rw [q1,q2,q3,q4];rfl
theorem Qpd {W:World} {v:Value} {X:Fz} (hX:RowV W e4 v X): ∀n,n<=X.len->(conE X n).data.toList.length=n*25
 |0,_=>rfl
 |n+1,h=>by
  have e:(conE X (n+1)).data.toList=(conE X n).data.toList++rowB cl4 [X.val n 0,X.val n 1,X.val n 2,X.val n 3]:=by simp [conE,ByteArray.data_append]
  have hl:(rowB cl4 [X.val n 0,X.val n 1,X.val n 2,X.val n 3]).length=25:=by
   have:=Qkt (V:=sg0) (Qzo hX (show n<X.len by omega)).1;rw [Qzn hX (by omega)] at this;exact this
  rw [e,List.length_append,Qpd hX n (by omega),hl];omega
theorem Qzm {W:World} {v:Value} {X:Fz} (hX:RowV W e4 v X): ∀n,n<=X.len-> ∀m j,m<n->j<4->X.val m j=Qm cl4 (conE X n) m j
 |0,_,m,j,hm,_=>absurd hm (Nat.not_lt_zero m)
 |n+1,h,m,j,hm,hj=>by
  rw [conE,Qhm (N:=n) (by rw [rsz4];exact Qpd hX n (by omega))];by_cases e:m<n;rw [if_pos e];exact Qzm hX n (by omega) m j e hj;have:m=n:=by omega
  subst this;rw [if_neg e,Nat.sub_self];have hm':m<X.len:=by omega
  obtain ⟨r1,r2⟩:=Qzo hX hm';obtain ⟨a,ha,e1,e2⟩:=r2 j hj;have key:=Qi7 (ng:=cx0 (fun _ _=>0)) (V:=sg0) (Qe5 rfl) [] r1 j a ha;rw [List.append_nil,Qzn hX hm',e2,e1] at key;unfold Qm;rw [Nat.zero_mul,List.drop_zero];exact key.symm
def rowO (W:World) (X:Fz):Fz:={X with obj:=W.heap[X.blk]?}
def mkX (W:World) (X:Fz):Fz:=⟨X.blk,X.off,4,0,fun _ _=> .nilptr,W.heap[X.blk]?⟩
def ext3 (W:World) (X Y:Fz) (O:Obj):Nat->Option Fz:=fun i=>if i=0 then some Y else if i=2 then some (Qee O) else if 0<X.len then (if i=1 then some (rowO W X) else if i=1000 then some (mkX W X) else none) else none
def extN (W:World) (X:Fz) (O:Obj):Nat->Option Fz:=fun i=>if i=2 then some (Qee O) else if 0<X.len/\i=1000 then some (mkX W X) else none
def locR (W:World) (X:Fz):Ev.Loc:=⟨X.blk,X.off,match W.heap[X.blk]? with|some (.cells C _ _)=>C.size-X.off|_=>0⟩
def fra3 (W:World) (X:Fz):Fra where
 w:=W
 own:=fun b=>W.heap.size<=b\/(0<X.len/\b=X.blk)
 new:=fun _ h=> .inl h
 pin:=fun i=>if i=0 then some (if 0<X.len then some (locR W X) else none) else none
theorem pin3 {W:World} {X:Fz} {Wt:Sw} (h:pinW 0 Wt=true): ∀i,(fra3 W X).pin i≠none->pinW i Wt=true:=fun i hi=>by
 match i,hi with
 |0,_=>exact h
 |i+1,hi=>exact absurd rfl hi
theorem Qblv {W:World} {v:Value} {X:Fz} (hX:RowV W e4 v X) (hl:0<X.len):FzOk (rowO W X) W:=by
 obtain ⟨C,e,fr,h1,h2,h3⟩:=hX.ok hl;exact ⟨C,e,fr,h1,h2,fun o ho=>ho⟩
theorem Qbcn {W:World} {X Y:Fz} {O:Obj}: ∀Z,ext3 W X Y O 0=some Z->Z=Y:=fun Z h=>(Option.some.inj (show some Y=some Z from h)).symm
theorem Qbco {W:World} {X:Fz} {O:Obj} (hO:Qd0 O) {V:Sig} (h:V.ext=extN W X O):Qdr 0 Qd0 V:=Q7j (r:=2) hO (by rw [h];rfl)
theorem Qblg {W:World} {v:Value} {X:Fz} (hX:RowV W e4 v X) (hs:SlcV W 4 v) {g:Inj} {n:Nat} (hg:0<X.len->g 0=some (locR W X)) (hn:g.sig.i n=X.len):VRel g (.lsl 0 4 false (.int .i64 0) (.symi .i64 n)) v:=by
 have hr:=hX.rel ⟨fun _=>none,⟨fun _=>0,fun _=>false,fun _=> .empty,fun _ _=>0,fun i=>if i=0 then some X else none⟩,fun _=>none⟩ 0 rfl;obtain ⟨a,len,cap,rfl,hcm,hcap⟩:=hs;cases hr with
 |row _ Y ao cap' k1 k2 k3=>
  have k1:some X=some Y:=k1;cases k1;refine .lsl 0 4 false _ _ 0 X.len cap _ rfl (by simp only [den,hn]) ⟨k2,hcm⟩ (fun h=>by cases h) (fun hp=> ?_);obtain ⟨ad,C,e,fr,h1,h2,h3,h4⟩:=hcap hp;have k3:=k3 hp;rw [h1] at k3;have had:ad=⟨X.blk,X.off,none⟩:=by cases k3;rfl
  subst had;refine ⟨locR W X,hg hp,by rw [h1];simp [locR],?_⟩;have h3:W.heap[X.blk]? =some (.cells C e fr):=h3;have e1:(locR W X).n=C.size-X.off:=by simp only [locR,h3]
  rw [e1];have h4:X.off+cap*4<=C.size:=h4;omega
theorem Ql1 {W:World} {X Z:Fz} {O:Obj} {i:Nat} (h:extN W X O i=some Z):(i=2/\Z=Qee O)\/(0<X.len/\i=1000/\Z=mkX W X):=by
 unfold extN at h;split at h;rename_i hc;cases h;exact .inl ⟨hc,rfl⟩;split at h;rename_i hc;cases h;exact .inr ⟨hc.1,hc.2,rfl⟩;cases h
theorem Qpa {cl:List (Option IntKind)} (C:ByteArray) (m:Nat) {i:Nat} {k:IntKind} (hk:cl[i]? =some (some k)): ∃x,Qm cl C m i=.int k x:=by
 rcases Qgw cl i (C.data.toList.drop (m*rsz cl)) with ⟨k',n,h1,h2⟩|⟨h1,_⟩;rw [hk] at h1;cases h1;exact ⟨n,h2⟩;exact absurd hk (h1 k)
theorem Qba6 (C:ByteArray) (m:Nat) {i:Nat} (hi:i<4): ∃k x,Qm cl4 C m i=.int k x:=by
 match i,hi with
 |0,_=>exact ⟨_,Qpa C m rfl⟩
 |1,_=>exact ⟨_,Qpa C m rfl⟩
 |2,_=>exact ⟨_,Qpa C m rfl⟩
 |3,_=>exact ⟨_,Qpa C m rfl⟩
theorem at3 {W:World} {v0 v1 u0 u2:Value} {X Y:Fz} {O:Obj} (hX:RowV W e4 v0 X) (hY:RowV W d4 v1 Y) (hO:FzOk (Qee O) W) {V0:Sig} (ht:V0.tab=Qa) (hx:V0.ext=ext3 W X Y O)
  (h0: ∀g:Inj,g.sig=V0->(0<X.len->g 0=some (locR W X))->VRel g (.agg lgTl) u0) (h2:VRel ⟨fun _=>none,V0,fun _=>none⟩ (.agg lgTt) u2):
  At Qa lgS3 96 V0 (fra3 W X) {tmps:= #[u0,v1,u2]++Array.replicate (96-3) undef,defers:=[]} W:=by
 let g0:Inj:=⟨fun i=>if i=0/\0<X.len then some (locR W X) else none,V0,fun _=>none⟩
 have hg0: ∀i L,g0 i=some L->i=0/\0<X.len/\L=locR W X:=by
  intro i L h;have h:(if i=0/\0<X.len then some (locR W X) else none)=some L:=h;split at h;rename_i hc;cases h;exact ⟨hc.1,hc.2,rfl⟩;cases h
 have hlt:0<X.len->X.blk<W.heap.size:=fun hl=>(hX.ok hl).lt;have notlive: ∀i,¬Live lgS3.heap i:=by
  rintro i ⟨k,hk,hne⟩
  match i,hk with
  |0,hk=>cases hk;exact hne rfl
  |i+1,hk=>cases hk
 have hext: ∀i Z,g0.sig.ext i=some Z->(i=0/\Z=Y)\/(i=2/\Z=Qee O)\/(0<X.len/\((i=1/\Z=rowO W X)\/(i=1000/\Z=mkX W X))):=by
  intro i Z hi;have hi:V0.ext i=some Z:=hi;rw [hx] at hi;unfold ext3 at hi;split at hi;cases hi;exact .inl ⟨‹_›,rfl⟩;split at hi;cases hi;exact .inr (.inl ⟨‹_›,rfl⟩);split at hi;rename_i hl;split at hi;cases hi;exact .inr (.inr ⟨hl,.inl ⟨‹_›,rfl⟩⟩);split at hi;cases hi;exact .inr (.inr ⟨hl,.inr ⟨‹_›,rfl⟩⟩);cases hi;cases hi
 refine ⟨⟨g0,rfl,⟨fun i L hi=> ?_,fun i j L M hi hj _ _ _=> ?_,fun i k hi hk=> ?_,fun i hi=>absurd hi (Nat.not_lt_zero i),Qe5 ht,⟨fun i Z hi hl=>⟨?_,fun j L hj lj=>absurd lj (notlive j)⟩,(fun i Z hi=>by cases hi),fun i Z h0 hi=> ?_⟩⟩,?_,fun i L hi=> ?_,fun i x hi=> ?_⟩,BelowF.refl (fra3 W X),by simp,rfl⟩;obtain ⟨rfl,hl,rfl⟩:=hg0 i L hi;exact ⟨by decide,hlt hl⟩;rw [(hg0 i L hi).1,(hg0 j M hj).1]
 ·match i,hi with
  |0,hi=>cases hi;exact absurd rfl hk
  |i+1,hi=>cases hi
 rcases hext i Z hi with ⟨_,rfl⟩|⟨_,rfl⟩|⟨h9,⟨_,rfl⟩|⟨_,rfl⟩⟩;exact hY.ok hl;exact hO;exact Qblv hX h9;exact absurd hl (Nat.lt_irrefl 0);rcases hext i Z hi with ⟨rfl,_⟩|⟨rfl,_⟩|⟨h9,⟨rfl,_⟩|⟨rfl,rfl⟩⟩;omega;omega;omega;exact hlt h9;intro p hp;have hu':VRel g0 (.agg lgTt) u2:=VRel.mono (g:=⟨fun _=>none,V0,fun _=>none⟩) (g':=g0) ⟨fun i L h=>(by cases h),rfl,fun i X h=>(by cases h)⟩ h2;have hat: ∀(i:Nat) (v:Value),#[u0,v1,u2][i]? =some v->(#[u0,v1,u2]++Array.replicate (96-3) undef)[i]? =some v:=fun i v h=>by
  rw [Array.getElem?_append_left (Array.getElem?_eq_some_iff.1 h).1];exact h
 simp only [lgS3,argT,List.mem_cons,List.not_mem_nil,or_false] at hp;rcases hp with rfl|rfl|rfl
 exact ⟨u0,hat 0 u0 rfl,h0 g0 rfl (fun hl=>if_pos ⟨rfl,hl⟩)⟩;exact ⟨v1,hat 1 v1 rfl,hY.rel g0 0 (by show V0.ext 0=_;rw [hx];rfl)⟩;exact ⟨u2,hat 2 u2 rfl,hu'⟩;obtain ⟨rfl,hl,rfl⟩:=hg0 i L hi;exact .inr ⟨hl,rfl⟩;have hi:(if i=0 then some (if 0<X.len then some (locR W X) else none) else none)=some x:=hi;split at hi;rename_i h0;subst h0;cases hi;refine ⟨by decide,?_⟩;show (if 0=0/\0<X.len then some (locR W X) else none)=_;by_cases hl:0<X.len;rw [if_pos ⟨rfl,hl⟩,if_pos hl];rw [if_neg (fun h=>hl h.2),if_neg hl];cases hi
def Qyd (V:Sig) (C:ByteArray) (N:Nat) (E:Nat->Option Fz):Sig:={V with s:=fun i=>if i=6 then C else V.s i,i:=fun i=>if i=7 then N else V.i i,ext:=E}
theorem Qboa {W:World} {v0:Value} {X Y:Fz} {O:Obj} (hX:RowV W e4 v0 X) (hb0:0<X.len->X.blk≠0) {Z:Exit->Act->World->Prop} {c:List Code} {J1 J2:Sig->Prop} {N:Nat} (hN:N<=X.len) (hN0:0<X.len->0<N)
  (h1: ∀V,J1 V->V.ext=ext3 W X Y O)
  (h2: ∀V,J1 V->J2 (Qyd V (conE X N) N (extN W X O)))
  (hi2: ∀V,J1 V->Qx V 19 Qga->Qx (Qyd V (conE X N) N (extN W X O)) 19 Qga)
  (h:Qf Tryd.prog Qa 96 (fra3 W X) Z c Qnp 19 Qga J2):Qf Tryd.prog Qa 96 (fra3 W X) Z c Qib 19 Qga J1:=by
 intro a w V hA hi hj ht;have hxe:=h1 V hj;refine h a w _ ?_ (hi2 V hj hi) (h2 V hj) ht;obtain ⟨⟨g,rfl,hH,hT,hO,hP⟩,hb,hs,hd⟩:=hA
 let V':Sig:=Qyd g.sig (conE X N) N (extN W X O)
 let g':Inj:=⟨g.loc,V',fun _=>none⟩
 have hp0:=hP 0 _ rfl;have hraw:0<X.len->g 0=some (locR W X):=fun hl=>by rw [hp0.2,if_pos hl]
 have hfz:0<X.len->FzOk (rowO W X) w/\ ∀j L,g j=some L->Live Qib.heap j->L.blk≠X.blk:=fun hl=>hH.frz.row 1 (rowO W X) (by rw [hxe];unfold ext3;rw [if_neg (by decide),if_neg (by decide),if_pos hl,if_pos rfl]) hl;have hfe:FzOk (Qee O) w/\ ∀j L,g j=some L->Live Qib.heap j->L.blk≠0:=hH.frz.row 2 (Qee O) (by rw [hxe];rfl) Nat.one_pos;have hobj:0<X.len->w.heap[X.blk]? =W.heap[X.blk]?:=fun hl=>by
  obtain ⟨C,e,fr,k1,k2,k3⟩:=hX.ok hl;obtain ⟨C',e',fr',q1,q2,q3⟩:=(hfz hl).1;exact (q3 _ k1).trans k1.symm
 have e0:N=0->(conE X N).data.toList.length=0:=fun h=>by rw [Qpd hX N hN,h]
 have live1: ∀j,j≠0->Live Qnp.heap j->Live Qib.heap j:=by
  rintro j hj0 ⟨k,hk,hne⟩
  match j,hk with
  |0,_=>exact absurd rfl hj0
  |j+1,hk=>exact ⟨k,hk,hne⟩
 have g00: ∀L,g' 0=some L->0<X.len/\L=locR W X:=fun L hi'=>by
  have hi9:g 0=some L:=hi';rcases Nat.eq_zero_or_pos X.len with h0|hl
  have h9:g 0=none:=by rw [hp0.2,if_neg (by omega)]
  rw [h9] at hi9;cases hi9;rw [hraw hl] at hi9;cases hi9;exact ⟨hl,rfl⟩
 refine ⟨⟨g',rfl,⟨fun i L hi'=>hH.dom i L hi',fun i j L M hi' hj' hbl li lj=> ?_,fun i k hi' hk=> ?_,fun i hi'=>absurd hi' (Nat.not_lt_zero i),Qe5 ht,⟨fun i Q hq hl=> ?_,(fun i Q hq=>by cases hq),fun i Q h0 hq=> ?_⟩⟩,fun p hp=> ?_,hO,fun i x hi'=>⟨(hP i x hi').1,(hP i x hi').2⟩⟩,hb,hs,hd⟩;by_cases i0:i=0;by_cases j0:j=0;rw [i0,j0];subst i0;obtain ⟨hl,rfl⟩:=g00 L hi';exact absurd hbl.symm ((hfz hl).2 j M hj' (live1 j j0 lj));by_cases j0:j=0;subst j0;obtain ⟨hl,rfl⟩:=g00 M hj';exact absurd hbl ((hfz hl).2 i L hi' (live1 i i0 li));exact hH.inj i j L M hi' hj' hbl (live1 i i0 li) (live1 j j0 lj)
 ·match i,hi' with
  |0,hi'=>
   cases hi';rcases Nat.eq_zero_or_pos X.len with h0|hl
   have hN':N=0:=by omega
   refine .inl ⟨_,_,_,_,rfl,?_,?_⟩;show AVal.str (conE X N)=_;rw [hN'];rfl;show AVal.int .i64 N=_;rw [hN'];rfl;refine .inr ⟨locR W X,hraw hl,?_⟩;obtain ⟨C,e,fr,k1,k2,k3⟩:=hX.ok hl;have hw:w.heap[X.blk]? =some (.cells C e fr):=(hobj hl).trans k1;have en:(locR W X).n=C.size-X.off:=by simp only [locR,k1]
   have hsz: ∀m,m<X.len->X.off+m*4+3<C.size:=by
    intro m hm;obtain ⟨v,q1,_⟩:=k2 m 3 hm (by rw [hX.z];decide);rw [hX.z] at q1;exact (Array.getElem?_eq_some_iff.1 q1).1
   have hN1:=hN0 hl;have hlast:=hsz (N-1) (by omega);refine ⟨conE X N,N,C,fr,e,rfl,rfl,by rw [rsz4];exact Qpd hX N hN,hw,?_,⟨fun h=>absurd rfl h,fun i Q h0 hq hbq=> ?_⟩,?_,fun m j hm hj=> ?_⟩;show C.size=X.off+(locR W X).n;rw [en];omega;rcases Ql1 hq with ⟨rfl,rfl⟩|⟨_,_,rfl⟩
   omega;exact hobj hl;show N*4<=(locR W X).n;rw [en];omega;have hj:j<4:=hj;obtain ⟨v,q1,q2,q3⟩:=k2 m j (by omega) (by rw [hX.z];exact hj);refine ⟨v,by rw [hX.z] at q1;exact q1,?_,q3⟩;rw [<-Qzm hX N hN m j hm hj];exact q2 g'
  |1,hi'=>
   cases hi';rcases hH.blk0 1 _ rfl (by simp) with hz|⟨L,hL,hB⟩
   obtain ⟨_,_,_,_,hz,_⟩:=hz;cases hz;obtain ⟨C,fr,b1,b2,b3,b4,b5⟩:=hB;refine .inr ⟨L,hL,C,fr,b1,b2,b3,b4,fun j x hx=> ?_⟩;obtain ⟨v,c1,c2,c3⟩:=b5 j x hx;refine ⟨v,c1,?_,c3⟩
   match j,hx with
   |0,hx=>cases hx;cases c2;exact VRel.symi (g:=g') .u32 0
   |1,hx=>
    cases hx;cases c2 with
    |lsl _ _ _ _ _ o m cap ao d1 d2 d3 d4 d5=>exact .lsl 0 4 false _ _ o m cap ao d1 d2 d3 d4 d5
   |2,hx=>cases hx;cases c2;exact VRel.symi (g:=g') .i64 2
   |3,hx=>cases hx;cases c2;exact VRel.symi (g:=g') .u64 3
   |4,hx=>cases hx;cases c2;exact VRel.symi (g:=g') .u64 4
   |5,hx=>cases hx;cases c2;exact VRel.symi (g:=g') .i64 5
   |j+6,hx=>cases hx
  |2,hi'=>
   cases hi';rcases hH.blk0 2 _ rfl (by simp) with hz|⟨L,hL,hB⟩
   obtain ⟨_,_,_,_,hz,_⟩:=hz;cases hz;obtain ⟨C,fr,b1,b2,b3,b4,b5⟩:=hB;refine .inr ⟨L,hL,C,fr,b1,b2,b3,b4,fun j x hx=> ?_⟩;obtain ⟨v,c1,c2,c3⟩:=b5 j x hx;refine ⟨v,c1,?_,c3⟩
   match j,hx with
   |0,hx=>cases hx;cases c2;exact VRel.symi (g:=g') .u16 8
   |1,hx=>cases hx;cases c2;exact VRel.symi (g:=g') .u16 9
   |2,hx=>cases hx;cases c2;exact VRel.symi (g:=g') .u8 10
   |3,hx=>cases hx;cases c2;exact VRel.symb (g:=g') 11
   |j+4,hx=>cases hx
  |3,hi'=>
   cases hi';rcases hH.blk0 3 _ rfl (by simp) with ⟨s',n',cl',e',hk',d1,d2⟩|⟨L,hL,S,M,C,fr,e9,b1,b2,b3,b4,b5,b6,b7,b8⟩
   cases hk';exact .inl ⟨_,_,_,_,rfl,d1,d2⟩;refine .inr ⟨L,hL,S,M,C,fr,e9,b1,b2,b3,b4,b5,⟨fun h9=> ?_,fun i Q h0 hq hbq=> ?_⟩,b7,fun m j hm hj=> ?_⟩;obtain ⟨c1,c2,c3⟩:=b6.1 h9;refine ⟨c1,c2,fun i Q h0 hq=> ?_⟩;rcases Ql1 hq with ⟨rfl,rfl⟩|⟨hl,_,rfl⟩
   omega;exact fun he=>(hfz hl).2 3 L hL ⟨_,rfl,by simp⟩ he.symm;rcases Ql1 hq with ⟨rfl,rfl⟩|⟨hl,_,rfl⟩
   omega;exact absurd hbq.symm ((hfz hl).2 3 L hL ⟨_,rfl,by simp⟩);obtain ⟨v,c1,c2,c3⟩:=b8 m j hm hj;refine ⟨v,c1,?_,c3⟩;obtain ⟨k,x,q⟩:=Qba6 S m (show j<4 from hj);rw [q] at c2⊢;cases c2;exact .int _ _
  |4,hi'=>
   cases hi';rcases hH.blk0 4 _ rfl (by simp) with hz|⟨L,hL,hB⟩
   obtain ⟨_,_,_,_,hz,_⟩:=hz;cases hz;obtain ⟨C,fr,b1,b2,b3,b4,b5⟩:=hB;refine .inr ⟨L,hL,C,fr,b1,b2,b3,b4,fun j x hx=> ?_⟩;obtain ⟨v,c1,c2,c3⟩:=b5 j x hx;refine ⟨v,c1,?_,c3⟩
   match j,hx with
   |0,hx=>cases hx;cases c2;exact VRel.symi (g:=g') .u32 14
   |1,hx=>
    cases hx;cases c2 with
    |lsl _ _ _ _ _ o m cap ao d1 d2 d3 d4 d5=>exact .lsl 3 4 true _ _ o m cap ao d1 d2 d3 d4 d5
   |2,hx=>cases hx;cases c2;exact VRel.symi (g:=g') .i64 15
   |3,hx=>cases hx;cases c2;exact VRel.symi (g:=g') .u64 16
   |4,hx=>cases hx;cases c2;exact VRel.symi (g:=g') .u64 17
   |5,hx=>cases hx;cases c2;exact VRel.symi (g:=g') .i64 18
   |j+6,hx=>cases hx
  |i+5,hi'=>cases hi'
 rcases Ql1 hq with ⟨rfl,rfl⟩|⟨_,_,rfl⟩;refine ⟨hfe.1,fun j L hj' lj=> ?_⟩;by_cases j0:j=0;subst j0;obtain ⟨hl,rfl⟩:=g00 L hj';exact hb0 hl;exact hfe.2 j L hj' (live1 j j0 lj);exact absurd hl (Nat.lt_irrefl 0);rcases Ql1 hq with ⟨rfl,rfl⟩|⟨hl,rfl,rfl⟩;omega;exact hH.frz.top 1000 (mkX W X) (Nat.le_refl _) (by rw [hxe];unfold ext3;rw [if_neg (by decide),if_neg (by decide),if_pos hl,if_neg (by decide),if_pos rfl]);obtain ⟨u,u1,u2⟩:=hT p hp;refine ⟨u,u1,?_⟩;simp only [Qnp,lgT3,List.mem_cons,List.not_mem_nil,or_false] at hp;rcases hp with rfl|rfl|rfl<;>(cases u2 with
  |ptr _ _ L q=>exact .ptr _ _ L q)
theorem end3 {W:World} {X:Fz} {O:Obj} {V:Sig} {N:Nat} (he:V.ext=extN W X O) (hn:V.i 7=N) (hN0:0<X.len->0<N):EndZ Qa 96 (fra3 W X) (WZ3 W) .ret lgE3 V:=by
 intro e a w hxe hA;obtain ⟨g,rfl,hH,hT,hO,hP⟩:=hA.ex;have hT1:TRel g (tmOf lgE3 96) a:=by
  refine ⟨by simp only [tmOf,hA.size];exact Nat.le_refl _,?_⟩;intro i v hv;exact hT _ (Qya hv)
 have hm:resA Tryd.prog (tmOf lgE3 96) lgE3.heap Tryd.f3.results.toList=some [.bool true]:=by kernel_rfl
 obtain ⟨u,hres,h2⟩:=Qsc hH hT1 hm;have hu:u=.bool true:=Q7h (outs:=[.one .b]) (l:=[1]) (g:=g) ⟨rfl,trivial⟩ h2;subst hu;have hbel:Below W.heap.size W w:=by
  refine ⟨hA.below.os,hA.below.tape,hA.below.output,hA.below.size,fun k hk=> ?_⟩;by_cases hr:0<X.len/\k=X.blk;obtain ⟨hl,rfl⟩:=hr;have hp0:=hP 0 _ rfl;have hraw:g 0=some (locR W X):=by rw [hp0.2,if_pos hl]
  rcases hH.blk0 0 _ rfl (by simp [eL]) with ⟨s',n',cl',e',hk',d1,d2⟩|⟨L,hL,S,M,C,fr,e9,b1,b2,b3,b4,b5,b6,b7,b8⟩;cases hk';simp only [den,AVal.int.injEq,true_and] at d2;have:=hN0 hl;omega;rw [hraw] at hL;cases hL;exact b6.2 1000 (mkX W X) (Nat.le_refl _) (by rw [he];unfold extN;rw [if_neg (by decide),if_pos ⟨hl,rfl⟩]) rfl;exact hA.below.frame k hk (fun ho=>by
   rcases ho with h|h;have h:W.heap.size<=k:=h;omega;exact hr h)
 have:a.defers=[]/\ ∃v,(results Tryd.f3 a.tmps).run Tryd.prog w=.ok v w/\(Ending.returned v=.returned (.bool true)/\Below W.heap.size W w):=⟨hA.defers,_,hres,rfl,hbel⟩;cases e with
 |ret=>exact this
 |_=>exact hxe.elim
end Go.Proofs.YtelimhjceiamcaaDoor.lg
set_option maxRecDepth 100000
namespace Go.Proofs.YtelimhjceiamcaaDoor.logTells
open Go.ChangeShapes Go.WideShapes Go.ChangeAt Go.RowKit
open Go.Ev Go.Wbp Go.Lgp Go.Proofs.YtelimhjceiamcaaDoor.fa Go.Proofs.YtelimhjceiamcaaDoor.lg
open Go.Proofs.YtelimhjceiamcaaDoor.lgn (mixed)
theorem own:ownKnob Tryd.prog.godebug=none:=by kernel_rfl
noncomputable def ing:Ing:={m:=0,G:=[],T:=.e,mh:=asMh Tryd.prog 35 78 88 36 34,inv:=Qdr 0 Qd0}
theorem hooks (F:List Fact):Hooks Tryd.prog (cxOf ing F) where
 val:=fun f args v h=>by simp only [ing,cxOf,Qgf,reduceCtorEq] at h
 mem:=fun f args hp v hp' h=>Qbao (X:=ing) rfl rfl as_ok is_ok (fun _ h=>h) F f args hp v hp' h
 ovl:=fun f k h=>by simp only [ing,cxOf,reduceCtorEq] at h
 atm:=fun k b h=>by simp only [ing,cxOf,List.not_mem_nil] at h
theorem Qbo1:Qev ((evD Tryd.prog (cxOf ing) true 1000 40).1 [] 14 [] ⟨[],[]⟩)=true:=by kernel_rfl
theorem Qbo0 (w:World) (O:Obj) (hO:Qd0 O) (hw:w.heap[0]? =some O):Calls Tryd.prog 14 #[] w fun e w'=>e=.returned (.bool true)/\Below w.heap.size w w':=by
 have hY:FzOk (Qee O) w:=by
  obtain ⟨C,t,fr,rfl,hC⟩:=hO;exact ⟨C,t,fr,hw,fun m j hm hj=>absurd hj (Nat.not_lt_zero j),fun o ho=>by cases ho;exact hw⟩
 exact Qbba (Y:=Qee O) ⟨rfl,rfl,rfl,rfl,rfl,rfl⟩ (fun V he=>Q7j (r:=0) hO (by rw [he];rfl)) (hm:=mixed) (hh:=hooks) (h:=Qbo1) (w:=w) (hY:=hY)
theorem Qbn8 {P:Program} {X:Ing} {fs:List Nat} {blk:Nat} {OK:Obj->Prop}
  (h: ∀f,f∈fs-> ∀(w:World) (O:Obj),OK O->w.heap[blk]? =some O->Calls P f #[] w fun e w'=>e=.returned (.bool true)/\Below w.heap.size w w')
  (hinv: ∀V,X.inv V->Qdr blk OK V) (F:List Fact) (look:SDef->Option AVal) (f:FuncId) (args:List AVal) (hp:Hp) (v:AVal) (hp':Hp) (hm:Qsx fs look f args hp=some (v,hp')):CallP P (cxOf X F) f args hp (.val v) hp':=by
 unfold Qsx at hm;split at hm;split at hm;rename_i hf;cases hm;obtain ⟨f',hf1,hf2⟩:=List.any_eq_true.1 hf;have:=Nat.eq_of_beq_eq_true hf2;subst this;refine ⟨Touch.refl _,fun g w args' hH hl=> ?_⟩;obtain ⟨l⟩:=args';cases hl;obtain ⟨O,hO1,hO2⟩:=Q7k hH (hinv _ hH.sig.ok.2.inv);refine (h f hf1 w O hO1 hO2).mono ?_;rintro e w' ⟨rfl,hB⟩;obtain ⟨g1,g2⟩:=hH.below hB;exact ⟨g,⟨_,rfl,.bool _⟩,g1,g2⟩;cases hm;cases hm
def conD (X:Fz):Nat->ByteArray
 |0=> .empty
 |n+1=>conD X n++⟨(rowB cl4d [X.val n 0,X.val n 1,X.val n 2,X.val n 3]).toArray⟩
theorem elD {W:World} {v:Value} {X:Fz} (hX:RowV W lg.d4 v X) {m:Nat} (hm:m<X.len): ∃a b c d:Int,X.val m 0=.int .u16 a/\X.val m 1=.int .u16 b/\X.val m 2=.int .u8 c/\X.val m 3=.int .u8 d/\IntKind.u16.wrap a=a/\IntKind.u16.wrap b=b/\IntKind.u8.wrap c=c/\IntKind.u8.wrap d=d:=by
 obtain ⟨a,a1,a2⟩:=Qe7 (hX.els m hm) (j:=0) (z:=.i .u16) rfl;obtain ⟨b,b1,b2⟩:=Qe7 (hX.els m hm) (j:=1) (z:=.i .u16) rfl;obtain ⟨c,c1,c2⟩:=Qe7 (hX.els m hm) (j:=2) (z:=.i .u8) rfl;obtain ⟨d,d1,d2⟩:=Qe7 (hX.els m hm) (j:=3) (z:=.i .u8) rfl;exact ⟨a,b,c,d,a2,b2,c2,d2,a1,b1,c1,d1⟩
theorem Q8e {a b c d:Int} (h1:IntKind.u16.wrap a=a) (h2:IntKind.u16.wrap b=b) (h3:IntKind.u8.wrap c=c) (h4:IntKind.u8.wrap d=d):okCs (cx0 (fun _ _=>0)) cl4d [.int .u16 a,.int .u16 b,.int .u8 c,.int .u8 d]=true:=by
 simp [okCs,okC,cl4d,h1,h2,h3,h4]
theorem Qbls {W:World} {v:Value} {X:Fz} (hX:RowV W lg.d4 v X) {m:Nat} (hm:m<X.len):(rowB cl4d [X.val m 0,X.val m 1,X.val m 2,X.val m 3]).length=rsz cl4d:=by
 obtain ⟨a,b,c,d,e1,e2,e3,e4,h1,h2,h3,h4⟩:=elD hX hm;rw [e1,e2,e3,e4];exact Qkt (V:=⟨fun _=>0,fun _=>false,fun _=> .empty,fun _ _=>0,fun _=>none⟩) (Q8e h1 h2 h3 h4)
theorem Qtl {W:World} {v:Value} {X:Fz} (hX:RowV W lg.d4 v X): ∀n,n<=X.len->(conD X n).data.toList.length=n*rsz cl4d
 |0,_=>by rw [Nat.zero_mul];rfl
 |n+1,h=>by
  have e:(conD X (n+1)).data.toList=(conD X n).data.toList++rowB cl4d [X.val n 0,X.val n 1,X.val n 2,X.val n 3]:=by simp [conD,ByteArray.data_append]
  rw [e,List.length_append,Qtl hX n (by omega),Qbls hX (by omega),Nat.succ_mul]
theorem Qzl {W:World} {v:Value} {X:Fz} (hX:RowV W lg.d4 v X): ∀n,n<=X.len-> ∀m j,m<n->j<4->X.val m j=Qm cl4d (conD X n) m j
 |0,_,m,j,hm,_=>absurd hm (Nat.not_lt_zero m)
 |n+1,h,m,j,hm,hj=>by
  rw [conD,Qhm (N:=n) (Qtl hX n (by omega))];by_cases e:m<n;rw [if_pos e];exact Qzl hX n (by omega) m j e hj;have:m=n:=by omega
  subst this;rw [if_neg e,Nat.sub_self];obtain ⟨a,b,c,d,e1,e2,e3,e4,h1,h2,h3,h4⟩:=elD hX (show m<X.len by omega);have key:=Qi7 (ng:=cx0 (fun _ _=>0)) (V:=⟨fun _=>0,fun _=>false,fun _=> .empty,fun _ _=>0,fun _=>none⟩) (Qe5 rfl) [] (Q8e h1 h2 h3 h4);rw [List.append_nil] at key;unfold Qm;rw [Nat.zero_mul,List.drop_zero,e1,e2,e3,e4]
  match j,hj with
  |0,_=>rw [e1];exact (key 0 _ rfl).symm
  |1,_=>rw [e2];exact (key 1 _ rfl).symm
  |2,_=>rw [e3];exact (key 2 _ rfl).symm
  |3,_=>rw [e4];exact (key 3 _ rfl).symm
theorem Qbbc {W:World} {v:Value} {X:Fz} (hX:RowV W lg.d4 v X) {V:Sig} {i:Nat} (h:V.s i=conD X X.len):StrX V (.syms i) cl4d X:=
 ⟨hX.z.symm,conD X X.len,congrArg AVal.str h,Qtl hX _ (Nat.le_refl _),fun m j hm hj=>Qzl hX _ (Nat.le_refl _) m j hm (by rw [hX.z] at hj;exact hj)⟩
structure J30 (E:Nat->Option Fz) (Y:Fz) (n:Nat) (C:ByteArray) (V:Sig):Prop where
 n0:V.i 1=(n:Int)
 len:V.i 7=(Y.len:Int)
 s:V.s 6=C
 xe:V.ext=E
theorem J30.agree {E:Nat->Option Fz} {Y:Fz} {n:Nat} {C:ByteArray} {V U:Sig} (ag:Agree 12 V U) (h:J30 E Y n C V):J30 E Y n C U:=by
  cases h;constructor<;>first|assumption|(simp (disch:=decide) only [ag.iv,ag.bv,ag.sv,ag.xv];assumption)
structure J31 (E:Nat->Option Fz) (n:Nat) (L:Lg) (V:Sig):Prop where
 n0:V.i 1=(n:Int)
 s12:V.s 12=Lgp.encL L.es
 v13:V.i 13=L.es.length
 v14:V.i 14=L.img
 v15:V.i 15=L.cyc
 v16:V.i 16=L.ret
 v17:V.i 17=L.br
 v18:V.i 18=L.out
 ok:LgOk L
 xe:V.ext=E
structure InvT (E:Nat->Option Fz) (Y:Fz) (V:Sig):Prop where
 ext:V.ext=E
 len:V.i 7=Y.len
 str:StrX V (.syms 6) cl4d Y
def Qjy:List SDef:=[.sop (.fs 640) [.s 6,.i 7],
 .fn 641 .i64 [.s 6,.i 7],
 .conv .i64 (.symi .u16 8),
 .q .mul (.i 14) (.z 100),
 .fn 642 .u64 [.s 6,.i 7,.symi .u16 8,.symi .u16 9],
 .fn 643 .u64 [.s 6,.i 7,.symi .u16 8,.symi .u16 9],
 .conv .i64 (.c 10),
 .q .rem (.i 18) (.z 7)]
def Qvh:LT:=Go.Wbp.fT 12 Qjy (.n (.n (.n (.n .e 222252159 13 .e) 345276246 15 .e) 734741606 12 (.n .e 744624217 19 .e)) 824002804 14 (.n (.n .e 841848526 16 .e) 841848569 17 (.n .e 1030003422 18 .e)))
def Q4i:Sw:=.run (.leaf .normal Qib [(0,0),(1,0),(2,0),(3,0),(5,0)] [(0,.w 0),(1,.i 1),(2,.i 2),(3,.u 3),(4,.u 4),(5,.i 5),(8,.symi .u16 8),(9,.symi .u16 9),(10,.c 10),(11,.symb 11),(12,.s 12),(13,.i 13),(14,.w 0),(13,.i 13),(15,.i 15),(16,.u 16),(17,.u 17),(18,.i 19)] [(7,.i 7)])
def Q4h:KdT:=kdN 0x11221110035510122114 5 1 0
noncomputable def Q4j:Ing:={m:=12,ins:=lgK3,G:=Qjy,T:=Qvh,tab:=Qa,rows:=[⟨.symi .i64 7,[]⟩],lsts:=Qs,kb:=20,kt:=Q4h}
noncomputable def Qhd (E:Nat->Option Fz) (Y:Fz):Ing:={m:=12,ins:=lgK3,G:=Qjy,T:=Qvh,tab:=Qa,rows:=[⟨.symi .i64 7,[]⟩],lsts:=Qs,kb:=20,kt:=Q4h,mh:=Qom (kdX Q4j) [.symi .i64 7,.syms 6] [sf8r],inv:=InvT E Y}
theorem Q4k:okLT 12 Qjy Qvh=true:=by kernel_rfl
theorem Qbhk {E:Nat->Option Fz} {W:World} {v:Value} {Y:Fz} (hY:RowV W lg.d4 v Y) (hE0: ∀Z,E 0=some Z->Z=Y) (F:List Fact):Hooks Tryd.prog (cxOf (Qhd E Y) F) where
 val:=fun f args v h=>by simp only [Qhd,cxOf,Qgf,reduceCtorEq] at h
 mem:=fun f args hp v hp' h=>by
  replace h:(Qom (kdX Q4j) [.symi .i64 7,.syms 6] [sf8r]) (symS (Q5 (Qhd E Y) F)) f args hp=some (v,hp'):=h;exact Q6h (X:=Qhd E Y) (tbl:=[sf8r]) (ys:=[.symi .i64 7,.syms 6]) (inv:=Inv8 E Y) (fun e he=>by
   obtain rfl:=List.mem_singleton.1 he;exact c8r hY hE0) Q4k rfl (fun e he V U hx hxs hv=>by
   obtain rfl:=List.mem_singleton.1 he;have h:[AVal.int .i64 (U.i 1),.str (U.s 6)]=[AVal.int .i64 (V.i 7),.str (V.s 6)]:=hxs;simp only [List.cons.injEq,AVal.int.injEq,AVal.str.injEq,true_and,and_true] at h;obtain ⟨h1,h2,h3,S,s1,s2⟩:=hv;exact ⟨by rw [hx];exact h1,by rw [h.1];exact h2,⟨h3,S,by rw [<-s1];show AVal.str _=AVal.str _;rw [h.2],s2⟩⟩) F f args hp v hp' h
 ovl:=fun f k h=>by simp only [Qhd,cxOf,reduceCtorEq] at h
 atm:=fun k b h=>by simp only [Qhd,cxOf,List.not_mem_nil] at h
theorem Qbhl {E:Nat->Option Fz} {W:World} {v:Value} {Y:Fz} (hY:RowV W lg.d4 v Y) (hE0: ∀Z,E 0=some Z->Z=Y):SegOkI Tryd.prog Qa 96 ((Qe (Qc Tryd.f3)).take 2) lgS3 (Qhd E Y) Q4i:=
  ⟨Q4k,by kernel_rfl,Qbhk hY hE0,rfl,by kernel_rfl,by kernel_rfl,rfl,rfl,by kernel_rfl⟩
theorem st3A {F:Fra} {Z:Exit->Act->World->Prop} {E:Nat->Option Fz} {n:Nat} {W:World} {v:Value} {Y:Fz} (hpA: ∀i,F.pin i≠none->pinW i Q4i=true) (hY:RowV W lg.d4 v Y) (hE0: ∀Q,E 0=some Q->Q=Y) (hT:Qf Tryd.prog Qa 96 F Z ((Qe (Qc Tryd.f3)).drop 2) Qib 19 Qga (fun V=> ∃L,J31 E n L V)):Qf Tryd.prog Qa 96 F Z (Qe (Qc Tryd.f3)) lgS3 12 lgK3 (J30 E Y n (conD Y Y.len)):=by
 rw [show Qe (Qc Tryd.f3)=(Qe (Qc Tryd.f3)).take 2++(Qe (Qc Tryd.f3)).drop 2 from rfl];refine Qf.segI (q2:=19) (ins2:=Qga) (S2:=Qib) (J2:=fun V=> ∃L,J31 E n L V) mixed (Qbhl hY hE0) ⟨rfl,rfl⟩ (fun V U ag h=>h.agree ag) (fun U h=>Q8g (k:=7) h.xe hE0 h.len) (fun U h=>⟨h.xe,h.len,Qbbc hY h.s⟩) hT (fun U e ht hi hj=> ?_) hpA;refine Qp ?_;have F:Facs U 12 Qjy:=facs e;dsimp only [Qjy,Facs,fac1,facI,facS,facB,oI,oK,oB,oS,nmL,nm,Nat.reduceAdd] at F;obtain ⟨s12,i13,i14,i15,i16,i17,i18,-⟩:=F;have i19:U.i 19=(U.i 18).tmod (7):=eqI (e.at 7 _ rfl rfl) rfl;have w0:=hi 0 .u32 (by decide) rfl;have w2:=hi 8 .u16 (by decide) rfl;have w3:=hi 9 .u16 (by decide) rfl;have w4:=hi 10 .u8 (by decide) rfl;rw [Qd7] at w0;rw [Qov] at w2 w3;rw [wr_u8] at w4;obtain ⟨t0,t1,t2,t3⟩:=Q51 (conD Y Y.len) Y.len (U.i 8) (U.i 9);rw [ht,hj.s,hj.len,t0] at s12;rw [ht,hj.s,hj.len,t1,Qh] at i13;rw [ht,hj.s,hj.len,t2,Qg] at i16;rw [ht,hj.s,hj.len,t3,Qg] at i17;rw [Qh] at i14 i15 i18;rw [Qb1 _ (by omega)] at i19;have hdl:=Qtt (conD Y Y.len) (min Y.len 60);obtain ⟨o1,o2,o3,o4,o5,_,_⟩:=Qh0 (conD Y Y.len) (min Y.len 60);have e12:(draG 0 (conD Y Y.len) Y.len (U.i 8) (U.i 9) 0).ret=(Qk noE (draL (conD Y Y.len) (min Y.len 60))).r+U.i 8:=rfl;have e13:(draG 0 (conD Y Y.len) Y.len (U.i 8) (U.i 9) 0).br=min ((Qk noE (draL (conD Y Y.len) (min Y.len 60))).r+U.i 8) ((Qk noE (draL (conD Y Y.len) (min Y.len 60))).b+U.i 9):=rfl;rw [e12] at i16;rw [e13] at i17
 refine .inl ⟨rfl,rfl,insK (X:=Qhd E Y) e hi,⟨draG (U.i 0) (conD Y Y.len) Y.len (U.i 8) (U.i 9) (U.i 10),hj.n0,s12,?_,rfl,?_,?_,?_,?_,?_,extS hj.xe⟩,tabS ht⟩;show U.i 13=((draL (conD Y Y.len) (min Y.len 60)).length:Int);omega;show U.i 15=U.i 8*100;omega;show U.i 16=(Qk noE (draL (conD Y Y.len) (min Y.len 60))).r+U.i 8;omega;show U.i 17=min ((Qk noE (draL (conD Y Y.len) (min Y.len 60))).r+U.i 8) ((Qk noE (draL (conD Y Y.len) (min Y.len 60))).b+U.i 9);omega;show U.i 19=U.i 10%7;omega;refine ⟨Qbbu (by omega) (by omega) (by omega),Qz0 _ _ (by omega),?_,?_⟩;show (draL (conD Y Y.len) (min Y.len 60)).length<=60;omega;show 0<=U.i 0/\U.i 0<4294967296;omega
def Qjz:List SDef:=[.low [.i 1,.z 60],
 .q .leq (.z 0) (.i 22),
 .q .leq (.i 22) (.i 1),
 .q .leq (.i 22) (.i 7),
 .q .leq (.i 7) (.z 1000000),
 .q .leq (.i 22) (.z 1000),
 .q .leq (.z 0) (.i 13),
 .q .leq (.i 13) (.i 13),
 .q .leq (.i 13) (.z 1000000),
 .q .leq (.i 13) (.z 1000),
 .sop .len [.s 19],
 .q .leq (.i 32) (.z 1000000),
 .sop .len [.s 21],
 .q .leq (.i 34) (.z 1000000),
 .conv .i64 (.symi .u16 9),
 .q .add (.i 32) (.z 1),
 .q .rem (.i 36) (.i 37),
 .q .leq (.z 0) (.i 38),
 .q .leq (.i 38) (.i 32),
 .sop .sub [.s 19,.z 0,.i 38],
 .sop .len [.s 41],
 .q .leq (.i 42) (.z 1000000),
 .text [.c 10],
 .sop .cat [.s 19,.s 44],
 .sop .len [.s 45],
 .q .leq (.i 46) (.z 1000000),
 .q .lss (.z 0) (.i 20),
 .q .leq (.i 46) (.z 9223372036854775807)]
def Qvk:LT:=Go.Wbp.fT 22 Qjz (.n (.n (.n (.n (.n .e 10844567 37 .e) 37616154 23 (.n .e 108101915 22 .e)) 115272098 45 (.n (.n .e 124568427 27 .e) 162564267 39 (.n .e 168659433 28 .e))) 196266342 44 (.n (.n (.n .e 233996248 38 .e) 276146667 26 (.n .e 285911364 34 .e)) 289307527 31 (.n (.n .e 330544833 25 .e) 354609530 49 .e))) 404809463 42 (.n (.n (.n (.n .e 407921747 29 .e) 417907019 24 (.n .e 424650818 48 .e)) 589931791 43 (.n (.n .e 653670588 33 .e) 701815551 41 .e)) 855671194 35 (.n (.n (.n .e 866712688 40 .e) 882148485 30 (.n .e 927003113 36 .e)) 993933003 47 (.n (.n .e 1025640833 32 .e) 1072834179 46 .e))))
def Qbhs:Sw:=.x 23 (.x 24 (.x 25 (.x 26 (.x 27 (.x 28 (.x 29 (.x 30 (.x 31 (.x 33 (.x 35 (.pick 37 0 (.dead) (.node 39 (.node 40 (.node 43 (.node 47 (.node 48 (.node 49 (.run (.leaf .ret lgE3 [(0,0),(1,0)] [(6,.s 6),(7,.i 7),(0,.w 0),(1,.i 1),(2,.i 2),(3,.u 3),(4,.u 4),(5,.i 5)] [])) (.dead)) (.dead)) (.dead)) (.dead)) (.dead)) (.dead)))))))))))))
def Q4s:KdT:=kdN 0x11000000000000010001221410035510122114 6 1 0
noncomputable def Q4t:Ing:={m:=22,ins:=Qnm,G:=Qjz,T:=Qvk,tab:=Qa,lsts:=Qs,kb:=50,kt:=Q4s}
noncomputable def Qhe:Ing:={m:=22,ins:=Qnm,G:=Qjz,T:=Qvk,tab:=Qa,lsts:=Qs,kb:=50,kt:=Q4s,mh:=orMh (Qsx [14]) (Qbr (kdX Q4t) [sf12]),inv:=Qdr 0 Qd0}
theorem Q4u:okLT 22 Qjz Qvk=true:=by kernel_rfl
theorem Qbht (F:List Fact):Hooks Tryd.prog (cxOf Qhe F) where
 val:=fun f args v h=>by simp only [Qhe,cxOf,Qgf,reduceCtorEq] at h
 mem:=fun f args hp v hp' h=>by
  replace h:(orMh (Qsx [14]) (Qbr (kdX Q4t) [sf12])) (symS (Q5 Qhe F)) f args hp=some (v,hp'):=h;unfold orMh at h;split at h;rename_i r hr;cases h;exact Qbn8 (X:=Qhe) (fs:=[14]) (fun f hf w O h1 h2=>by
   obtain rfl:=List.mem_singleton.1 hf;exact Qbo0 w O h1 h2) (fun _ h=>h) F _ f args hp v hp' hr
  exact Qwj (X:=Qhe) (tbl:=[sf12]) (inv:=Qdr 0 Qd0) (fun e he=>by
   obtain rfl:=List.mem_singleton.1 he;exact c12) Q4u rfl (fun V U hx h=>Q7i hx h) F f args hp v hp' h
 ovl:=fun f k h=>by simp only [Qhe,cxOf,reduceCtorEq] at h
 atm:=fun k b h=>by simp only [Qhe,cxOf,List.not_mem_nil] at h
theorem Qbhu:SegOkI Tryd.prog Qa 96 ((Qe (Qc Tryd.f3)).drop 6) Qj5 Qhe Qbhs:=
  ⟨Q4u,by kernel_rfl,Qbht,rfl,by kernel_rfl,by kernel_rfl,rfl,rfl,by kernel_rfl⟩
theorem st3D {W:World} {X:Fz} {O:Obj} (hO:Qd0 O):Qf Tryd.prog Qa 96 (fra3 W X) (WZ3 W) ((Qe (Qc Tryd.f3)).drop 6) Qj5 22 Qnm (J3c (extN W X O) X.len):=by
 refine Qf.lastI mixed Qbhu ⟨rfl,rfl⟩ (fun V U ag h=>h.agree ag) (fun U h=>Qv) (fun U h=>Qbco hO h.xe) (fun U e ht hi hj=> ?_) (pin3 (by kernel_rfl));refine Qp ?_;have hz:=hj.z;have hzt:=hj.zt;have h13:=hj.m0;have h13':=hj.m1;have hz1:=hj.z1;have h20:=hj.i20;have hn:=hj.n0;have hn7:=hj.n7;have w9:=hi 9 .u16 (by decide) rfl;rw [Qov] at w9;have F:Facs U 22 Qjz:=facs e;dsimp only [Qjz,Facs,fac1,facI,facS,facB,oI,oK,oB,oS,nmL,nm,Nat.reduceAdd] at F;obtain ⟨i22,b23,b24,b25,b26,b27,b28,b29,b30,b31,i32,b33,i34,b35,i36,i37,-,b39,b40,s41,i42,b43,-,s45,i46,b47,b48,b49,-⟩:=F;rw [Qh] at i36 i37;have n37:U.i 37≠0:=by omega
 have i38:U.i 38=(U.i 36).tmod (U.i 37):=eqI (e 16 _ rfl (fun j hj=>by cases hj;exact n37)) (by simp only [Qb,den,binS,intA,if_true,if_neg n37]);have s44:U.s 44=bs [U.i 10]:=p9.eqText (e.at 22 _ rfl rfl);have tr: ∀{P:Prop} {b:Bool} [Decidable P],b=decide P->b=false->P->False:=fun hb hf hp=>by rw [hb,decide_eq_false_iff_not] at hf;exact hf hp
 have h38:0<=U.i 38/\U.i 38<U.i 37:=by
  rw [i38,Qb1 _ (by omega)];exact ⟨Int.emod_nonneg _ n37,Int.emod_lt_of_pos _ (by omega)⟩
 have z41:(U.s 41).size<=1300:=by
  rw [s41,ByteArray.size_extract];omega
 have z45:(U.s 45).size=(U.s 19).size+1:=by rw [s45,ByteArray.size_append,s44];rfl
 exact ⟨fun f23=>⟨fun f24=>⟨fun f25=>⟨fun f26=>⟨fun f27=>⟨fun f28=>⟨fun f29=>⟨fun f30=>⟨fun f31=>⟨fun f33=>⟨fun f35=>⟨fun f=>n37 f,fun _=>⟨fun f39=>⟨fun f40=>⟨fun f43=>⟨fun f47=>⟨fun f48=>⟨fun f49=>end3 (N:=min X.len 60) (extS hj.xe) (by show U.i 7=_;omega) (fun h=>by omega),fun f49=>tr b49 f49 (by omega)⟩,fun f48=>tr b48 f48 (by omega)⟩,fun f47=>tr b47 f47 (by omega)⟩,fun f43=>tr b43 f43 (by omega)⟩,fun f40=>tr b40 f40 (by omega)⟩,fun f39=>tr b39 f39 (by omega)⟩⟩,fun f35=>tr b35 f35 (by omega)⟩,fun f33=>tr b33 f33 (by omega)⟩,fun f31=>tr b31 f31 (by omega)⟩,fun f30=>tr b30 f30 (by omega)⟩,fun f29=>tr b29 f29 (by omega)⟩,fun f28=>tr b28 f28 (by omega)⟩,fun f27=>tr b27 f27 (by omega)⟩,fun f26=>tr b26 f26 (by omega)⟩,fun f25=>tr b25 f25 (by omega)⟩,fun f24=>tr b24 f24 (by omega)⟩,fun f23=>tr b23 f23 (by omega)⟩
theorem walk (W:World) (hL:laidMetH Tryd.prog laid W) (s v1:Value) (X Y:Fz) (hX:RowV W e4 s X) (hs:SlcV W 4 s) (hY:RowV W lg.d4 v1 Y) (a0 a2 a3 a4 a5 b0 b1 b2:Int) (bb:Bool)
  (w0:IntKind.u32.wrap a0=a0) (w2:IntKind.i64.wrap a2=a2) (w3:IntKind.u64.wrap a3=a3) (w4:IntKind.u64.wrap a4=a4) (w5:IntKind.i64.wrap a5=a5) (k0:IntKind.u16.wrap b0=b0) (k1:IntKind.u16.wrap b1=b1) (k2:IntKind.u8.wrap b2=b2):
  Calls Tryd.prog 3 #[.agg #[.int .u32 a0,s,.int .i64 a2,.int .u64 a3,.int .u64 a4,.int .i64 a5],v1,.agg #[.int .u16 b0,.int .u16 b1,.int .u8 b2,.bool bb]] W fun e W'=>e=.returned (.bool true)/\Below W.heap.size W W':=by
 obtain ⟨O,hO,hYO⟩:=Qbcl (Qbda hL)
 let V0:Sig:=⟨fun i=>if i=0 then a0 else if i=1 then (X.len:Int) else if i=2 then a2 else if i=3 then a3 else if i=4 then a4 else if i=5 then a5 else if i=7 then (Y.len:Int) else if i=8 then b0 else if i=9 then b1 else b2,fun _=>bb,fun _=>conD Y Y.len,Qa,ext3 W X Y O⟩
 have hlx:=hX.len;have hly:=hY.len;have hb0:0<X.len->X.blk≠0:=fun hl h0=>by
  obtain ⟨C,e,fr,c1,c2,_⟩:=hX.ok hl;rw [h0] at c1;have h1:=Qbko hL c1;obtain ⟨v,q,_⟩:=c2 0 3 hl (by rw [hX.z];decide);rw [hX.z] at q;have:=(Array.getElem?_eq_some_iff.1 q).1;omega
 have hmain:=st3A (F:=fra3 W X) (Z:=WZ3 W) (E:=ext3 W X Y O) (n:=X.len) (pin3 (by kernel_rfl)) hY Qbcn
  (Qboa hX hb0 (N:=min X.len 60) (by omega) (fun h=>by omega) (fun V ⟨L,h⟩=>h.xe)
   (J2:=fun V=> ∃L,J3t (extN W X O) X.len L V) (fun V ⟨L,h⟩=>⟨L,h.n0,(by show ((min X.len 60:Nat):Int)=_;omega),h.s12,h.v13,h.v14,h.v15,h.v16,h.v17,h.v18,h.ok,rfl⟩)
   (fun V ⟨L,h⟩ hi i k hlt hk=>by
    by_cases h7:i=7;subst h7;have hk:IntKind.i64=k:=Option.some.inj hk;subst hk;show IntKind.i64.wrap ((min X.len 60:Nat):Int)=((min X.len 60:Nat):Int);rw [Qh];omega;show k.wrap (if i=7 then ((min X.len 60:Nat):Int) else V.i i)=(if i=7 then ((min X.len 60:Nat):Int) else V.i i);rw [if_neg h7];exact hi i k hlt hk)
   (st3B (pin3 (by kernel_rfl)) (pin3 (by kernel_rfl)) (st3D hO)))
 have hins:Qx V0 12 lgK3:=fun i k hi hk=>by
  have:i=0\/i=1\/i=2\/i=3\/i=4\/i=5\/i=6\/i=7\/i=8\/i=9\/i=10\/i=11:=by omega
  rcases this with rfl|rfl|rfl|rfl|rfl|rfl|rfl|rfl|rfl|rfl|rfl|rfl;cases hk;exact w0;cases hk;show IntKind.i64.wrap (X.len:Int)=X.len;rw [Qh];omega;cases hk;exact w2;cases hk;exact w3;cases hk;exact w4;cases hk;exact w5;cases hk;cases hk;show IntKind.i64.wrap (Y.len:Int)=Y.len;rw [Qh];omega;cases hk;exact k0;cases hk;exact k1;cases hk;exact k2;cases hk
 refine Qzb Tryd.func3 (show Tryd.f3.body=some (Qc Tryd.f3) from rfl) ?_;have h0: ∀g:Inj,g.sig=V0->(0<X.len->g 0=some (locR W X))->VRel g (.agg lgTl) (.agg #[.int .u32 a0,s,.int .i64 a2,.int .u64 a3,.int .u64 a4,.int .i64 a5]):=fun g hg hr=>by
  have hl:=Qblg hX hs hr (n:=1) (by rw [hg];rfl);obtain ⟨gl,gs,gm⟩:=g;have hg:gs=V0:=hg;subst hg;exact .agg _ _ (.cons _ _ _ _ (VRel.symi (g:=⟨gl,V0,gm⟩) .u32 0) (.cons _ _ _ _ hl (.cons _ _ _ _ (VRel.symi (g:=⟨gl,V0,gm⟩) .i64 2) (.cons _ _ _ _ (VRel.symi (g:=⟨gl,V0,gm⟩) .u64 3) (.cons _ _ _ _ (VRel.symi (g:=⟨gl,V0,gm⟩) .u64 4) (.cons _ _ _ _ (VRel.symi (g:=⟨gl,V0,gm⟩) .i64 5) .nil))))))
 have h2:VRel ⟨fun _=>none,V0,fun _=>none⟩ (.agg lgTt) (.agg #[.int .u16 b0,.int .u16 b1,.int .u8 b2,.bool bb]):=
  .agg _ _ (.cons _ _ _ _ (VRel.symi (g:=⟨fun _=>none,V0,fun _=>none⟩) .u16 8) (.cons _ _ _ _ (VRel.symi (g:=⟨fun _=>none,V0,fun _=>none⟩) .u16 9) (.cons _ _ _ _ (VRel.symi (g:=⟨fun _=>none,V0,fun _=>none⟩) .u8 10) (.cons _ _ _ _ (VRel.symb (g:=⟨fun _=>none,V0,fun _=>none⟩) 11) .nil))))
 have:=Ql4 _ (hmain _ _ V0 (at3 hX hY hYO (V0:=V0) rfl rfl h0 h2) hins ⟨rfl,rfl,rfl,rfl⟩ rfl);rw [Qsw] at this;exact this
section
variable {H : Type} {enc : TypeId × Value -> H} {P : Program}
theorem Qbk4 {f:Func} {s:ChangeSpec} {apart fresh handsOn again:Bool} {W W':World} {args:Array Value} {v:Value} {ds gs:List (DataW H)} {before pa pv:List MemPlace}
  (hW:DataW.Whole enc P f.params.toList s.vars apart W args.toList ds gs before)
  (hres: ∀(b:Nat) (sp:Nat->Bool) (hd:Bool),DataW.TrodAll enc P W' b sp hd f.resultTypes.toList (v.resultList f.resultTypes.size) (s.fn H (ds++gs)).results [])
  (hargs: ∀sp:Nat->Bool,(∀p∈before,sp p.block=true)->DataW.TrodAll enc P W' 0 sp true f.params.toList args.toList (s.fn H (ds++gs)).args pa)
  (hvars: ∀sp:Nat->Bool,(∀p∈before,sp p.block=true)->DataW.TrodVars enc P W' sp s.vars (s.fn H (ds++gs)).vars pv)
  (hps:before=pa++pv) (hb:Below W.heap.size W W')
  (hok: ∀(j:Nat) (t:TypeId) (r:Value),f.resultTypes[j]? =some t->(v.resultList f.resultTypes.size)[j]? =some r->Value.okWide P W' .any 0 t r):
  s.post enc P f apart fresh handsOn again W args v W':=by
 have hlt: ∀p∈before,p.block<W.heap.size:=fun p hp=>hW.lt p hp;have hold: ∀p∈before,(fun b=>decide (b<W.heap.size)) p.block=true:=fun p hp=>by simpa using hlt p hp
 refine ⟨ds,gs,before,[],pa,pv,hW,hres _ _ _,hargs _ hold,hvars _ hold,World.keptBut_mono (fun p hp=>⟨hp,?_⟩) (hb.frame (· ∈before)),fun _=> ?_⟩;rw [hps,List.mem_append] at hp;exact Or.inr hp;obtain ⟨_,_,_,_,_,hz,hn⟩:=hW;refine ⟨hok,_,_,([]++pa)++pv,⟨[]++pa,pv,trodAll_append (hargs _ (fun _ _=>rfl)) (hres _ _ _),hvars _ (fun _ _=>rfl),rfl,?_,?_⟩,?_⟩;intro b off hp;have hin:MemPlace.cell b off∈before:=by rw [hps];simpa using hp
 rw [hb.frozen (hlt _ hin)];exact hz b off hin;intro ha;have:=hn ha;rw [hps] at this;simpa using this;intro p hp _;rw [hps];simpa using hp
end
theorem Qbnk:Nat.beq (Tryd.prog.cellsOf 33) lg.d4.length=true:=by kernel_rfl
theorem Qbc1:flat Tryd.prog 4 33=some lg.d4:=by kernel_rfl
theorem Q84:Nat.beq (Tryd.prog.cellsOf 61) e4.length=true:=by kernel_rfl
theorem Qbc2:flat Tryd.prog 4 61=some e4:=by kernel_rfl
theorem Q07:flat Tryd.prog 4 30=some [.i .u16,.i .u16,.i .u8,.b]:=by kernel_rfl
theorem Qbab:Ev.isAgg Tryd.prog 30=true:=by kernel_rfl
theorem Qbc0:flat Tryd.prog 4 22=some [.i .u32]:=by kernel_rfl
theorem Q05:flat Tryd.prog 4 24=some [.i .u64]:=by kernel_rfl
theorem Q06:flat Tryd.prog 4 3=some [.i .i64]:=by kernel_rfl
theorem Qbdy:Tryd.prog.cellTypes Tryd.prog.depth 26=some [22,23,3,24,24,3]:=by kernel_rfl
theorem Qbnj:Nat.beq (Tryd.prog.cellsOf 26) 6=true:=by kernel_rfl
theorem Qbkl:Nat.beq (Tryd.prog.cellsOf 22) 1=true:=by kernel_rfl
theorem Qbkm:Nat.beq (Tryd.prog.cellsOf 23) 1=true:=by kernel_rfl
theorem Q7b:Nat.beq (Tryd.prog.cellsOf 24) 1=true:=by kernel_rfl
theorem one3:Nat.beq (Tryd.prog.cellsOf 3) 1=true:=by kernel_rfl
theorem Qbkk {P:Program} {W:World} {r:Reach} {b:Nat} {t:TypeId} {fs:Array Field} {v:Value} (ht:P.underlying t=some (.struct fs)) (h:Value.okWide P W r b t v): ∃cs,v=.agg cs/\cs.size=P.cellsOf t/\Row.okWide P W r b t cs:=by
 simp only [Value.okWide,ht] at h;exact h
theorem Qbkj {P:Program} {W:World} {r:Reach} {b:Nat} {t e:TypeId} {v:Value} (ht:P.underlying t=some (.slice e)) (h:Cell.okWide P W r b t v):Value.okWide P W r b t v:=by
 simp only [Value.okWide,ht];exact h
theorem Qbn7 {H:Type} {enc:TypeId×Value->H} {P:Program} {W:World} {b:Nat} {sp:Nat->Bool} {held:Bool} {fuel:Nat} {t:TypeId} {fs:Array Field} {l:List Value} {x:DataW H×List MemPlace} (ht:P.underlying t=some (.struct fs)) (h:DataW.trod enc P W b sp held fuel t l=some x):
  ∃m,∀(i:Nat) (f:Field) (c:Value),fs[i]? =some f->f.offset=i->Nat.beq (P.cellsOf f.type) 1=true->l[i]? =some c-> ∃y,DataW.trod enc P W b sp held m f.type [c]=some y:=by
 obtain ⟨xs,m,rfl,rfl,hl,hxl,hf⟩:=DataW.trod_struct ht h;refine ⟨m,fun i f c h1 h2 h3 h4=> ?_⟩;have h5:=hf i f h1;have hi:i<fs.size:=(Array.getElem?_eq_some_iff.1 h1).1;rw [List.getElem?_eq_getElem (by omega),h2,Nat.eq_of_beq_eq_true h3] at h5;have h6:(l.drop i).take 1=[c]:=by
  obtain ⟨q,rfl⟩:=List.getElem?_eq_some_iff.1 h4;rw [List.drop_eq_getElem_cons q];rfl
 rw [h6] at h5;exact ⟨_,h5⟩
theorem Qn6 {H:Type} {enc:TypeId×Value->H} {W:World} {t:TypeId} {k:IntKind} {m:Nat} {x:Value} {y:DataW H×List MemPlace} (hf:flat Tryd.prog 4 t=some [.i k])
  (h:DataW.trod enc Tryd.prog W 0 (fun _=>true) true m t [x]=some y): ∃a,x=.int k a/\k.wrap a=a:=by
 obtain ⟨⟨l,i,e⟩,_⟩:=Qin 4 hf h
 match l,i with
 |[a],⟨h1,_⟩=>
  have h1:k.wrap a=a:=h1;refine ⟨a,?_,h1⟩;have e:[x]=[.int k (k.wrap a)]:=e;rw [h1] at e;exact (List.cons.inj e).1
theorem Qbks {H:Type} {enc:TypeId×Value->H} {W:World} {base:Nat} {v:Value} {d:DataW H} {ps:List MemPlace} (hv:Value.okWide Tryd.prog W .any base 26 v) (hd:DataW.Trod enc Tryd.prog W 0 (fun _=>true) true 26 v d ps):
  ∃(a0 a2 a3 a4 a5:Int) (s:Value) (X:Fz),v=.agg #[.int .u32 a0,s,.int .i64 a2,.int .u64 a3,.int .u64 a4,.int .i64 a5]/\IntKind.u32.wrap a0=a0/\IntKind.i64.wrap a2=a2/\IntKind.u64.wrap a3=a3/\IntKind.u64.wrap a4=a4/\IntKind.i64.wrap a5=a5/\RowV W e4 s X/\SlcV W 4 s:=by
 obtain ⟨fuel,hd⟩:=hd;obtain ⟨⟨l⟩,rfl,hz,ts,ht,hn,hr⟩:=Qbkk Tryd.underlying26 hv;obtain rfl:=Option.some.inj (Qbdy.symm.trans ht);have hz:l.length=6:=hz.trans (Nat.eq_of_beq_eq_true Qbnj)
 match l,hz with
 |[x0,x1,x2,x3,x4,x5],_=>
  obtain ⟨m,hf⟩:=Qbn7 (l:=[x0,x1,x2,x3,x4,x5]) Tryd.underlying26 hd;obtain ⟨y0,q0⟩:=hf 0 _ x0 rfl rfl Qbkl rfl;obtain ⟨y1,q1⟩:=hf 1 _ x1 rfl rfl Qbkm rfl;obtain ⟨y2,q2⟩:=hf 2 _ x2 rfl rfl one3 rfl;obtain ⟨y3,q3⟩:=hf 3 _ x3 rfl rfl Q7b rfl;obtain ⟨y4,q4⟩:=hf 4 _ x4 rfl rfl Q7b rfl;obtain ⟨y5,q5⟩:=hf 5 _ x5 rfl rfl one3 rfl;obtain ⟨a0,rfl,w0⟩:=Qn6 Qbc0 q0;obtain ⟨a2,rfl,w2⟩:=Qn6 Q06 q2;obtain ⟨a3,rfl,w3⟩:=Qn6 Q05 q3;obtain ⟨a4,rfl,w4⟩:=Qn6 Q05 q4;obtain ⟨a5,rfl,w5⟩:=Qn6 Q06 q5;obtain ⟨u,hu,hc⟩:=hr 1 x1 rfl;obtain rfl:23=u:=Option.some.inj hu;have hc:=Qbkj Tryd.underlying23 hc;obtain ⟨ao,len,cap,rfl⟩:=Go.WideShapes.okWide_slice Tryd.underlying23 hc;have hd1:DataW.Trod enc Tryd.prog W 0 (fun _=>true) true 23 (.slice ao len cap) y1.1 y1.2:=⟨m,q1⟩;obtain ⟨X,hR⟩:=Q7c (cl:=e4) Tryd.underlying23 Qbc2 Q84 rfl hc hd1;exact ⟨a0,a2,a3,a4,a5,_,X,rfl,w0,w2,w3,w4,w5,hR.row,Qbkr Tryd.underlying23 (Nat.eq_of_beq_eq_true Q84) (by decide) hc hd1⟩
theorem Qbob {l:List Int} (i:InR [.i .u16,.i .u16,.i .u8,.b] l): ∃(b0 b1 b2:Int) (bb:Bool),Qq [.i .u16,.i .u16,.i .u8,.b] l=[.int .u16 b0,.int .u16 b1,.int .u8 b2,.bool bb]/\IntKind.u16.wrap b0=b0/\IntKind.u16.wrap b1=b1/\IntKind.u8.wrap b2=b2:=by
 match l,i with
 |[a,b,c,d],⟨g1,g2,g3,_⟩=>
  have g1:IntKind.u16.wrap a=a:=g1;have g2:IntKind.u16.wrap b=b:=g2;have g3:IntKind.u8.wrap c=c:=g3;exact ⟨a,b,c,!(d==0),by simp [Qq,encC,g1,g2,g3],g1,g2,g3⟩
theorem lifted (os:Os) (started:os.Started) (H:Type) (enc:TypeId×Value->H):
  ReturnsInHanded {} Tryd.checked os 3 .any (fun w args=>(Rows.logTellsSpec.pre enc Tryd.prog Tryd.f3 [] false w args/\laidMetH Tryd.prog laid w)/\sizedMet enc Tryd.prog Tryd.f3 (OpenSpec.ofChange Rows.logTellsSpec) false w args) (Rows.logTellsSpec.post enc Tryd.prog Tryd.f3 false true false false):=by
 refine returnsInHanded_of_change_and (C:=Tryd.checked) (X:=fun w _=>laidMetH Tryd.prog laid w) (fun _ _ _ hh h=>h.of_heap hh) own started (by kernel_rfl) Tryd.func3
  (ChangeSpec.witness_at (enc:=enc) (C:=Tryd.checked) (os:=os) (X:=fun w _=>laidMetH Tryd.prog laid w) false (Q17 os) #[.agg #[.int .u32 0,.slice none 0 0,.int .i64 0,.int .u64 0,.int .u64 0,.int .i64 0],.slice none 0 0,.agg #[.int .u16 0,.int .u16 0,.int .u8 0,.bool false]] 8 rfl (by kernel_rfl) (by kernel_rfl) (by kernel_rfl) (by kernel_rfl) (by kernel_rfl) (Qbdz os _)) ?_
 intro W base args ds gs before hval0 hW _ _ hL _;have hval: ∀(j:Nat) t v,Tryd.f3.params[j]? =some t->args[j]? =some v->Value.okWide Tryd.prog W .any base t v:=hval0;have hW':=hW;obtain ⟨p,q,hA0,hVv,rfl,hfz,hnd⟩:=hW;have hA:DataW.TrodAll enc Tryd.prog W 0 (fun _=>true) true Tryd.f3.params.toList args.toList ds p:=hA0;rw [Tryd.params3] at hA hval;obtain ⟨v0,vs0,d0,ds0,p0,q0,hargs,rfl,rfl,h0,r0⟩:=trodAll_cons hA;obtain ⟨v1,vs1,d1,ds1,p1,q1,rfl,rfl,rfl,h1,r1⟩:=trodAll_cons r0;obtain ⟨v2,vs2,d2,ds2,p2,q2,rfl,rfl,rfl,h2,r2⟩:=trodAll_cons r1;obtain ⟨rfl,rfl,rfl⟩:=trodAll_nil r2;obtain rfl:args= #[v0,v1,v2]:=by cases args;simp_all
 obtain ⟨rfl,rfl⟩:=trodVars_none hVv;obtain ⟨a0,a2,a3,a4,a5,s,X,rfl,w0,w2,w3,w4,w5,hX,hs⟩:=Qbks (hval 0 26 v0 rfl rfl) h0;obtain ⟨X1,R1⟩:=Q7c (cl:=lg.d4) Tryd.underlying27 Qbc1 Qbnk rfl (hval 1 27 v1 rfl rfl) h1;obtain ⟨l2,i2,rfl,rfl⟩:=Qbkq Q07 Qbab (hval 2 30 v2 rfl rfl) h2;clear hA0 hval0;simp only [List.append_nil] at hW';obtain ⟨b0,b1,b2,bb,hb,k0,k1,k2⟩:=Qbob i2;have hw:=walk W hL s v1 X X1 hX hs R1.row a0 a2 a3 a4 a5 b0 b1 b2 bb w0 w2 w3 w4 w5 k0 k1 k2;have hlt: ∀x∈p0++p1,x.block<W.heap.size:=fun x hx=>hW'.lt x (by simpa using hx);have hb:(Qq [.i .u16,.i .u16,.i .u8,.b] l2).toArray= #[.int .u16 b0,.int .u16 b1,.int .u8 b2,.bool bb]:=by rw [hb]
 rw [<-hb] at hw;refine hw.mono fun e W' ⟨he,hg⟩=> ?_;subst he;exact ⟨_,rfl,Qbk4 (pa:=p0++(p1++([]++([])))) (pv:=[]) hW' (fun _ _ _=>(trodAll_cons_mk (shut_bool Tryd.underlying4 _) trodAll_mk0)) (fun sp hsp=>(trodAll_cons_mk (Go.WideElems.Trod_stays (by kernel_rfl) (by kernel_rfl) (of_decide_eq_true (by kernel_rfl)) h0 (fun x hx=>hg.same (hlt x (by simp [hx]))) (fun z hz=>hsp z (by simp [hz]))) (trodAll_cons_mk (R1.again W' hg sp (fun z hz=>hsp z (by simp [hz]))) (trodAll_cons_mk (Qbni Q07 h2) trodAll_mk0)))) (fun _ _=>rfl) (by simp)
  hg (ok_one (by kernel_rfl) rfl (okWide_bool_mk Tryd.underlying4 _))⟩
theorem over:Rows.logTellsRow.holds Tryd.pinned (OpenSpec.ofChange Rows.logTellsSpec):=
 OpenClaim.holds_of_wide 3 Tryd.f3 rfl rfl rfl rfl rfl rfl rfl ⟨rfl,rfl,rfl,rfl,rfl⟩ rfl rfl rfl rfl rfl (by kernel_rfl) Tryd.func3 (by kernel_rfl)
  (of_decide_eq_true (by kernel_rfl)) (by unfold Func.isWrapper;first|(rw [if_pos (by decide+kernel)];kernel_rfl)|(rw [if_neg (by decide+kernel)];exact ⟨rfl,rfl⟩))
  (fun os started H enc _=>lifted os started H enc)
theorem proved:Rows.LogTellsCardSaid:=
 Claim7.holds_tied_plain_at .later [] [.handle] true (true, "f7320017d8dbac5bf9390de536c7a94b842b6469bd8c9c4a50570fa0399e2027") true
  over (fun _ h=>by cases h) (by kernel_rfl) (fun _ h=>by cases h) logTells_row_tie rfl ⟨rfl,rfl⟩ (by kernel_rfl) rfl
  (fun f fn hf hfn=>by
   obtain rfl:f=3:=Option.some.inj ((show Tryd.prog.funcNamed "plover/ploverlaw26.LogTells" =some 3 by kernel_rfl).symm.trans hf)|>.symm;obtain rfl:fn=Tryd.f3:=(Option.some.inj (Tryd.func3.symm.trans hfn)).symm;exact ⟨by kernel_rfl,fun j t ht=>by
    rw [Tryd.params3] at ht;rcases j with _|_|_|j
    obtain rfl:t=26:=by simpa using ht.symm
    exact (show Tryd.prog.wantsStandIn 26=false by kernel_rfl);obtain rfl:t=27:=by simpa using ht.symm
    exact (show Tryd.prog.wantsStandIn 27=false by kernel_rfl);obtain rfl:t=30:=by simpa using ht.symm
    exact (show Tryd.prog.wantsStandIn 30=false by kernel_rfl);simp at ht⟩)
  (by kernel_rfl)
#print axioms proved
end Go.Proofs.YtelimhjceiamcaaDoor.logTells
