/-
 Contracts of log's reader: of bytes that are a log's; of others: it panics.
 No conditions.
-/
import Derived.Test.YtelimhjceiamcaaDoorRLg32b
import Derived.Test.YtelimhjceiamcaaDoorRLgs
namespace Go.Proofs.YtelimhjceiamcaaDoor.lg
open Go.Ev Go.RowKit Go.Wbp Go.Lgp
open Go.Proofs.YtelimhjceiamcaaDoor.lgn (mixed sf48 Qbt)
set_option linter.unusedVariables false
set_option linter.unusedSimpArgs false
theorem Qwa {x b r s:Int} (h0:0<=x) (h1:x<16777216) (hb0:0<=b) (hb:b<256) (hs:s=IntKind.u32.wrap (x*256)) (hr:r=IntKind.u32.wrap ((BitVec.ofInt IntKind.u32.bits s|||BitVec.ofInt IntKind.u32.bits b).toNat:Int)):r=x*256+b:=by
 rw [Qef] at hs
 rw [hr,hs]
 show IntKind.u32.wrap ((BitVec.ofInt 32 (x*256%4294967296)|||BitVec.ofInt 32 b:BitVec 32).toNat:Int)=_
 rw [Qef,BitVec.toNat_or,BitVec.toNat_ofInt,BitVec.toNat_ofInt]
 have e1:((x*256%4294967296)%(2^32:Nat)).toNat=2^8*x.toNat:=by omega
 have e2:(b%(2^32:Nat)).toNat=b.toNat:=by omega
 rw [e1,e2,<-Nat.two_pow_add_eq_or_of_lt (by omega:b.toNat<2^8)]
 omega
theorem Qbjd {b r:Int} (hb0:0<=b) (hb:b<256) (hr:r=IntKind.u32.wrap ((BitVec.ofInt IntKind.u32.bits 0|||BitVec.ofInt IntKind.u32.bits b).toNat:Int)):r=b:=by
 rw [hr]
 show IntKind.u32.wrap ((BitVec.ofInt 32 0|||BitVec.ofInt 32 b:BitVec 32).toNat:Int)=_
 rw [Qef,BitVec.toNat_or,BitVec.toNat_ofInt,BitVec.toNat_ofInt]
 have e1:((0:Int)%(2^32:Nat)).toNat=0:=by decide
 rw [e1,Nat.zero_or]
 omega
set_option maxHeartbeats 4000000 in
theorem st32 {W0:Fra} {Z:Exit->Act->World->Prop} {E:Nat->Option Fz} {S:ByteArray} (sz:S.size<=1000000) (hE:Ends W0 Z E S) (hpA: ∀i,W0.pin i≠none->pinW i Q29=true) (hpB: ∀i,W0.pin i≠none->pinW i Quu=true) (hpC: ∀i,W0.pin i≠none->pinW i Quv=true):
  Qg Tryd.prog Qa 84 W0 Z (Qe (Qc Tryd.f32)) Q4y 1 [none] (fun V=>V.s 0=S/\V.ext=E):=by
 rw [show Qe (Qc Tryd.f32)=(Qe (Qc Tryd.f32)).take 4++(.block 0 (.loop (Qbs (Qc Tryd.f32)))::(Qe (Qc Tryd.f32)).drop 5) from rfl]
 have hC: ∀img,Qg Tryd.prog Qa 84 W0 Z ((Qe (Qc Tryd.f32)).drop 5) Qea 10 Qf0 (fun V=> ∃f a last es,J32 E S img a f last es 255 V):=by
  intro img a w V hA hi hj ht
  obtain ⟨f,p,last,es,hj⟩:=hj
  exact Qbl6 hE hpC a w V hA hi hj ht
 have hL: ∀img,Qg Tryd.prog Qa 84 W0 Z (.block 0 (.loop (Qbs (Qc Tryd.f32)))::(Qe (Qc Tryd.f32)).drop 5) Qea 10 Qf0 (fun V=> ∃f a k last es,J32 E S img a f last es k V):=fun img=>
  Qg.loopS (μ:=fun V=>(1000001-V.i 1).toNat) (fun kk=>Qbl5 hE hpB (hC img) kk)
 refine Qg.seg (S2:=Qea) (q2:=10) (ins2:=Qf0) (J2:=fun V=> ∃f a k last es,J32 E S (((bAt S 3*256+bAt S 4)*256+bAt S 5)*256+bAt S 6) a f last es k V) mixed Qbfu ⟨rfl,rfl⟩ (fun V U ag h=>⟨by rw [<-(ag.val 0 (by decide)).2.2];exact h.1,by rw [<-ag.ext];exact h.2⟩) (fun U h=>Qq) (hL _) (fun U e ht hi hj=> ?_) hpA
 obtain ⟨hs,hx⟩:=hj
 refine Qm ?_
 have c0:=Qd S 0
 have c1:=Qd S 1
 have c2:=Qd S 2
 have c3:=Qd S 3
 have c4:=Qd S 4
 have c5:=Qd S 5
 have c6:=Qd S 6
 have c7:=Qd S 7
 have F:Facs U 1 Qmj:=facs e
 dsimp only [Qmj,Facs,fac1,facI,facS,facB,oI,oK,oB,oS,nmL,nm,Nat.reduceAdd] at F
 obtain ⟨i1,b2,i3,b4,b5,i6,b7,b8,i9,b10,b11,i12,b13,b14,i15,b16,b17,i18,b19,b20,i21,b22,b23,b24,i25,i26,-,-,i29,b30,b31,i32,-,i34,-,-,-,-,-,-,i41,b42,b43,i44,-,i46,-,-,-,-,i51,b52,b53,i54,-,i56,-,i58,b59,b60,i61,i62,b63,b64,b65,b66,-⟩:=F
 have i27:U.i 27=IntKind.u32.wrap (BitVec.ofInt IntKind.u32.bits (0)|||BitVec.ofInt IntKind.u32.bits (U.i 26)).toNat:=eqI (e.at 26 _ rfl rfl) rfl
 have i28:U.i 28=IntKind.u32.wrap (U.i 27*256):=(eqI (x:=IntKind.u32.wrap (U.i 27*2^(min (8:Int).toNat IntKind.u32.bits))) (e.at 27 _ rfl rfl) rfl).trans (by rw [show (2:Int)^(min (8:Int).toNat IntKind.u32.bits)=256 by decide])
 have i35:U.i 35=IntKind.u32.wrap (BitVec.ofInt IntKind.u32.bits (U.i 28)|||BitVec.ofInt IntKind.u32.bits (U.i 34)).toNat:=eqI (e.at 34 _ rfl rfl) rfl
 have i40:U.i 40=IntKind.u32.wrap (U.i 35*256):=(eqI (x:=IntKind.u32.wrap (U.i 35*2^(min (8:Int).toNat IntKind.u32.bits))) (e.at 39 _ rfl rfl) rfl).trans (by rw [show (2:Int)^(min (8:Int).toNat IntKind.u32.bits)=256 by decide])
 have i47:U.i 47=IntKind.u32.wrap (BitVec.ofInt IntKind.u32.bits (U.i 40)|||BitVec.ofInt IntKind.u32.bits (U.i 46)).toNat:=eqI (e.at 46 _ rfl rfl) rfl
 have i50:U.i 50=IntKind.u32.wrap (U.i 47*256):=(eqI (x:=IntKind.u32.wrap (U.i 47*2^(min (8:Int).toNat IntKind.u32.bits))) (e.at 49 _ rfl rfl) rfl).trans (by rw [show (2:Int)^(min (8:Int).toNat IntKind.u32.bits)=256 by decide])
 have i57:U.i 57=IntKind.u32.wrap (BitVec.ofInt IntKind.u32.bits (U.i 50)|||BitVec.ofInt IntKind.u32.bits (U.i 56)).toNat:=eqI (e.at 56 _ rfl rfl) rfl
 rw [hs] at i1 i6 i12 i18 i25 i32 i44 i54 i61
 rw [Qh] at i3 i9 i15 i21 i29 i41 i51 i58
 have e26:U.i 26=bAt S 3:=by rw [Qef] at i26;omega
 have e34:U.i 34=bAt S 4:=by rw [Qef] at i34;omega
 have e46:U.i 46=bAt S 5:=by rw [Qef] at i46;omega
 have e56:U.i 56=bAt S 6:=by rw [Qef] at i56;omega
 have e27:U.i 27=bAt S 3:=Qbjd c3.1 c3.2 (by rw [i27,e26])
 have e35:U.i 35=bAt S 3*256+bAt S 4:=Qwa (s:=U.i 28) (by omega) (by omega) c4.1 c4.2 (by rw [i28,e27]) (by rw [i35,e34])
 have e47:U.i 47=(bAt S 3*256+bAt S 4)*256+bAt S 5:=Qwa (s:=U.i 40) (by omega) (by omega) c5.1 c5.2 (by rw [i40,e35]) (by rw [i47,e46])
 have e57:U.i 57=((bAt S 3*256+bAt S 4)*256+bAt S 5)*256+bAt S 6:=Qwa (s:=U.i 50) (by omega) (by omega) c6.1 c6.2 (by rw [i50,e47]) (by rw [i57,e56])
 have e62:U.i 62=bAt S 7:=by rw [Qh] at i62;omega
 clear i26 i27 i28 i34 i35 i40 i46 i47 i50 i56 i57 i62
 refine ⟨fun f2=> ?_,fun f2=> ?_⟩<;>simp only [b2,sb] at f2
 ·refine ⟨fun f4=> ?_,fun f4=> ?_⟩<;>simp only [b4,sb] at f4
  ·refine .inr ⟨by simp,hE.2 _ (Q7 (p:=0) hs hx ?_ rfl)⟩
   ·exact Qdm (Qpl (by omega))
  ·refine ⟨fun f5=> ?_,fun f5=> ?_⟩<;>simp only [b5,sb] at f5
   ·refine ⟨fun f8=> ?_,fun f8=> ?_⟩<;>simp only [b8,b7,sb] at f8
    ·refine .inr ⟨by simp,hE.2 _ (Q7 (p:=0) hs hx ?_ rfl)⟩
     ·exact Qdm (Qpl (by omega))
    ·refine ⟨fun f10=> ?_,fun f10=> ?_⟩<;>simp only [b10,sb] at f10
     ·refine .inr ⟨by simp,hE.2 _ (Q7 (p:=1) hs hx ?_ rfl)⟩
      ·exact Qdm (Qpm (by omega) (by omega) (by omega))
     ·refine ⟨fun f11=> ?_,fun f11=> ?_⟩<;>simp only [b11,sb] at f11
      ·refine ⟨fun f14=> ?_,fun f14=> ?_⟩<;>simp only [b14,b13,sb] at f14
       ·refine .inr ⟨by simp,hE.2 _ (Q7 (p:=1) hs hx ?_ rfl)⟩
        ·exact Qdm (Qpm (by omega) (by omega) (by omega))
       ·refine ⟨fun f16=> ?_,fun f16=> ?_⟩<;>simp only [b16,sb] at f16
        ·refine .inr ⟨by simp,hE.2 _ (Q7 (p:=2) hs hx ?_ rfl)⟩
         ·exact Qdm (Qpn (by omega) (by omega) (by omega) (by omega))
        ·refine ⟨fun f17=> ?_,fun f17=> ?_⟩<;>simp only [b17,sb] at f17
         ·refine ⟨fun f20=> ?_,fun f20=> ?_⟩<;>simp only [b20,b19,sb] at f20
          ·refine .inr ⟨by simp,hE.2 _ (Q7 (p:=2) hs hx ?_ rfl)⟩
           ·exact Qdm (Qpn (by omega) (by omega) (by omega) (by omega))
          ·refine ⟨fun f22=> ?_,fun f22=> ?_⟩<;>simp only [b22,sb] at f22
           ·refine .inr ⟨by simp,hE.2 _ (Q7 (p:=3) hs hx ?_ rfl)⟩
            ·have hh:=Qi9 (S:=S) (by omega) (by omega) (by omega) (by omega)
             rw [if_pos (by omega)] at hh
             exact Qdm hh
           ·refine ⟨fun f23=> ?_,fun f23=> ?_⟩<;>simp only [b23,sb] at f23
            ·omega
            ·refine ⟨fun f24=> ?_,fun f24=> ?_⟩<;>simp only [b24,sb] at f24
             ·refine ⟨fun f30=> ?_,fun f30=> ?_⟩<;>simp only [b30,sb] at f30
              ·omega
              ·refine ⟨fun f31=> ?_,fun f31=> ?_⟩<;>simp only [b31,sb] at f31
               ·refine ⟨fun f42=> ?_,fun f42=> ?_⟩<;>simp only [b42,sb] at f42
                ·omega
                ·refine ⟨fun f43=> ?_,fun f43=> ?_⟩<;>simp only [b43,sb] at f43
                 ·refine ⟨fun f52=> ?_,fun f52=> ?_⟩<;>simp only [b52,sb] at f52
                  ·omega
                  ·refine ⟨fun f53=> ?_,fun f53=> ?_⟩<;>simp only [b53,sb] at f53
                   ·refine ⟨fun f59=> ?_,fun f59=> ?_⟩<;>simp only [b59,sb] at f59
                    ·refine .inr ⟨by simp,hE.2 _ (Q7 (p:=7) hs hx ?_ rfl)⟩
                     ·have hh:=Qi9 (S:=S) (by omega) (by omega) (by omega) (by omega)
                      rw [if_neg (by omega)] at hh
                      rw [Qri hh]
                      exact Qj5 (Qjd (by omega))
                    ·refine ⟨fun f60=> ?_,fun f60=> ?_⟩<;>simp only [b60,sb] at f60
                     ·refine ⟨fun f66=> ?_,fun f66=> ?_⟩<;>simp only [b66,b65,b63,b64,sb] at f66
                      ·refine .inr ⟨by simp,hE.2 _ (Q7 (p:=7) hs hx ?_ rfl)⟩
                       ·have hh:=Qi9 (S:=S) (by omega) (by omega) (by omega) (by omega)
                        rw [if_neg (by omega)] at hh
                        rw [Qri hh]
                        exact Qj5 (Qjd (by omega))
                      ·have hh:=Qi9 (S:=S) (by omega) (by omega) (by omega) (by omega)
                       rw [if_neg (by omega)] at hh
                       have hk:=Qdd (S:=S) (a:=7) (by omega) (by omega)
                       refine .inl ⟨rfl,rfl,insK (X:=Qut) e hi,⟨S.size,8,bAt S 7,noE,[],hs,rfl,e57,rfl,rfl,rfl,rfl,rfl,rfl,e62,by decide,by omega,sz,(by decide),(by decide),(by decide),by omega,(by decide),by omega,?_,extS hx⟩,tabS ht⟩
                       rw [Qri hh,Qde hk]
                       rfl
                     ·omega
                   ·omega
                 ·omega
               ·omega
             ·omega
         ·omega
      ·omega
   ·omega
 ·omega
def L32:Asg:=[(4,.w 4),(3,.i 3),(5,.i 5),(6,.u 6),(7,.u 7),(8,.i 8),(0,.s 0),(2,.s 2),(3,.i 3),(4,.w 4),(3,.i 3),(5,.i 5),(6,.u 6),(7,.u 7),(8,.i 8)]
theorem EndZ.none {tab:TabF} {n:Nat} {W0:Fra} {Z:Exit->Act->World->Prop} {x:SEx} {s:Shape} {V:Sig} (h:False):EndZ tab n W0 Z x s V:=h.elim
theorem Q0t {S:ByteArray} {l:Lg} (h:par S=.ok l):0<=l.img/\l.img<4294967296/\0<=l.cyc/\l.cyc<=1073741824/\0<=l.ret/\l.ret<=1099511627776/\0<=l.br/\l.br<=1099511627776/\0<=l.out/\l.out<=6:=by
 obtain ⟨⟨h1,_,_,h4,h5,h6,h7⟩,h8,h9⟩:=Q6n h
 rw [Qg7] at h1
 omega
theorem c32:SymFOk Tryd.prog Qa (fun _=>True) sf32:=
 Qb2 Tryd.func32 rfl (n:=84) rfl (by decide) (by decide) rfl rfl (by kernel_rfl) (fun g w hg _ hE hI hpc hH=>by
  have q0:=hpc (.bin .leq (.symi .i64 1) (.int .i64 1000000)) (by simp [sf32])
  have q1:=hpc (.fnb 576 [.syms 0]) (by simp [sf32])
  have g1:g.sig.i 1=((g.sig.s 0).size:Nat):=Qel (hE.at 0 _ rfl rfl)
  simp only [Qb,den,binS,intA,if_true,Option.some.injEq,AVal.bool.injEq,decide_eq_true_eq] at q0
  have q1:(!(g.sig.tab 576 [encB (g.sig.s 0)]==0))=true:=by
   simp only [Qb,List.map,den,numS,Option.some.injEq,AVal.bool.injEq] at q1
   exact q1
  rw [hg,lg_ok] at q1
  have g2:g.sig.s 2=decS (g.sig.tab 578 [encB (g.sig.s 0)]):=eqFs (hE.at 1 _ rfl rfl)
  have g3:g.sig.i 3=IntKind.i64.wrap (g.sig.tab 579 [encB (g.sig.s 0)]):=eqFn (hE.at 2 _ rfl rfl)
  have g4:g.sig.i 4=IntKind.u32.wrap (g.sig.tab 580 [encB (g.sig.s 0)]):=eqFn (hE.at 3 _ rfl rfl)
  have g5:g.sig.i 5=IntKind.i64.wrap (g.sig.tab 581 [encB (g.sig.s 0)]):=eqFn (hE.at 4 _ rfl rfl)
  have g6:g.sig.i 6=IntKind.u64.wrap (g.sig.tab 582 [encB (g.sig.s 0)]):=eqFn (hE.at 5 _ rfl rfl)
  have g7:g.sig.i 7=IntKind.u64.wrap (g.sig.tab 583 [encB (g.sig.s 0)]):=eqFn (hE.at 6 _ rfl rfl)
  have g8:g.sig.i 8=IntKind.i64.wrap (g.sig.tab 584 [encB (g.sig.s 0)]):=eqFn (hE.at 7 _ rfl rfl)
  obtain ⟨v3,v4,v5,v6,v7,v8⟩:=Qvc (g.sig.s 0)
  rw [hg,lg_es] at g2
  rw [hg,v3,Qh] at g3
  rw [hg,v4,Qef] at g4
  rw [hg,v5,Qh] at g5
  rw [hg,v6,Qf] at g6
  rw [hg,v7,Qf] at g7
  rw [hg,v8,Qh] at g8
  have hst:=st32 (W0:=Qw g w sf32.pre.length) (Z:=bodyPost Tryd.prog Tryd.f32 (MemR Qa sf32 g w)) (E:=g.sig.ext) (S:=g.sig.s 0) (by omega) ⟨fun V l hk=> ?_,fun V hk=>EndZ.none ?_⟩ (pin0 (by kernel_rfl)) (pin0 (by kernel_rfl)) (pin0 (by kernel_rfl))
  ·intro a w' V hA hi hj ht
   exact hst a w' V hA hi ⟨(hj.val 0 (by decide)).2.2.symm,hj.ext.symm⟩ ht
  ·have hv:(par (g.sig.s 0)).val=l:=by rw [hk.p];rfl
   rw [hv] at g2 g3 g4 g5 g6 g7 g8
   obtain ⟨b1,b2,b3,b4,b5,b6,b7,b8,b9,b10⟩:=Q0t hk.p
   have nb:=hk.nb
   have e2:V.s 2=g.sig.s 2:=by rw [hk.c,g2]
   have e3:V.i 3=g.sig.i 3:=by rw [hk.n];omega
   have e4:V.i 4=g.sig.i 4:=by rw [hk.im];omega
   have e5:V.i 5=g.sig.i 5:=by rw [hk.cy];omega
   have e6:V.i 6=g.sig.i 6:=by rw [hk.re];omega
   have e7:V.i 7=g.sig.i 7:=by rw [hk.br];omega
   have e8:V.i 8=g.sig.i 8:=by rw [hk.ou];omega
   exact Qbw (M:=9) (l:=L32) (vs:=[.agg Qqm]) (by kernel_rfl) rfl rfl hH hg rfl rfl rfl (by kernel_rfl) (by kernel_rfl) ⟨congrArg (AVal.int .u32) e4,congrArg (AVal.int .i64) e3,congrArg (AVal.int .i64) e5,congrArg (AVal.int .u64) e6,congrArg (AVal.int .u64) e7,congrArg (AVal.int .i64) e8,congrArg AVal.str hk.s,congrArg AVal.str e2,congrArg (AVal.int .i64) e3,congrArg (AVal.int .u32) e4,congrArg (AVal.int .i64) e3,congrArg (AVal.int .i64) e5,congrArg (AVal.int .u64) e6,congrArg (AVal.int .u64) e7,congrArg (AVal.int .i64) e8,trivial⟩ (by decide) hk.xe (.inl rfl)
  ·rw [hk.p] at q1
   cases q1)
def L32p:Asg:=[(0,.s 0)]
theorem c32p:SymFOk Tryd.prog Qa (fun _=>True) Qhc:=
 Qb2 Tryd.func32 rfl (n:=84) rfl (by decide) (by decide) rfl rfl (by kernel_rfl) (fun g w hg _ hE hI hpc hH=>by
  have q0:=hpc (.bin .leq (.symi .i64 1) (.int .i64 1000000)) (by simp [Qhc])
  have q1:=hpc (.fnb 585 [.syms 0]) (by simp [Qhc])
  have g1:g.sig.i 1=((g.sig.s 0).size:Nat):=Qel (hE.at 0 _ rfl rfl)
  simp only [Qb,den,binS,intA,if_true,Option.some.injEq,AVal.bool.injEq,decide_eq_true_eq] at q0
  have q1:(!(g.sig.tab 585 [encB (g.sig.s 0)]==0))=true:=by
   simp only [Qb,List.map,den,numS,Option.some.injEq,AVal.bool.injEq] at q1
   exact q1
  rw [hg,Qvb] at q1
  have g2:g.sig.i 2=IntKind.i64.wrap (g.sig.tab 577 [encB (g.sig.s 0)]):=eqFn (hE.at 1 _ rfl rfl)
  rw [hg,lg_at,Qh] at g2
  have hst:=st32 (W0:=Qw g w Qhc.pre.length) (Z:=bodyPost Tryd.prog Tryd.f32 (MemR Qa Qhc g w)) (E:=g.sig.ext) (S:=g.sig.s 0) (by omega) ⟨fun V l hk=>EndZ.none ?_,fun V hk=> ?_⟩ (pin0 (by kernel_rfl)) (pin0 (by kernel_rfl)) (pin0 (by kernel_rfl))
  ·intro a w' V hA hi hj ht
   exact hst a w' V hA hi ⟨(hj.val 0 (by decide)).2.2.symm,hj.ext.symm⟩ ht
  ·rw [hk.p] at q1
   cases q1
  ·have hp:=hk.p
   have hb:=Q6m hp
   rw [hp] at g2
   have e2:V.i 2=g.sig.i 2:=by
    rw [g2]
    obtain ⟨x1,x2⟩:=hb
    show V.i 2=(V.i 2+9223372036854775808)%18446744073709551616-9223372036854775808
    omega
   refine Qba7 (M:=3) (l:=L32p) (lv:=[(2,.symi .i64 2)]) rfl ?_ rfl hH hg rfl (by kernel_rfl) (by kernel_rfl) ⟨congrArg AVal.str hk.s,trivial⟩ (by decide) hk.xe
   intro p hp
   simp only [List.mem_cons,List.not_mem_nil,or_false] at hp
   subst hp
   refine ⟨fun k n hn=> ?_,fun b hn=>by simp [den] at hn,fun s hn=>by simp [den] at hn⟩
   simp only [den,AVal.int.injEq] at hn
   rw [<-hn.2];exact e2.symm)
end Go.Proofs.YtelimhjceiamcaaDoor.lg
