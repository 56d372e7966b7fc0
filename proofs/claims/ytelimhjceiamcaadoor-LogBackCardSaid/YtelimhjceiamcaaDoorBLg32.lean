/-
 Contracts of log's reader: of bytes that are a log's; of others: it panics.
 No conditions.
-/
import Derived.Test.YtelimhjceiamcaaDoorBLg32b
import Derived.Test.YtelimhjceiamcaaDoorBLgu
namespace Go.Proofs.YtelimhjceiamcaaDoor.lg
open Go.Ev Go.RowKit Go.Wbp Go.Lgp
open Go.Proofs.YtelimhjceiamcaaDoor.lgn (mixed sf48 Qda)
set_option linter.unusedVariables false
set_option linter.unusedSimpArgs false
theorem Qv1 {x b r s:Int} (h0:0<=x) (h1:x<16777216) (hb0:0<=b) (hb:b<256) (hs:s=IntKind.u32.wrap (x*256)) (hr:r=IntKind.u32.wrap ((BitVec.ofInt IntKind.u32.bits s|||BitVec.ofInt IntKind.u32.bits b).toNat:Int)):r=x*256+b:=by
 rw [Qem] at hs
 rw [hr,hs]
 show IntKind.u32.wrap ((BitVec.ofInt 32 (x*256%4294967296)|||BitVec.ofInt 32 b:BitVec 32).toNat:Int)=_
 rw [Qem,BitVec.toNat_or,BitVec.toNat_ofInt,BitVec.toNat_ofInt]
 have e1:((x*256%4294967296)%(2^32:Nat)).toNat=2^8*x.toNat:=by omega
 have e2:(b%(2^32:Nat)).toNat=b.toNat:=by omega
 rw [e1,e2,<-Nat.two_pow_add_eq_or_of_lt (by omega:b.toNat<2^8)]
 omega
theorem Qbgd {b r:Int} (hb0:0<=b) (hb:b<256) (hr:r=IntKind.u32.wrap ((BitVec.ofInt IntKind.u32.bits 0|||BitVec.ofInt IntKind.u32.bits b).toNat:Int)):r=b:=by
 rw [hr]
 show IntKind.u32.wrap ((BitVec.ofInt 32 0|||BitVec.ofInt 32 b:BitVec 32).toNat:Int)=_
 rw [Qem,BitVec.toNat_or,BitVec.toNat_ofInt,BitVec.toNat_ofInt]
 have e1:((0:Int)%(2^32:Nat)).toNat=0:=by decide
 rw [e1,Nat.zero_or]
 omega
set_option maxHeartbeats 4000000 in
theorem st32 {W0:Fra} {Z:Exit->Act->World->Prop} {E:Nat->Option Fz} {S:ByteArray} (sz:S.size<=1000000) (hE:Ends W0 Z E S) (hpA: ∀i,W0.pin i≠none->pinW i Q1v=true) (hpB: ∀i,W0.pin i≠none->pinW i Qug=true) (hpC: ∀i,W0.pin i≠none->pinW i Qui=true):
  Qf Tryd.prog Qa 84 W0 Z (Qe (Qc Tryd.f32)) Q20 1 [none] (fun σ=>σ.sval 0=S/\σ.ext=E):=by
 rw [show Qe (Qc Tryd.f32)=(Qe (Qc Tryd.f32)).take 4++(.block 0 (.loop (Qca (Qc Tryd.f32)))::(Qe (Qc Tryd.f32)).drop 5) from rfl]
 have hC: ∀img,Qf Tryd.prog Qa 84 W0 Z ((Qe (Qc Tryd.f32)).drop 5) Qd3 10 Qef (fun σ=> ∃f a last es,J32 E S img a f last es 255 σ):=by
  intro img a w σ hA hi hj ht
  obtain ⟨f,p,last,es,hj⟩:=hj
  exact Qbi6 hE hpC a w σ hA hi hj ht
 have hL: ∀img,Qf Tryd.prog Qa 84 W0 Z (.block 0 (.loop (Qca (Qc Tryd.f32)))::(Qe (Qc Tryd.f32)).drop 5) Qd3 10 Qef (fun σ=> ∃f a k last es,J32 E S img a f last es k σ):=fun img=>
  Qf.loopS (μ:=fun σ=>(1000001-σ.ival 1).toNat) (fun kk=>Qbi5 hE hpB (hC img) kk)
 refine Qf.seg (S2:=Qd3) (q2:=10) (ins2:=Qef) (J2:=fun σ=> ∃f a k last es,J32 E S (((bAt S 3*256+bAt S 4)*256+bAt S 5)*256+bAt S 6) a f last es k σ) mixed Qbcy ⟨rfl,rfl⟩ (fun σ τ ag h=>⟨by rw [<-(ag.val 0 (by decide)).2.2];exact h.1,by rw [<-ag.ext];exact h.2⟩) (fun τ h=>Qbe) (hL _) (fun τ e ht hi hj=> ?_) hpA
 obtain ⟨hs,hx⟩:=hj
 refine Q6 ?_
 have c0:=Qd S 0
 have c1:=Qd S 1
 have c2:=Qd S 2
 have c3:=Qd S 3
 have c4:=Qd S 4
 have c5:=Qd S 5
 have c6:=Qd S 6
 have c7:=Qd S 7
 have i1:τ.ival 1=((τ.sval 0).size:Nat):=Qbm (e.at 0 _ rfl rfl)
 have b2:τ.bval 2=decide (τ.ival 1<=1000000):=eqB (e.at 1 _ rfl rfl) rfl
 have i3:τ.ival 3=IntKind.i64.wrap (τ.ival 1-0):=eqI (e.at 2 _ rfl rfl) rfl
 have b4:τ.bval 4=((τ.ival 3:Int)==0):=eqB (e.at 3 _ rfl rfl) rfl
 have b5:τ.bval 5=decide ((0:Int)<τ.ival 1):=eqB (e.at 4 _ rfl rfl) rfl
 have i6:τ.ival 6=bAt (τ.sval 0) (0):=eqAt (e.at 5 _ rfl rfl) rfl
 have b7:τ.bval 7=((τ.ival 6:Int)==80):=eqB (e.at 6 _ rfl rfl) rfl
 have b8:τ.bval 8= !(τ.bval 7):=eqB (e.at 7 _ rfl rfl) rfl
 have i9:τ.ival 9=IntKind.i64.wrap (τ.ival 1-1):=eqI (e.at 8 _ rfl rfl) rfl
 have b10:τ.bval 10=((τ.ival 9:Int)==0):=eqB (e.at 9 _ rfl rfl) rfl
 have b11:τ.bval 11=decide ((1:Int)<τ.ival 1):=eqB (e.at 10 _ rfl rfl) rfl
 have i12:τ.ival 12=bAt (τ.sval 0) (1):=eqAt (e.at 11 _ rfl rfl) rfl
 have b13:τ.bval 13=((τ.ival 12:Int)==76):=eqB (e.at 12 _ rfl rfl) rfl
 have b14:τ.bval 14= !(τ.bval 13):=eqB (e.at 13 _ rfl rfl) rfl
 have i15:τ.ival 15=IntKind.i64.wrap (τ.ival 1-2):=eqI (e.at 14 _ rfl rfl) rfl
 have b16:τ.bval 16=((τ.ival 15:Int)==0):=eqB (e.at 15 _ rfl rfl) rfl
 have b17:τ.bval 17=decide ((2:Int)<τ.ival 1):=eqB (e.at 16 _ rfl rfl) rfl
 have i18:τ.ival 18=bAt (τ.sval 0) (2):=eqAt (e.at 17 _ rfl rfl) rfl
 have b19:τ.bval 19=((τ.ival 18:Int)==1):=eqB (e.at 18 _ rfl rfl) rfl
 have b20:τ.bval 20= !(τ.bval 19):=eqB (e.at 19 _ rfl rfl) rfl
 have i21:τ.ival 21=IntKind.i64.wrap (τ.ival 1-3):=eqI (e.at 20 _ rfl rfl) rfl
 have b22:τ.bval 22=decide (τ.ival 21<4):=eqB (e.at 21 _ rfl rfl) rfl
 have b23:τ.bval 23=((τ.ival 21:Int)==0):=eqB (e.at 22 _ rfl rfl) rfl
 have b24:τ.bval 24=decide ((3:Int)<τ.ival 1):=eqB (e.at 23 _ rfl rfl) rfl
 have i25:τ.ival 25=bAt (τ.sval 0) (3):=eqAt (e.at 24 _ rfl rfl) rfl
 have i26:τ.ival 26=IntKind.u32.wrap (τ.ival 25):=eqI (e.at 25 _ rfl rfl) rfl
 have i27:τ.ival 27=IntKind.u32.wrap (BitVec.ofInt IntKind.u32.bits (0)|||BitVec.ofInt IntKind.u32.bits (τ.ival 26)).toNat:=eqI (e.at 26 _ rfl rfl) rfl
 have i28:τ.ival 28=IntKind.u32.wrap (τ.ival 27*256):=(eqI (x:=IntKind.u32.wrap (τ.ival 27*2^(min (8:Int).toNat IntKind.u32.bits))) (e.at 27 _ rfl rfl) rfl).trans (by rw [show (2:Int)^(min (8:Int).toNat IntKind.u32.bits)=256 by decide])
 have i29:τ.ival 29=IntKind.i64.wrap (τ.ival 1-4):=eqI (e.at 28 _ rfl rfl) rfl
 have b30:τ.bval 30=((τ.ival 29:Int)==0):=eqB (e.at 29 _ rfl rfl) rfl
 have b31:τ.bval 31=decide ((4:Int)<τ.ival 1):=eqB (e.at 30 _ rfl rfl) rfl
 have i32:τ.ival 32=bAt (τ.sval 0) (4):=eqAt (e.at 31 _ rfl rfl) rfl
 have i34:τ.ival 34=IntKind.u32.wrap (τ.ival 32):=eqI (e.at 33 _ rfl rfl) rfl
 have i35:τ.ival 35=IntKind.u32.wrap (BitVec.ofInt IntKind.u32.bits (τ.ival 28)|||BitVec.ofInt IntKind.u32.bits (τ.ival 34)).toNat:=eqI (e.at 34 _ rfl rfl) rfl
 have i40:τ.ival 40=IntKind.u32.wrap (τ.ival 35*256):=(eqI (x:=IntKind.u32.wrap (τ.ival 35*2^(min (8:Int).toNat IntKind.u32.bits))) (e.at 39 _ rfl rfl) rfl).trans (by rw [show (2:Int)^(min (8:Int).toNat IntKind.u32.bits)=256 by decide])
 have i41:τ.ival 41=IntKind.i64.wrap (τ.ival 1-5):=eqI (e.at 40 _ rfl rfl) rfl
 have b42:τ.bval 42=((τ.ival 41:Int)==0):=eqB (e.at 41 _ rfl rfl) rfl
 have b43:τ.bval 43=decide ((5:Int)<τ.ival 1):=eqB (e.at 42 _ rfl rfl) rfl
 have i44:τ.ival 44=bAt (τ.sval 0) (5):=eqAt (e.at 43 _ rfl rfl) rfl
 have i46:τ.ival 46=IntKind.u32.wrap (τ.ival 44):=eqI (e.at 45 _ rfl rfl) rfl
 have i47:τ.ival 47=IntKind.u32.wrap (BitVec.ofInt IntKind.u32.bits (τ.ival 40)|||BitVec.ofInt IntKind.u32.bits (τ.ival 46)).toNat:=eqI (e.at 46 _ rfl rfl) rfl
 have i50:τ.ival 50=IntKind.u32.wrap (τ.ival 47*256):=(eqI (x:=IntKind.u32.wrap (τ.ival 47*2^(min (8:Int).toNat IntKind.u32.bits))) (e.at 49 _ rfl rfl) rfl).trans (by rw [show (2:Int)^(min (8:Int).toNat IntKind.u32.bits)=256 by decide])
 have i51:τ.ival 51=IntKind.i64.wrap (τ.ival 1-6):=eqI (e.at 50 _ rfl rfl) rfl
 have b52:τ.bval 52=((τ.ival 51:Int)==0):=eqB (e.at 51 _ rfl rfl) rfl
 have b53:τ.bval 53=decide ((6:Int)<τ.ival 1):=eqB (e.at 52 _ rfl rfl) rfl
 have i54:τ.ival 54=bAt (τ.sval 0) (6):=eqAt (e.at 53 _ rfl rfl) rfl
 have i56:τ.ival 56=IntKind.u32.wrap (τ.ival 54):=eqI (e.at 55 _ rfl rfl) rfl
 have i57:τ.ival 57=IntKind.u32.wrap (BitVec.ofInt IntKind.u32.bits (τ.ival 50)|||BitVec.ofInt IntKind.u32.bits (τ.ival 56)).toNat:=eqI (e.at 56 _ rfl rfl) rfl
 have i58:τ.ival 58=IntKind.i64.wrap (τ.ival 1-7):=eqI (e.at 57 _ rfl rfl) rfl
 have b59:τ.bval 59=((τ.ival 58:Int)==0):=eqB (e.at 58 _ rfl rfl) rfl
 have b60:τ.bval 60=decide ((7:Int)<τ.ival 1):=eqB (e.at 59 _ rfl rfl) rfl
 have i61:τ.ival 61=bAt (τ.sval 0) (7):=eqAt (e.at 60 _ rfl rfl) rfl
 have i62:τ.ival 62=IntKind.i64.wrap (τ.ival 61):=eqI (e.at 61 _ rfl rfl) rfl
 have b63:τ.bval 63=decide (τ.ival 62<=2):=eqB (e.at 62 _ rfl rfl) rfl
 have b64:τ.bval 64=((τ.ival 61:Int)==255):=eqB (e.at 63 _ rfl rfl) rfl
 have b65:τ.bval 65=(bif τ.bval 63 then true else τ.bval 64):=Qbx (e.at 64 _ rfl rfl) rfl rfl rfl
 have b66:τ.bval 66= !(τ.bval 65):=eqB (e.at 65 _ rfl rfl) rfl
 rw [hs] at i1 i6 i12 i18 i25 i32 i44 i54 i61
 rw [Qh] at i3 i9 i15 i21 i29 i41 i51 i58
 have e26:τ.ival 26=bAt S 3:=by rw [Qem] at i26;omega
 have e34:τ.ival 34=bAt S 4:=by rw [Qem] at i34;omega
 have e46:τ.ival 46=bAt S 5:=by rw [Qem] at i46;omega
 have e56:τ.ival 56=bAt S 6:=by rw [Qem] at i56;omega
 have e27:τ.ival 27=bAt S 3:=Qbgd c3.1 c3.2 (by rw [i27,e26])
 have e35:τ.ival 35=bAt S 3*256+bAt S 4:=Qv1 (s:=τ.ival 28) (by omega) (by omega) c4.1 c4.2 (by rw [i28,e27]) (by rw [i35,e34])
 have e47:τ.ival 47=(bAt S 3*256+bAt S 4)*256+bAt S 5:=Qv1 (s:=τ.ival 40) (by omega) (by omega) c5.1 c5.2 (by rw [i40,e35]) (by rw [i47,e46])
 have e57:τ.ival 57=((bAt S 3*256+bAt S 4)*256+bAt S 5)*256+bAt S 6:=Qv1 (s:=τ.ival 50) (by omega) (by omega) c6.1 c6.2 (by rw [i50,e47]) (by rw [i57,e56])
 have e62:τ.ival 62=bAt S 7:=by rw [Qh] at i62;omega
 clear i26 i27 i28 i34 i35 i40 i46 i47 i50 i56 i57 i62
 refine ⟨fun f2=> ?_,fun f2=> ?_⟩
 ·simp only [b2,sb,beq_iff_eq] at f2
  refine ⟨fun f4=> ?_,fun f4=> ?_⟩
  ·simp only [b4,sb,beq_iff_eq] at f4
   refine .inr ⟨by simp,hE.2 _ (Q5 (p:=0) hs hx ?_ rfl)⟩
   ·exact Qh4 (Q0e (by omega))
  ·simp only [b4,sb,beq_iff_eq] at f4
   refine ⟨fun f5=> ?_,fun f5=> ?_⟩
   ·simp only [b5,sb,beq_iff_eq] at f5
    refine ⟨fun f8=> ?_,fun f8=> ?_⟩
    ·simp only [b8,b7,sb,beq_iff_eq] at f8
     refine .inr ⟨by simp,hE.2 _ (Q5 (p:=0) hs hx ?_ rfl)⟩
     ·exact Qh4 (Q0e (by omega))
    ·simp only [b8,b7,sb,beq_iff_eq] at f8
     refine ⟨fun f10=> ?_,fun f10=> ?_⟩
     ·simp only [b10,sb,beq_iff_eq] at f10
      refine .inr ⟨by simp,hE.2 _ (Q5 (p:=1) hs hx ?_ rfl)⟩
      ·exact Qh4 (Q0f (by omega) (by omega) (by omega))
     ·simp only [b10,sb,beq_iff_eq] at f10
      refine ⟨fun f11=> ?_,fun f11=> ?_⟩
      ·simp only [b11,sb,beq_iff_eq] at f11
       refine ⟨fun f14=> ?_,fun f14=> ?_⟩
       ·simp only [b14,b13,sb,beq_iff_eq] at f14
        refine .inr ⟨by simp,hE.2 _ (Q5 (p:=1) hs hx ?_ rfl)⟩
        ·exact Qh4 (Q0f (by omega) (by omega) (by omega))
       ·simp only [b14,b13,sb,beq_iff_eq] at f14
        refine ⟨fun f16=> ?_,fun f16=> ?_⟩
        ·simp only [b16,sb,beq_iff_eq] at f16
         refine .inr ⟨by simp,hE.2 _ (Q5 (p:=2) hs hx ?_ rfl)⟩
         ·exact Qh4 (Q0g (by omega) (by omega) (by omega) (by omega))
        ·simp only [b16,sb,beq_iff_eq] at f16
         refine ⟨fun f17=> ?_,fun f17=> ?_⟩
         ·simp only [b17,sb,beq_iff_eq] at f17
          refine ⟨fun f20=> ?_,fun f20=> ?_⟩
          ·simp only [b20,b19,sb,beq_iff_eq] at f20
           refine .inr ⟨by simp,hE.2 _ (Q5 (p:=2) hs hx ?_ rfl)⟩
           ·exact Qh4 (Q0g (by omega) (by omega) (by omega) (by omega))
          ·simp only [b20,b19,sb,beq_iff_eq] at f20
           refine ⟨fun f22=> ?_,fun f22=> ?_⟩
           ·simp only [b22,sb,beq_iff_eq] at f22
            refine .inr ⟨by simp,hE.2 _ (Q5 (p:=3) hs hx ?_ rfl)⟩
            ·have hh:=Qlg (S:=S) (by omega) (by omega) (by omega) (by omega)
             rw [if_pos (by omega)] at hh
             exact Qh4 hh
           ·simp only [b22,sb,beq_iff_eq] at f22
            refine ⟨fun f23=> ?_,fun f23=> ?_⟩
            ·simp only [b23,sb,beq_iff_eq] at f23
             omega
            ·simp only [b23,sb,beq_iff_eq] at f23
             refine ⟨fun f24=> ?_,fun f24=> ?_⟩
             ·simp only [b24,sb,beq_iff_eq] at f24
              refine ⟨fun f30=> ?_,fun f30=> ?_⟩
              ·simp only [b30,sb,beq_iff_eq] at f30
               omega
              ·simp only [b30,sb,beq_iff_eq] at f30
               refine ⟨fun f31=> ?_,fun f31=> ?_⟩
               ·simp only [b31,sb,beq_iff_eq] at f31
                refine ⟨fun f42=> ?_,fun f42=> ?_⟩
                ·simp only [b42,sb,beq_iff_eq] at f42
                 omega
                ·simp only [b42,sb,beq_iff_eq] at f42
                 refine ⟨fun f43=> ?_,fun f43=> ?_⟩
                 ·simp only [b43,sb,beq_iff_eq] at f43
                  refine ⟨fun f52=> ?_,fun f52=> ?_⟩
                  ·simp only [b52,sb,beq_iff_eq] at f52
                   omega
                  ·simp only [b52,sb,beq_iff_eq] at f52
                   refine ⟨fun f53=> ?_,fun f53=> ?_⟩
                   ·simp only [b53,sb,beq_iff_eq] at f53
                    refine ⟨fun f59=> ?_,fun f59=> ?_⟩
                    ·simp only [b59,sb,beq_iff_eq] at f59
                     refine .inr ⟨by simp,hE.2 _ (Q5 (p:=7) hs hx ?_ rfl)⟩
                     ·have hh:=Qlg (S:=S) (by omega) (by omega) (by omega) (by omega)
                      rw [if_neg (by omega)] at hh
                      rw [Qqu hh]
                      exact Qqr (Qo8 (by omega))
                    ·simp only [b59,sb,beq_iff_eq] at f59
                     refine ⟨fun f60=> ?_,fun f60=> ?_⟩
                     ·simp only [b60,sb,beq_iff_eq] at f60
                      refine ⟨fun f66=> ?_,fun f66=> ?_⟩
                      ·simp only [b66,b65,b63,b64,sb,beq_iff_eq] at f66
                       refine .inr ⟨by simp,hE.2 _ (Q5 (p:=7) hs hx ?_ rfl)⟩
                       ·have hh:=Qlg (S:=S) (by omega) (by omega) (by omega) (by omega)
                        rw [if_neg (by omega)] at hh
                        rw [Qqu hh]
                        exact Qqr (Qo8 (by omega))
                      ·simp only [b66,b65,b63,b64,sb,beq_iff_eq] at f66
                       have hh:=Qlg (S:=S) (by omega) (by omega) (by omega) (by omega)
                       rw [if_neg (by omega)] at hh
                       have hk:=Qo9 (S:=S) (a:=7) (by omega) (by omega)
                       refine .inl ⟨rfl,rfl,Qbi (X:=Qg0) e hi (by kernel_rfl) (by kernel_rfl),⟨S.size,8,bAt S 7,noE,[],hs,rfl,e57,rfl,rfl,rfl,rfl,rfl,rfl,e62,by decide,by omega,sz,(by decide),(by decide),(by decide),by omega,(by decide),by omega,?_,extS hx⟩,tabS ht⟩
                       rw [Qqu hh,Qqs hk]
                       rfl
                     ·simp only [b60,sb,beq_iff_eq] at f60
                      omega
                   ·simp only [b53,sb,beq_iff_eq] at f53
                    omega
                 ·simp only [b43,sb,beq_iff_eq] at f43
                  omega
               ·simp only [b31,sb,beq_iff_eq] at f31
                omega
             ·simp only [b24,sb,beq_iff_eq] at f24
              omega
         ·simp only [b17,sb,beq_iff_eq] at f17
          omega
      ·simp only [b11,sb,beq_iff_eq] at f11
       omega
   ·simp only [b5,sb,beq_iff_eq] at f5
    omega
 ·simp only [b2,sb,beq_iff_eq] at f2
  omega
def L32:Asg:=[(4,.symi .u32 4),(3,.symi .i64 3),(5,.symi .i64 5),(6,.symi .u64 6),(7,.symi .u64 7),(8,.symi .i64 8),(0,.syms 0),(2,.syms 2),(3,.symi .i64 3),(4,.symi .u32 4),(3,.symi .i64 3),(5,.symi .i64 5),(6,.symi .u64 6),(7,.symi .u64 7),(8,.symi .i64 8)]
theorem EndZ.none {tab:TabF} {n:Nat} {W0:Fra} {Z:Exit->Act->World->Prop} {x:SEx} {s:Shape} {σ:Sig} (h:False):EndZ tab n W0 Z x s σ:=h.elim
theorem Qbai {S:ByteArray} {l:Lg} (h:par S=.ok l):0<=l.img/\l.img<4294967296/\0<=l.cyc/\l.cyc<=1073741824/\0<=l.ret/\l.ret<=1099511627776/\0<=l.br/\l.br<=1099511627776/\0<=l.out/\l.out<=6:=by
 obtain ⟨⟨h1,_,_,h4,h5,h6,h7⟩,h8,h9⟩:=Q4t h
 rw [Qh6] at h1
 omega
theorem c32:SymFOk Tryd.prog Qa (fun _=>True) sf32:=
 Qel Tryd.func32 rfl (n:=84) rfl (by decide) (by decide) rfl rfl (by kernel_rfl) (fun g w hg _ hE hI hpc hH=>by
  have q0:=hpc (.bin .leq (.symi .i64 1) (.int .i64 1000000)) (by simp [sf32])
  have q1:=hpc (.fnb 576 [.syms 0]) (by simp [sf32])
  have g1:g.sig.ival 1=((g.sig.sval 0).size:Nat):=Qbm (hE.at 0 _ rfl rfl)
  simp only [Qb,den,binS,intA,if_true,Option.some.injEq,AVal.bool.injEq,decide_eq_true_eq] at q0
  have q1:(!(g.sig.tab 576 [encB (g.sig.sval 0)]==0))=true:=by
   simp only [Qb,List.map,den,numS,Option.some.injEq,AVal.bool.injEq] at q1
   exact q1
  rw [hg,lg_ok] at q1
  have g2:g.sig.sval 2=decS (g.sig.tab 578 [encB (g.sig.sval 0)]):=eqFs (hE.at 1 _ rfl rfl)
  have g3:g.sig.ival 3=IntKind.i64.wrap (g.sig.tab 579 [encB (g.sig.sval 0)]):=eqFn (hE.at 2 _ rfl rfl)
  have g4:g.sig.ival 4=IntKind.u32.wrap (g.sig.tab 580 [encB (g.sig.sval 0)]):=eqFn (hE.at 3 _ rfl rfl)
  have g5:g.sig.ival 5=IntKind.i64.wrap (g.sig.tab 581 [encB (g.sig.sval 0)]):=eqFn (hE.at 4 _ rfl rfl)
  have g6:g.sig.ival 6=IntKind.u64.wrap (g.sig.tab 582 [encB (g.sig.sval 0)]):=eqFn (hE.at 5 _ rfl rfl)
  have g7:g.sig.ival 7=IntKind.u64.wrap (g.sig.tab 583 [encB (g.sig.sval 0)]):=eqFn (hE.at 6 _ rfl rfl)
  have g8:g.sig.ival 8=IntKind.i64.wrap (g.sig.tab 584 [encB (g.sig.sval 0)]):=eqFn (hE.at 7 _ rfl rfl)
  obtain ⟨v3,v4,v5,v6,v7,v8⟩:=Q24 (g.sig.sval 0)
  rw [hg,lg_es] at g2
  rw [hg,v3,Qh] at g3
  rw [hg,v4,Qem] at g4
  rw [hg,v5,Qh] at g5
  rw [hg,v6,Qj] at g6
  rw [hg,v7,Qj] at g7
  rw [hg,v8,Qh] at g8
  have hst:=st32 (W0:=Qbh g w sf32.pre.length) (Z:=bodyPost Tryd.prog Tryd.f32 (MemR Qa sf32 g w)) (E:=g.sig.ext) (S:=g.sig.sval 0) (by omega) ⟨fun σ l hk=> ?_,fun σ hk=>EndZ.none ?_⟩ (pin0 (by kernel_rfl)) (pin0 (by kernel_rfl)) (pin0 (by kernel_rfl))
  ·intro a w' σ hA hi hj ht
   exact hst a w' σ hA hi ⟨(hj.val 0 (by decide)).2.2.symm,hj.ext.symm⟩ ht
  ·have hv:(par (g.sig.sval 0)).val=l:=by rw [hk.p];rfl
   rw [hv] at g2 g3 g4 g5 g6 g7 g8
   obtain ⟨b1,b2,b3,b4,b5,b6,b7,b8,b9,b10⟩:=Qbai hk.p
   have nb:=hk.nb
   have e2:σ.sval 2=g.sig.sval 2:=by rw [hk.c,g2]
   have e3:σ.ival 3=g.sig.ival 3:=by rw [hk.n];omega
   have e4:σ.ival 4=g.sig.ival 4:=by rw [hk.im];omega
   have e5:σ.ival 5=g.sig.ival 5:=by rw [hk.cy];omega
   have e6:σ.ival 6=g.sig.ival 6:=by rw [hk.re];omega
   have e7:σ.ival 7=g.sig.ival 7:=by rw [hk.br];omega
   have e8:σ.ival 8=g.sig.ival 8:=by rw [hk.ou];omega
   exact Qeu (M:=9) (l:=L32) (vs:=[.agg Qpx]) (by kernel_rfl) rfl rfl hH hg rfl rfl rfl (by kernel_rfl) (by kernel_rfl) ⟨congrArg (AVal.int .u32) e4,congrArg (AVal.int .i64) e3,congrArg (AVal.int .i64) e5,congrArg (AVal.int .u64) e6,congrArg (AVal.int .u64) e7,congrArg (AVal.int .i64) e8,congrArg AVal.str hk.s,congrArg AVal.str e2,congrArg (AVal.int .i64) e3,congrArg (AVal.int .u32) e4,congrArg (AVal.int .i64) e3,congrArg (AVal.int .i64) e5,congrArg (AVal.int .u64) e6,congrArg (AVal.int .u64) e7,congrArg (AVal.int .i64) e8,trivial⟩ (by decide) hk.xe (.inl rfl)
  ·rw [hk.p] at q1
   cases q1)
def L32p:Asg:=[(0,.syms 0)]
theorem c32p:SymFOk Tryd.prog Qa (fun _=>True) Qei:=
 Qel Tryd.func32 rfl (n:=84) rfl (by decide) (by decide) rfl rfl (by kernel_rfl) (fun g w hg _ hE hI hpc hH=>by
  have q0:=hpc (.bin .leq (.symi .i64 1) (.int .i64 1000000)) (by simp [Qei])
  have q1:=hpc (.fnb 585 [.syms 0]) (by simp [Qei])
  have g1:g.sig.ival 1=((g.sig.sval 0).size:Nat):=Qbm (hE.at 0 _ rfl rfl)
  simp only [Qb,den,binS,intA,if_true,Option.some.injEq,AVal.bool.injEq,decide_eq_true_eq] at q0
  have q1:(!(g.sig.tab 585 [encB (g.sig.sval 0)]==0))=true:=by
   simp only [Qb,List.map,den,numS,Option.some.injEq,AVal.bool.injEq] at q1
   exact q1
  rw [hg,Qpz] at q1
  have g2:g.sig.ival 2=IntKind.i64.wrap (g.sig.tab 577 [encB (g.sig.sval 0)]):=eqFn (hE.at 1 _ rfl rfl)
  rw [hg,lg_at,Qh] at g2
  have hst:=st32 (W0:=Qbh g w Qei.pre.length) (Z:=bodyPost Tryd.prog Tryd.f32 (MemR Qa Qei g w)) (E:=g.sig.ext) (S:=g.sig.sval 0) (by omega) ⟨fun σ l hk=>EndZ.none ?_,fun σ hk=> ?_⟩ (pin0 (by kernel_rfl)) (pin0 (by kernel_rfl)) (pin0 (by kernel_rfl))
  ·intro a w' σ hA hi hj ht
   exact hst a w' σ hA hi ⟨(hj.val 0 (by decide)).2.2.symm,hj.ext.symm⟩ ht
  ·rw [hk.p] at q1
   cases q1
  ·have hp:=hk.p
   have hb:=Qbgl hp
   rw [hp] at g2
   have e2:σ.ival 2=g.sig.ival 2:=by
    rw [g2]
    obtain ⟨x1,x2⟩:=hb
    show σ.ival 2=(σ.ival 2+9223372036854775808)%18446744073709551616-9223372036854775808
    omega
   refine Q9h (M:=3) (l:=L32p) (lv:=[(2,.symi .i64 2)]) rfl ?_ rfl hH hg rfl (by kernel_rfl) (by kernel_rfl) ⟨congrArg AVal.str hk.s,trivial⟩ (by decide) hk.xe
   intro p hp
   simp only [List.mem_cons,List.not_mem_nil,or_false] at hp
   subst hp
   refine ⟨fun k n hn=> ?_,fun b hn=>by simp [den] at hn,fun s hn=>by simp [den] at hn⟩
   simp only [den,AVal.int.injEq] at hn
   rw [<-hn.2];exact e2.symm)
end Go.Proofs.YtelimhjceiamcaaDoor.lg
