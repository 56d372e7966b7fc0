/-
 A round of the loop of log's reader.
 No conditions.
-/
import Derived.Test.YtelimhjceiamcaaDoorRLg32c
namespace Go.Proofs.YtelimhjceiamcaaDoor.lg
open Go.Ev Go.RowKit Go.Wbp Go.Lgp
open Go.Proofs.YtelimhjceiamcaaDoor.lgn (mixed sf48 Qbt)
set_option linter.unusedVariables false
set_option linter.unusedSimpArgs false
theorem ex32 {E:Nat->Option Fz} {S:ByteArray} {img:Int} {V U:Sig} (ag:Agree 10 V U) (h: ∃f a k last es,J32 E S img a f last es k V): ∃f a k last es,J32 E S img a f last es k U:=
 let ⟨f,a,k,last,es,h⟩:=h
 ⟨f,a,k,last,es,h.agree ag⟩
abbrev B32 (W0:Fra) (Z:Exit->Act->World->Prop) (E:Nat->Option Fz) (S:ByteArray) (img:Int) (kk:Nat):Exit->Act->World->Prop:=
 Qkp Tryd.prog 0 ((Qe (Qc Tryd.f32)).drop 5) Z (InvS Qa 84 W0 Qea 10 Qf0 (fun V=> ∃f a k last es,J32 E S img a f last es k V) (fun V=>(1000001-V.i 1).toNat)) kk
set_option maxHeartbeats 4000000 in
theorem Qbl5 {W0:Fra} {Z:Exit->Act->World->Prop} {E:Nat->Option Fz} {S:ByteArray} {img:Int} (hE:Ends W0 Z E S) (hpin: ∀i,W0.pin i≠none->pinW i Quu=true)
  (hC:Qg Tryd.prog Qa 84 W0 Z ((Qe (Qc Tryd.f32)).drop 5) Qea 10 Qf0 (fun V=> ∃f a last es,J32 E S img a f last es 255 V)) (kk:Nat):
  Qg Tryd.prog Qa 84 W0 (B32 W0 Z E S img kk) (Qe (Qbs (Qc Tryd.f32))) Qea 10 Qf0 (fun V=>(∃f a k last es,J32 E S img a f last es k V)/\(1000001-V.i 1).toNat=kk):=by
 refine Qg.last mixed Qbfx ⟨rfl,rfl⟩ (fun V U ag h=>⟨ex32 ag h.1,by rw [<-(ag.val 1 (by decide)).1];exact h.2⟩) (fun U h=>Qq) (fun U e ht hi hj=> ?_) hpin
 obtain ⟨⟨f,a,k,last,es,hj⟩,hkk⟩:=hj
 refine Qm ?_
 have hs:=hj.gs
 have ha:=hj.ga
 have hn:=hj.gn
 have hr:=hj.gr
 have hb:=hj.gb
 have hk6:=hj.gk
 have hkd:=hj.gkd
 have a8:=hj.a8
 have az:=hj.az
 have sz:=hj.sz
 have lr:=hj.lr
 have lb:=hj.lb
 have lk:=hj.lk
 have cn:=hj.cn
 have fu:=hj.fu
 have hkk2:=hj.kk
 have F:Facs U 10 Qmk:=facs e
 dsimp only [Qmk,Facs,fac1,facI,facS,facB,oI,oK,oB,oS,nmL,nm,Nat.reduceAdd] at F
 obtain ⟨i10,b11,b12,b13,b14,i15,i16,i17,b18,i19,b20,b21,i22,i23,i24,b25,i26,b27,b28,i29,s30,i31,b32,b33,i34,i35,i36,b37,b38,b39,b40,b41,b42,b43,i44,i45,i46,b47,b48,b49,b50,b51,b52,i53,b54,b55,i56,b57,b58,i59,i60,b61,b62,i63,i64,b65,b66,-,s68,i69,b70,b71,i72,b73,b74,b75,i76,i77,i78,b79,b80,b81,b82,-⟩:=F
 have s67:U.s 67=encX ⟨U.i 36,U.i 46,U.i 9,U.i 56⟩:=Qbl (e.at 57 _ rfl rfl)
 rw [hs] at i10
 rw [Qh] at i19 i26 i29 i64 i69 i77
 obtain ⟨v1,l1,c1,k1,k2,k3,k4,k5⟩:=Qfd ht hs ha i15 i16 i17
 have e19:U.i 19=a+(numL S a).getD 1 0:=by omega
 obtain ⟨w1,m1,d1,q1,q2,q3,q4,q5⟩:=Qfd ht hs e19 i22 i23 i24
 have e26:U.i 26=a+(numL S a).getD 1 0+(numL S (a+(numL S a).getD 1 0)).getD 1 0:=by omega
 clear i15 i16 i17 i22 i23 i24
 have e29:U.i 29=a+(numL S a).getD 1 0+(numL S (a+(numL S a).getD 1 0)).getD 1 0+1:=by omega
 have e64:U.i 64=a+(numL S a).getD 1 0+(numL S (a+(numL S a).getD 1 0)).getD 1 0+2:=by omega
 have e77:U.i 77=a+(numL S a).getD 1 0+(numL S (a+(numL S a).getD 1 0)).getD 1 0+3:=by omega
 rw [hs,e29] at s30
 have e30:U.s 30=S.extract 0 (a+(numL S a).getD 1 0+(numL S (a+(numL S a).getD 1 0)).getD 1 0+1).toNat:=s30
 have z30:0<=U.i 31/\U.i 31<=U.i 10:=by
  rw [i31,e30,ByteArray.size_extract];omega
 have e59:U.i 59=sumS (S.extract 0 (a+(numL S a).getD 1 0+(numL S (a+(numL S a).getD 1 0)).getD 1 0+1).toNat):=by
  have:=Qdz (ints (S.extract 0 (a+(numL S a).getD 1 0+(numL S (a+(numL S a).getD 1 0)).getD 1 0+1).toNat))
  rw [ht,e30,Qe8,wr_u8] at i59
  unfold sumS at i59⊢
  omega
 have e63:U.i 63=bAt S (a+(numL S a).getD 1 0+(numL S (a+(numL S a).getD 1 0)).getD 1 0+1):=by rw [i63,hs,e29]
 have e56:U.i 56=bAt S (a+(numL S a).getD 1 0+(numL S (a+(numL S a).getD 1 0)).getD 1 0):=by rw [i56,hs,e26]
 have e76:U.i 76=bAt S (a+(numL S a).getD 1 0+(numL S (a+(numL S a).getD 1 0)).getD 1 0+2):=by rw [i76,hs,e64]
 have b76:=Qd S (a+(numL S a).getD 1 0+(numL S (a+(numL S a).getD 1 0)).getD 1 0+2)
 have e78:U.i 78=bAt S (a+(numL S a).getD 1 0+(numL S (a+(numL S a).getD 1 0)).getD 1 0+2):=by rw [Qh] at i78;omega
 have e35:U.i 35=min ((numL S a).getD 0 0) 2199023255552:=by rw [i35];split<;>omega
 have e45:U.i 45=min ((numL S (a+(numL S a).getD 1 0)).getD 0 0) 2199023255552:=by rw [i45];split<;>omega
 have e36:U.i 36=last.r+min ((numL S a).getD 0 0) 2199023255552:=by rw [Qf] at i36;omega
 have e46:U.i 46=last.b+min ((numL S (a+(numL S a).getD 1 0)).getD 0 0) 2199023255552:=by rw [Qf] at i46;omega
 have e53:U.i 53=U.i 10-U.i 26:=by rw [Qh] at i53;omega
 have e60:U.i 60=U.i 10-U.i 29:=by rw [Qh] at i60;omega
 have e72:U.i 72=U.i 10-U.i 64:=by rw [Qh] at i72;omega
 clear i19 i26 i29 i34 i35 i36 i44 i45 i46 i53 i56 i59 i60 i63 i64 i72 i76 i77 i78 s30
 refine ⟨fun f11=> ?_,fun f11=> ?_⟩<;>simp only [b11,sb] at f11
 ·refine ⟨fun f12=> ?_,fun f12=> ?_⟩<;>simp only [b12,sb] at f12
  ·refine ⟨fun f13=> ?_,fun f13=> ?_⟩<;>simp only [b13,sb] at f13
   ·refine ⟨fun f14=> ?_,fun f14=> ?_⟩<;>simp only [b14,sb] at f14
    ·refine ⟨fun f18=> ?_,fun f18=> ?_⟩<;>simp only [b18,sb] at f18
     ·refine ⟨fun f20=> ?_,fun f20=> ?_⟩<;>simp only [b20,sb] at f20
      ·refine ⟨fun f21=> ?_,fun f21=> ?_⟩<;>simp only [b21,sb] at f21
       ·refine ⟨fun f25=> ?_,fun f25=> ?_⟩<;>simp only [b25,sb] at f25
        ·refine ⟨fun f27=> ?_,fun f27=> ?_⟩<;>simp only [b27,sb] at f27
         ·refine ⟨fun f28=> ?_,fun f28=> ?_⟩<;>simp only [b28,sb] at f28
          ·refine ⟨fun f32=> ?_,fun f32=> ?_⟩<;>simp only [b32,sb] at f32
           ·refine ⟨fun f33=> ?_,fun f33=> ?_⟩<;>simp only [b33,sb] at f33
            ·omega
            ·refine ⟨fun f43=> ?_,fun f43=> ?_⟩<;>simp only [b43,sb] at f43
             ·omega
             ·refine ⟨fun f49=> ?_,fun f49=> ?_⟩<;>simp only [b49,sb] at f49
              ·omega
              ·refine ⟨fun f57=> ?_,fun f57=> ?_⟩<;>simp only [b57,sb] at f57
               ·refine ⟨fun f70=> ?_,fun f70=> ?_⟩<;>simp only [b70,sb] at f70
                ·refine ⟨fun f71=> ?_,fun f71=> ?_⟩<;>simp only [b71,sb] at f71
                 ·refine ⟨fun f74=> ?_,fun f74=> ?_⟩<;>simp only [b74,sb] at f74
                  ·refine ⟨fun f42=> ?_,fun f42=> ?_⟩<;>simp only [b42,b41,b37,b40,b38,b39,sb] at f42
                   ·refine EndZ.out (by simp) (EndZ.pan (hE.2 _ (Q7 (p:=a) hj.gs hj.xe (hj.gp.trans ?_) (by show AVal.int .i64 (U.i 1)=AVal.int .i64 (a);rw [show U.i 1=a by omega]))))
                    ·exact Qch (by omega) (Qds (Qej (by rw [Qr];omega)))
                   ·refine ⟨fun f52=> ?_,fun f52=> ?_⟩<;>simp only [b52,b51,b47,b50,b38,b48,sb] at f52
                    ·refine EndZ.out (by simp) (EndZ.pan (hE.2 _ (Q7 (p:=a+(numL S a).getD 1 0) hj.gs hj.xe (hj.gp.trans ?_) (by show AVal.int .i64 (U.i 19)=AVal.int .i64 (a+(numL S a).getD 1 0);rw [show U.i 19=a+(numL S a).getD 1 0 by omega]))))
                     ·exact Qch (by omega) (Qds (Qek (by omega) (by rw [Qr];omega) (by rw [Q6];omega)))
                    ·refine ⟨fun f54=> ?_,fun f54=> ?_⟩<;>simp only [b54,sb] at f54
                     ·refine EndZ.out (by simp) (EndZ.pan (hE.2 _ (Q7 (p:=a+(numL S a).getD 1 0+(numL S (a+(numL S a).getD 1 0)).getD 1 0) hj.gs hj.xe (hj.gp.trans ?_) (by show AVal.int .i64 (U.i 26)=AVal.int .i64 (a+(numL S a).getD 1 0+(numL S (a+(numL S a).getD 1 0)).getD 1 0);rw [show U.i 26=a+(numL S a).getD 1 0+(numL S (a+(numL S a).getD 1 0)).getD 1 0 by omega]))))
                      ·have hc:=Qb0 (S:=S) (a:=a) (k:=k) (last:=last) (by omega) (by rw [Qr];omega) (by omega) (by rw [Q6];omega)
                       exact Qch (by omega) (Qzs hc (by omega))
                     ·refine ⟨fun f55=> ?_,fun f55=> ?_⟩<;>simp only [b55,sb] at f55
                      ·refine ⟨fun f58=> ?_,fun f58=> ?_⟩<;>simp only [b58,sb] at f58
                       ·refine ⟨fun f61=> ?_,fun f61=> ?_⟩<;>simp only [b61,sb] at f61
                        ·refine EndZ.out (by simp) (EndZ.pan (hE.2 _ (Q7 (p:=a+(numL S a).getD 1 0+(numL S (a+(numL S a).getD 1 0)).getD 1 0+1) hj.gs hj.xe (hj.gp.trans ?_) (by show AVal.int .i64 (U.i 29)=AVal.int .i64 (a+(numL S a).getD 1 0+(numL S (a+(numL S a).getD 1 0)).getD 1 0+1);rw [show U.i 29=a+(numL S a).getD 1 0+(numL S (a+(numL S a).getD 1 0)).getD 1 0+1 by omega]))))
                         ·have hc:=Qb0 (S:=S) (a:=a) (k:=k) (last:=last) (by omega) (by rw [Qr];omega) (by omega) (by rw [Q6];omega)
                          exact Qch (by omega) (Qo1 hc (by omega) (by first|(left;omega)|(right;rw [<-e63,<-e59];exact f66)))
                        ·refine ⟨fun f62=> ?_,fun f62=> ?_⟩<;>simp only [b62,sb] at f62
                         ·refine ⟨fun f66=> ?_,fun f66=> ?_⟩<;>simp only [b66,b65,sb] at f66
                          ·refine EndZ.out (by simp) (EndZ.pan (hE.2 _ (Q7 (p:=a+(numL S a).getD 1 0+(numL S (a+(numL S a).getD 1 0)).getD 1 0+1) hj.gs hj.xe (hj.gp.trans ?_) (by show AVal.int .i64 (U.i 29)=AVal.int .i64 (a+(numL S a).getD 1 0+(numL S (a+(numL S a).getD 1 0)).getD 1 0+1);rw [show U.i 29=a+(numL S a).getD 1 0+(numL S (a+(numL S a).getD 1 0)).getD 1 0+1 by omega]))))
                           ·have hc:=Qb0 (S:=S) (a:=a) (k:=k) (last:=last) (by omega) (by rw [Qr];omega) (by omega) (by rw [Q6];omega)
                            exact Qch (by omega) (Qo1 hc (by omega) (by first|(left;omega)|(right;rw [<-e63,<-e59];exact f66)))
                          ·refine ⟨fun f73=> ?_,fun f73=> ?_⟩<;>simp only [b73,sb] at f73
                           ·have hc:=Qb0 (S:=S) (a:=a) (k:=k) (last:=last) (by omega) (by rw [Qr];omega) (by omega) (by rw [Q6];omega)
                            have hn:=Qo0 hc (by omega) (by rw [<-e63,<-e59];exact f66)
                            obtain ⟨f',rfl⟩: ∃f',f=f'+1:=⟨f-1,by omega⟩
                            refine EndZ.out (by simp) (EndZ.pan (hE.2 _ (Q7 (p:=a+(numL S a).getD 1 0+(numL S (a+(numL S a).getD 1 0)).getD 1 0+2) hj.gs hj.xe (hj.gp.trans ?_) (by show AVal.int .i64 (U.i 64)=AVal.int .i64 (a+(numL S a).getD 1 0+(numL S (a+(numL S a).getD 1 0)).getD 1 0+2);rw [show U.i 64=a+(numL S a).getD 1 0+(numL S (a+(numL S a).getD 1 0)).getD 1 0+2 by omega]))))
                            rw [Qrh (by omega) hn]
                            exact Qj5 (Qjd (by omega))
                           ·refine ⟨fun f75=> ?_,fun f75=> ?_⟩<;>simp only [b75,sb] at f75
                            ·refine ⟨fun f82=> ?_,fun f82=> ?_⟩<;>simp only [b82,b81,b79,b80,sb] at f82
                             ·have hc:=Qb0 (S:=S) (a:=a) (k:=k) (last:=last) (by omega) (by rw [Qr];omega) (by omega) (by rw [Q6];omega)
                              have hn:=Qo0 hc (by omega) (by rw [<-e63,<-e59];exact f66)
                              obtain ⟨f',rfl⟩: ∃f',f=f'+1:=⟨f-1,by omega⟩
                              refine EndZ.out (by simp) (EndZ.pan (hE.2 _ (Q7 (p:=a+(numL S a).getD 1 0+(numL S (a+(numL S a).getD 1 0)).getD 1 0+2) hj.gs hj.xe (hj.gp.trans ?_) (by show AVal.int .i64 (U.i 64)=AVal.int .i64 (a+(numL S a).getD 1 0+(numL S (a+(numL S a).getD 1 0)).getD 1 0+2);rw [show U.i 64=a+(numL S a).getD 1 0+(numL S (a+(numL S a).getD 1 0)).getD 1 0+2 by omega]))))
                              rw [Qrh (by omega) hn]
                              exact Qj5 (Qjd (by omega))
                             ·have hc:=Qb0 (S:=S) (a:=a) (k:=k) (last:=last) (by omega) (by rw [Qr];omega) (by omega) (by rw [Q6];omega)
                              have hn:=Qo0 hc (by omega) (by rw [<-e63,<-e59];exact f66)
                              have hk:=Qdd (S:=S) (a:=a+(numL S a).getD 1 0+(numL S (a+(numL S a).getD 1 0)).getD 1 0+2) (by omega) (by omega)
                              obtain ⟨f',rfl⟩: ∃f',f=f'+1:=⟨f-1,by omega⟩
                              refine EndZ.loop (insK (X:=Qqb) e hi) ⟨f',a+(numL S a).getD 1 0+(numL S (a+(numL S a).getD 1 0)).getD 1 0+3,bAt S (a+(numL S a).getD 1 0+(numL S (a+(numL S a).getD 1 0)).getD 1 0+2),⟨last.r+min ((numL S a).getD 0 0) 2199023255552,last.b+min ((numL S (a+(numL S a).getD 1 0)).getD 0 0) 2199023255552,k,bAt S (a+(numL S a).getD 1 0+(numL S (a+(numL S a).getD 1 0)).getD 1 0)⟩,es++[⟨last.r+min ((numL S a).getD 0 0) 2199023255552,last.b+min ((numL S (a+(numL S a).getD 1 0)).getD 0 0) 2199023255552,k,bAt S (a+(numL S a).getD 1 0+(numL S (a+(numL S a).getD 1 0)).getD 1 0)⟩],hj.gs,(by show U.i 77=_;omega),hj.gim,(by show U.i 69=_;rw [List.length_append,List.length_singleton];omega),(by show U.i 36=last.r+min ((numL S a).getD 0 0) 2199023255552;omega),(by show U.i 46=last.b+min ((numL S (a+(numL S a).getD 1 0)).getD 0 0) 2199023255552;omega),hj.gkd,e56,?_,e78,by omega,by omega,hj.sz,(by show 0<=last.r+min ((numL S a).getD 0 0) 2199023255552/\last.r+min ((numL S a).getD 0 0) 2199023255552<=1099511627776;omega),(by show 0<=last.b+min ((numL S (a+(numL S a).getD 1 0)).getD 0 0) 2199023255552/\last.b+min ((numL S (a+(numL S a).getD 1 0)).getD 0 0) 2199023255552<=last.r+min ((numL S a).getD 0 0) 2199023255552;omega),(by show k<=2;omega),by omega,(by rw [List.length_append,List.length_singleton];push_cast;omega),by omega,?_,extS hj.xe⟩ (tabS ht) ?_
                              ·show U.s 68=_
                               rw [s68,s67,hj.gc,Lgp.encL_snoc,e56,hkd,e36,e46]
                              ·rw [hj.gp,Qrh (by omega) hn,Qde hk]
                               rw [show a+(numL S a).getD 1 0+(numL S (a+(numL S a).getD 1 0)).getD 1 0+2+1=a+(numL S a).getD 1 0+(numL S (a+(numL S a).getD 1 0)).getD 1 0+3 by omega]
                               rfl
                              ·show (1000001-U.i 77).toNat<kk
                               omega
                            ·omega
                         ·omega
                       ·omega
                      ·omega
                  ·omega
                 ·omega
                ·omega
               ·omega
           ·omega
          ·omega
         ·omega
        ·refine ⟨fun f33=> ?_,fun f33=> ?_⟩<;>simp only [b33,sb] at f33
         ·omega
         ·refine ⟨fun f43=> ?_,fun f43=> ?_⟩<;>simp only [b43,sb] at f43
          ·refine ⟨fun f42=> ?_,fun f42=> ?_⟩<;>simp only [b42,b41,b37,b40,b38,b39,sb] at f42
           ·refine EndZ.out (by simp) (EndZ.pan (hE.2 _ (Q7 (p:=a) hj.gs hj.xe (hj.gp.trans ?_) (by show AVal.int .i64 (U.i 1)=AVal.int .i64 (a);rw [show U.i 1=a by omega]))))
            ·exact Qch (by omega) (Qds (Qej (by rw [Qr];omega)))
           ·refine EndZ.out (by simp) (EndZ.pan (hE.2 _ (Q7 (p:=a+(numL S a).getD 1 0) hj.gs hj.xe (hj.gp.trans ?_) (by show AVal.int .i64 (U.i 19)=AVal.int .i64 (a+(numL S a).getD 1 0);rw [show U.i 19=a+(numL S a).getD 1 0 by omega]))))
            ·exact Qch (by omega) (Qds (Qek (by omega) (by rw [Qr];omega) (by rw [Q6];omega)))
          ·omega
       ·omega
      ·omega
     ·refine ⟨fun f33=> ?_,fun f33=> ?_⟩<;>simp only [b33,sb] at f33
      ·refine EndZ.out (by simp) (EndZ.pan (hE.2 _ (Q7 (p:=a) hj.gs hj.xe (hj.gp.trans ?_) (by show AVal.int .i64 (U.i 1)=AVal.int .i64 (a);rw [show U.i 1=a by omega]))))
       ·exact Qch (by omega) (Qds (Qej (by rw [Qr];omega)))
      ·omega
    ·exact EndZ.out (by simp) (EndZ.blk hC (.inr rfl) (insK (X:=Qqb) e hi) ⟨f,a,last,es,hj.gs,hj.ga,hj.gim,hj.gn,hj.gr,hj.gb,hj.gk,hj.gv,hj.gc,(by show U.i 9=255;omega),hj.a8,hj.az,hj.sz,hj.lr,hj.lb,hj.lk,hj.fu,hj.cn,.inr rfl,(by rw [hj.gp,show k=255 by omega]),extS hj.xe⟩ (tabS ht))
   ·omega
  ·omega
 ·omega
end Go.Proofs.YtelimhjceiamcaaDoor.lg
