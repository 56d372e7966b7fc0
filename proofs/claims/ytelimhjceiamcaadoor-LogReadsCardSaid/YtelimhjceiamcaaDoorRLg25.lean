/-
 A round of the document's Decode; what is behind the rounds.
 No conditions.
-/
import Derived.Test.YtelimhjceiamcaaDoorRLg25a
import Derived.Test.YtelimhjceiamcaaDoorRLg32
set_option linter.unusedVariables false
set_option linter.unusedSimpArgs false
namespace Go.Proofs.YtelimhjceiamcaaDoor.lg
open Go.Ev Go.RowKit Go.Wbp Go.Lgp
open Go.Proofs.YtelimhjceiamcaaDoor.lgn (mixed sf48 Qbt)
structure J25 (E:Nat->Option Fz) (S:ByteArray) (img a:Int) (f:Nat) (last:En) (es:List En) (V:Sig):Prop where
 gs:V.s 0=S
 ga:V.i 1=a
 gim:V.i 2=img
 gn:V.i 3=(es.length:Nat)
 gr:V.i 4=last.r
 gb:V.i 5=last.b
 gk:V.i 6=last.k
 gv:V.i 7=last.v
 gc:V.s 8=encL es
 a7:7<=a
 az:a<=(S.size:Nat)
 sz:S.size<=1000000
 lr:0<=last.r/\last.r<=1099511627776
 lb:0<=last.b/\last.b<=last.r
 lk:last.k<=2
 fu:((S.size:Nat):Int)-a<(f:Nat)
 cn:5*((es.length:Nat):Int)<=a
 gp:par S=parF S img f a last es
 xe:V.ext=E
theorem J25.agree {E:Nat->Option Fz} {S:ByteArray} {img a:Int} {f:Nat} {last:En} {es:List En} {V U:Sig} (ag:Agree 9 V U) (h:J25 E S img a f last es V):J25 E S img a f last es U:=by
  cases h
  constructor<;>first|assumption|(simp (disch:=decide) only [ag.iv,ag.bv,ag.sv,ag.xv];assumption)
structure M25 (E:Nat->Option Fz) (S:ByteArray) (img a:Int) (last:En) (es:List En) (V:Sig):Prop where
 gs:V.s 0=S
 ga:V.i 1=a
 gim:V.i 2=img
 gn:V.i 3=(es.length:Nat)
 gr:V.i 4=last.r
 gb:V.i 5=last.b
 gk:V.i 6=last.k
 gv:V.i 7=last.v
 gc:V.s 8=encL es
 a7:7<=a
 az:a<=(S.size:Nat)
 sz:S.size<=1000000
 lr:0<=last.r/\last.r<=1099511627776
 lb:0<=last.b/\last.b<=last.r
 lk:last.k<=2
 cn:5*((es.length:Nat):Int)<=a
 gp:par S=finP S img a last es
 xe:V.ext=E
theorem M25.agree {E:Nat->Option Fz} {S:ByteArray} {img a:Int} {last:En} {es:List En} {V U:Sig} (ag:Agree 9 V U) (h:M25 E S img a last es V):M25 E S img a last es U:=by
  cases h
  constructor<;>first|assumption|(simp (disch:=decide) only [ag.iv,ag.bv,ag.sv,ag.xv];assumption)
structure Ok25 (E:Nat->Option Fz) (S:ByteArray) (l:Lg) (V:Sig):Prop where
 p:par S=.ok l
 c:V.s 2=encL l.es
 n:V.i 3=(l.es.length:Nat)
 im:V.i 4=l.img
 cy:V.i 5=l.cyc
 re:V.i 6=l.ret
 br:V.i 7=l.br
 ou:V.i 8=l.out
 nb:l.es.length<=1000000
 xe:V.ext=E
structure Bad25 (E:Nat->Option Fz) (S:ByteArray) (V:Sig):Prop where
 p:par S=.bad (V.i 2)
 xe:V.ext=E
theorem Qbc {E:Nat->Option Fz} {S:ByteArray} {U:Sig} {x:AVal} {p:Int} (hx:U.ext=E) (hp:par S=.bad p) (hv:valS U x=.int .i64 p):Bad25 E S (asgS U ([(2,x)]++[])):=
 ⟨by rw [hp];show _=Rd.bad (iOf (valS U x));rw [hv];rfl,extS hx⟩
abbrev Qsf (W0:Fra) (Z:Exit->Act->World->Prop) (E:Nat->Option Fz) (S:ByteArray):Prop:=
 (∀(V:Sig) (l:Lg),Ok25 E S l V->EndZ Qa 233 W0 Z .ret Q4g V)/\ ∀V:Sig,Bad25 E S V->EndZ Qa 233 W0 Z .ret Qba V
set_option maxHeartbeats 4000000 in
theorem Qbl4 {W0:Fra} {Z:Exit->Act->World->Prop} {E:Nat->Option Fz} {S:ByteArray} {img a:Int} {last:En} {es:List En} (hE:Qsf W0 Z E S) (hpin: ∀i,W0.pin i≠none->pinW i Qur=true):
  Qg Tryd.prog Qa 233 W0 Z ((Qe (Qc Tryd.f25)).drop 12) Qmz 9 Qfz (M25 E S img a last es):=by
 refine Qg.last mixed Qbfr ⟨rfl,rfl⟩ (fun V U ag h=>h.agree ag) (fun U h=>Qq) (fun U e ht hi hj=> ?_) hpin
 refine Qm ?_
 have hs:=hj.gs
 have ha:=hj.ga
 have hn:=hj.gn
 have hr:=hj.gr
 have hb:=hj.gb
 have hk6:=hj.gk
 have a7:=hj.a7
 have az:=hj.az
 have sz:=hj.sz
 have lr:=hj.lr
 have lb:=hj.lb
 have lk:=hj.lk
 have cn:=hj.cn
 have F:Facs U 9 Qmi:=facs e
 dsimp only [Qmi,Facs,fac1,facI,facS,facB,oI,oK,oB,oS,nmL,nm,Nat.reduceAdd] at F
 obtain ⟨i9,b10,b11,b12,i13,i14,i15,b16,i17,b18,b19,b20,i21,i22,i23,b24,i25,i26,i27,b28,b29,b30,b31,b32,i33,i34,i35,b36,i37,i38,i39,b40,b41,i42,i43,b44,b45,i46,i47,b48,b49,b50,s51,i52,b53,i54,b55,i56,i57,b58,b59,i60,b61,b62,b63,i64,i65,b66,i67,b68,i69,b70,b71,-⟩:=F
 rw [hs] at i9
 rw [Qh] at i17 i25 i37 i42 i43 i56 i57
 obtain ⟨v1,l1,c1,k1,k2,k3,k4,k5⟩:=Qfd ht hs ha i13 i14 i15
 have e17:U.i 17=a+(numL S (a)).getD 1 0:=by omega
 obtain ⟨w1,m1,d1,q1,q2,q3,q4,q5⟩:=Qfd ht hs e17 i21 i22 i23
 have e25:U.i 25=a+(numL S (a)).getD 1 0+(numL S (a+(numL S (a)).getD 1 0)).getD 1 0:=by omega
 obtain ⟨x1,y1,z1,s1,s2,s3,s4,s5⟩:=Qfd ht hs e25 i33 i34 i35
 clear i13 i14 i15 i21 i22 i23 i33 i34 i35
 have e37:U.i 37=a+(numL S (a)).getD 1 0+(numL S (a+(numL S (a)).getD 1 0)).getD 1 0+(numL S (a+(numL S (a)).getD 1 0+(numL S (a+(numL S (a)).getD 1 0)).getD 1 0)).getD 1 0:=by omega
 have e42:U.i 42=a+(numL S (a)).getD 1 0+(numL S (a+(numL S (a)).getD 1 0)).getD 1 0+(numL S (a+(numL S (a)).getD 1 0+(numL S (a+(numL S (a)).getD 1 0)).getD 1 0)).getD 1 0+1:=by omega
 have e43:U.i 43=a+(numL S (a)).getD 1 0+(numL S (a+(numL S (a)).getD 1 0)).getD 1 0+(numL S (a+(numL S (a)).getD 1 0+(numL S (a+(numL S (a)).getD 1 0)).getD 1 0)).getD 1 0:=by omega
 have e56:U.i 56=a+(numL S (a)).getD 1 0+(numL S (a+(numL S (a)).getD 1 0)).getD 1 0+(numL S (a+(numL S (a)).getD 1 0+(numL S (a+(numL S (a)).getD 1 0)).getD 1 0)).getD 1 0+2:=by omega
 have e57:U.i 57=a+(numL S (a)).getD 1 0+(numL S (a+(numL S (a)).getD 1 0)).getD 1 0+(numL S (a+(numL S (a)).getD 1 0+(numL S (a+(numL S (a)).getD 1 0)).getD 1 0)).getD 1 0+1:=by omega
 rw [hs,e42] at s51
 have e51:U.s 51=S.extract 0 (a+(numL S (a)).getD 1 0+(numL S (a+(numL S (a)).getD 1 0)).getD 1 0+(numL S (a+(numL S (a)).getD 1 0+(numL S (a+(numL S (a)).getD 1 0)).getD 1 0)).getD 1 0+1).toNat:=s51
 have z51:0<=U.i 52/\U.i 52<=U.i 9:=by
  rw [i52,e51,ByteArray.size_extract];omega
 have e54:U.i 54=sumS (S.extract 0 (a+(numL S (a)).getD 1 0+(numL S (a+(numL S (a)).getD 1 0)).getD 1 0+(numL S (a+(numL S (a)).getD 1 0+(numL S (a+(numL S (a)).getD 1 0)).getD 1 0)).getD 1 0+1).toNat):=by
  have:=Qdz (ints (S.extract 0 (a+(numL S (a)).getD 1 0+(numL S (a+(numL S (a)).getD 1 0)).getD 1 0+(numL S (a+(numL S (a)).getD 1 0+(numL S (a+(numL S (a)).getD 1 0)).getD 1 0)).getD 1 0+1).toNat))
  rw [ht,e51,Qe8,wr_u8] at i54
  unfold sumS at i54⊢
  omega
 have e60:U.i 60=bAt S (a+(numL S (a)).getD 1 0+(numL S (a+(numL S (a)).getD 1 0)).getD 1 0+(numL S (a+(numL S (a)).getD 1 0+(numL S (a+(numL S (a)).getD 1 0)).getD 1 0)).getD 1 0+1):=by rw [i60,hs,e57]
 have e46:U.i 46=bAt S (a+(numL S (a)).getD 1 0+(numL S (a+(numL S (a)).getD 1 0)).getD 1 0+(numL S (a+(numL S (a)).getD 1 0+(numL S (a+(numL S (a)).getD 1 0)).getD 1 0)).getD 1 0):=by rw [i46,hs,e43]
 have b46:=Qd S (a+(numL S (a)).getD 1 0+(numL S (a+(numL S (a)).getD 1 0)).getD 1 0+(numL S (a+(numL S (a)).getD 1 0+(numL S (a+(numL S (a)).getD 1 0)).getD 1 0)).getD 1 0)
 have b60:=Qd S (a+(numL S (a)).getD 1 0+(numL S (a+(numL S (a)).getD 1 0)).getD 1 0+(numL S (a+(numL S (a)).getD 1 0+(numL S (a+(numL S (a)).getD 1 0)).getD 1 0)).getD 1 0+1)
 have e26:U.i 26=min ((numL S (a+(numL S (a)).getD 1 0)).getD 0 0) 2199023255552:=by rw [i26];split<;>omega
 have e27:U.i 27=last.r+min ((numL S (a+(numL S (a)).getD 1 0)).getD 0 0) 2199023255552:=by rw [Qf] at i27;omega
 have e38:U.i 38=min ((numL S (a+(numL S (a)).getD 1 0+(numL S (a+(numL S (a)).getD 1 0)).getD 1 0)).getD 0 0) 2199023255552:=by rw [i38];split<;>omega
 have e39:U.i 39=last.b+min ((numL S (a+(numL S (a)).getD 1 0+(numL S (a+(numL S (a)).getD 1 0)).getD 1 0)).getD 0 0) 2199023255552:=by rw [Qf] at i39;omega
 have e65:U.i 65=U.i 13:=by rw [Qh] at i65;omega
 have e47:U.i 47=U.i 46:=by rw [Qh] at i47;omega
 clear i17 i25 i37 i42 i43 i56 i57 i26 i27 i38 i39 i46 i47 i54 i60 i65 s51
 refine ⟨fun f10=> ?_,fun f10=> ?_⟩<;>simp only [b10,sb] at f10
 ·refine ⟨fun f11=> ?_,fun f11=> ?_⟩<;>simp only [b11,sb] at f11
  ·refine ⟨fun f12=> ?_,fun f12=> ?_⟩<;>simp only [b12,sb] at f12
   ·refine ⟨fun f16=> ?_,fun f16=> ?_⟩<;>simp only [b16,sb] at f16
    ·refine ⟨fun f18=> ?_,fun f18=> ?_⟩<;>simp only [b18,sb] at f18
     ·refine hE.2 _ (Qbc (p:=a) hj.xe (hj.gp.trans ?_) (by show AVal.int .i64 (U.i 1)=AVal.int .i64 (a);rw [show U.i 1=a by omega]))
      ·exact Qi6 (by omega)
     ·refine ⟨fun f19=> ?_,fun f19=> ?_⟩<;>simp only [b19,sb] at f19
      ·refine ⟨fun f20=> ?_,fun f20=> ?_⟩<;>simp only [b20,sb] at f20
       ·refine ⟨fun f24=> ?_,fun f24=> ?_⟩<;>simp only [b24,sb] at f24
        ·refine ⟨fun f28=> ?_,fun f28=> ?_⟩<;>simp only [b28,sb] at f28
         ·refine hE.2 _ (Qbc (p:=a+(numL S (a)).getD 1 0) hj.xe (hj.gp.trans ?_) (by show AVal.int .i64 (U.i 17)=AVal.int .i64 (a+(numL S (a)).getD 1 0);rw [show U.i 17=a+(numL S (a)).getD 1 0 by omega]))
          ·exact Qfs (by omega) (by omega) (Qej (by rw [Qr];omega))
         ·have rest:Qih U (EndZ Qa 233 W0 Z) Qus:=by
           refine ⟨fun f31=> ?_,fun f31=> ?_⟩<;>simp only [b31,sb] at f31
           ·refine ⟨fun f32=> ?_,fun f32=> ?_⟩<;>simp only [b32,sb] at f32
            ·refine ⟨fun f36=> ?_,fun f36=> ?_⟩<;>simp only [b36,sb] at f36
             ·refine ⟨fun f40=> ?_,fun f40=> ?_⟩<;>simp only [b40,sb] at f40
              ·refine hE.2 _ (Qbc (p:=a+(numL S (a)).getD 1 0+(numL S (a+(numL S (a)).getD 1 0)).getD 1 0) hj.xe (hj.gp.trans ?_) (by show AVal.int .i64 (U.i 25)=AVal.int .i64 (a+(numL S (a)).getD 1 0+(numL S (a+(numL S (a)).getD 1 0)).getD 1 0);rw [show U.i 25=a+(numL S (a)).getD 1 0+(numL S (a+(numL S (a)).getD 1 0)).getD 1 0 by omega]))
               ·exact Qfs (by omega) (by omega) (Qek (by omega) (by rw [Qr];omega) (by rw [Q6];omega))
              ·refine ⟨fun f41=> ?_,fun f41=> ?_⟩<;>simp only [b41,sb] at f41
               ·refine hE.2 _ (Qbc (p:=a+(numL S (a)).getD 1 0+(numL S (a+(numL S (a)).getD 1 0)).getD 1 0+(numL S (a+(numL S (a)).getD 1 0+(numL S (a+(numL S (a)).getD 1 0)).getD 1 0)).getD 1 0) hj.xe (hj.gp.trans ?_) (by show AVal.int .i64 (U.i 37)=AVal.int .i64 (a+(numL S (a)).getD 1 0+(numL S (a+(numL S (a)).getD 1 0)).getD 1 0+(numL S (a+(numL S (a)).getD 1 0+(numL S (a+(numL S (a)).getD 1 0)).getD 1 0)).getD 1 0);rw [show U.i 37=a+(numL S (a)).getD 1 0+(numL S (a+(numL S (a)).getD 1 0)).getD 1 0+(numL S (a+(numL S (a)).getD 1 0+(numL S (a+(numL S (a)).getD 1 0)).getD 1 0)).getD 1 0 by omega]))
                ·have hc:=Qb0 (S:=S) (a:=a+(numL S (a)).getD 1 0) (k:=255) (last:=last) (by omega) (by rw [Qr];omega) (by omega) (by rw [Q6];omega)
                 exact Qpe (by omega) (by omega) hc (by omega)
               ·refine ⟨fun f44=> ?_,fun f44=> ?_⟩<;>simp only [b44,sb] at f44
                ·refine ⟨fun f45=> ?_,fun f45=> ?_⟩<;>simp only [b45,sb] at f45
                 ·refine ⟨fun f48=> ?_,fun f48=> ?_⟩<;>simp only [b48,sb] at f48
                  ·refine hE.2 _ (Qbc (p:=a+(numL S (a)).getD 1 0+(numL S (a+(numL S (a)).getD 1 0)).getD 1 0+(numL S (a+(numL S (a)).getD 1 0+(numL S (a+(numL S (a)).getD 1 0)).getD 1 0)).getD 1 0) hj.xe (hj.gp.trans ?_) (by show AVal.int .i64 (U.i 37)=AVal.int .i64 (a+(numL S (a)).getD 1 0+(numL S (a+(numL S (a)).getD 1 0)).getD 1 0+(numL S (a+(numL S (a)).getD 1 0+(numL S (a+(numL S (a)).getD 1 0)).getD 1 0)).getD 1 0);rw [show U.i 37=a+(numL S (a)).getD 1 0+(numL S (a+(numL S (a)).getD 1 0)).getD 1 0+(numL S (a+(numL S (a)).getD 1 0+(numL S (a+(numL S (a)).getD 1 0)).getD 1 0)).getD 1 0 by omega]))
                   ·have hc:=Qb0 (S:=S) (a:=a+(numL S (a)).getD 1 0) (k:=255) (last:=last) (by omega) (by rw [Qr];omega) (by omega) (by rw [Q6];omega)
                    exact Qpe (by omega) (by omega) hc (by omega)
                  ·refine ⟨fun f49=> ?_,fun f49=> ?_⟩<;>simp only [b49,sb] at f49
                   ·refine ⟨fun f50=> ?_,fun f50=> ?_⟩<;>simp only [b50,sb] at f50
                    ·refine ⟨fun f53=> ?_,fun f53=> ?_⟩<;>simp only [b53,sb] at f53
                     ·refine ⟨fun f55=> ?_,fun f55=> ?_⟩<;>simp only [b55,sb] at f55
                      ·refine hE.2 _ (Qbc (p:=a+(numL S (a)).getD 1 0+(numL S (a+(numL S (a)).getD 1 0)).getD 1 0+(numL S (a+(numL S (a)).getD 1 0+(numL S (a+(numL S (a)).getD 1 0)).getD 1 0)).getD 1 0+1) hj.xe (hj.gp.trans ?_) (by show AVal.int .i64 (U.i 42)=AVal.int .i64 (a+(numL S (a)).getD 1 0+(numL S (a+(numL S (a)).getD 1 0)).getD 1 0+(numL S (a+(numL S (a)).getD 1 0+(numL S (a+(numL S (a)).getD 1 0)).getD 1 0)).getD 1 0+1);rw [show U.i 42=a+(numL S (a)).getD 1 0+(numL S (a+(numL S (a)).getD 1 0)).getD 1 0+(numL S (a+(numL S (a)).getD 1 0+(numL S (a+(numL S (a)).getD 1 0)).getD 1 0)).getD 1 0+1 by omega]))
                       ·have hc:=Qb0 (S:=S) (a:=a+(numL S (a)).getD 1 0) (k:=255) (last:=last) (by omega) (by rw [Qr];omega) (by omega) (by rw [Q6];omega)
                        exact Qpf (by omega) (by omega) hc (by omega) (by omega) (by first|(left;omega)|(right;rw [<-e60,<-e54];exact f61))
                      ·refine ⟨fun f58=> ?_,fun f58=> ?_⟩<;>simp only [b58,sb] at f58
                       ·refine ⟨fun f59=> ?_,fun f59=> ?_⟩<;>simp only [b59,sb] at f59
                        ·refine ⟨fun f61=> ?_,fun f61=> ?_⟩<;>simp only [b61,sb] at f61
                         ·refine ⟨fun f62=> ?_,fun f62=> ?_⟩<;>simp only [b62,sb] at f62
                          ·refine hE.2 _ (Qbc (p:=a+(numL S (a)).getD 1 0+(numL S (a+(numL S (a)).getD 1 0)).getD 1 0+(numL S (a+(numL S (a)).getD 1 0+(numL S (a+(numL S (a)).getD 1 0)).getD 1 0)).getD 1 0+2) hj.xe (hj.gp.trans ?_) (by show AVal.int .i64 (U.i 56)=AVal.int .i64 (a+(numL S (a)).getD 1 0+(numL S (a+(numL S (a)).getD 1 0)).getD 1 0+(numL S (a+(numL S (a)).getD 1 0+(numL S (a+(numL S (a)).getD 1 0)).getD 1 0)).getD 1 0+2);rw [show U.i 56=a+(numL S (a)).getD 1 0+(numL S (a+(numL S (a)).getD 1 0)).getD 1 0+(numL S (a+(numL S (a)).getD 1 0+(numL S (a+(numL S (a)).getD 1 0)).getD 1 0)).getD 1 0+2 by omega]))
                           ·have hc:=Qb0 (S:=S) (a:=a+(numL S (a)).getD 1 0) (k:=255) (last:=last) (by omega) (by rw [Qr];omega) (by omega) (by rw [Q6];omega)
                            have hf:=Qpd (img:=img) (es:=es) (a:=a) (by omega) (by omega) hc (by omega) (by omega) (by rw [<-e60,<-e54];exact f61)
                            rw [if_pos (by omega)] at hf
                            exact hf
                          ·have hc:=Qb0 (S:=S) (a:=a+(numL S (a)).getD 1 0) (k:=255) (last:=last) (by omega) (by rw [Qr];omega) (by omega) (by rw [Q6];omega)
                           have hf:=Qpd (img:=img) (es:=es) (a:=a) (by omega) (by omega) hc (by omega) (by omega) (by rw [<-e60,<-e54];exact f61)
                           rw [if_neg (by omega)] at hf
                           refine hE.1 _ _ ⟨hj.gp.trans hf,hj.gc,hj.gn,hj.gim,?_,?_,?_,?_,by show es.length<=1000000;omega,extS hj.xe⟩
                           ·show U.i 65=(numL S (a)).getD 0 0
                            omega
                           ·show U.i 27=last.r+min ((numL S (a+(numL S (a)).getD 1 0)).getD 0 0) 2199023255552
                            omega
                           ·show U.i 39=last.b+min ((numL S (a+(numL S (a)).getD 1 0+(numL S (a+(numL S (a)).getD 1 0)).getD 1 0)).getD 0 0) 2199023255552
                            omega
                           ·show U.i 47=bAt S (a+(numL S (a)).getD 1 0+(numL S (a+(numL S (a)).getD 1 0)).getD 1 0+(numL S (a+(numL S (a)).getD 1 0+(numL S (a+(numL S (a)).getD 1 0)).getD 1 0)).getD 1 0)
                            omega
                         ·refine hE.2 _ (Qbc (p:=a+(numL S (a)).getD 1 0+(numL S (a+(numL S (a)).getD 1 0)).getD 1 0+(numL S (a+(numL S (a)).getD 1 0+(numL S (a+(numL S (a)).getD 1 0)).getD 1 0)).getD 1 0+1) hj.xe (hj.gp.trans ?_) (by show AVal.int .i64 (U.i 42)=AVal.int .i64 (a+(numL S (a)).getD 1 0+(numL S (a+(numL S (a)).getD 1 0)).getD 1 0+(numL S (a+(numL S (a)).getD 1 0+(numL S (a+(numL S (a)).getD 1 0)).getD 1 0)).getD 1 0+1);rw [show U.i 42=a+(numL S (a)).getD 1 0+(numL S (a+(numL S (a)).getD 1 0)).getD 1 0+(numL S (a+(numL S (a)).getD 1 0+(numL S (a+(numL S (a)).getD 1 0)).getD 1 0)).getD 1 0+1 by omega]))
                          ·have hc:=Qb0 (S:=S) (a:=a+(numL S (a)).getD 1 0) (k:=255) (last:=last) (by omega) (by rw [Qr];omega) (by omega) (by rw [Q6];omega)
                           exact Qpf (by omega) (by omega) hc (by omega) (by omega) (by first|(left;omega)|(right;rw [<-e60,<-e54];exact f61))
                        ·omega
                       ·omega
                     ·omega
                    ·omega
                   ·omega
                 ·omega
                ·omega
             ·refine ⟨fun f68=> ?_,fun f68=> ?_⟩<;>simp only [b68,sb] at f68
              ·refine hE.2 _ (Qbc (p:=a+(numL S (a)).getD 1 0+(numL S (a+(numL S (a)).getD 1 0)).getD 1 0) hj.xe (hj.gp.trans ?_) (by show AVal.int .i64 (U.i 25)=AVal.int .i64 (a+(numL S (a)).getD 1 0+(numL S (a+(numL S (a)).getD 1 0)).getD 1 0);rw [show U.i 25=a+(numL S (a)).getD 1 0+(numL S (a+(numL S (a)).getD 1 0)).getD 1 0 by omega]))
               ·exact Qfs (by omega) (by omega) (Qek (by omega) (by rw [Qr];omega) (by rw [Q6];omega))
              ·omega
            ·omega
           ·omega
          refine ⟨fun f29=> ?_,fun f29=> ?_⟩<;>simp only [b29,sb] at f29
          ·refine ⟨fun f30=> ?_,fun f30=> ?_⟩<;>simp only [b30,sb] at f30
           ·omega
           ·exact rest
          ·exact rest
        ·refine ⟨fun f66=> ?_,fun f66=> ?_⟩<;>simp only [b66,sb] at f66
         ·refine hE.2 _ (Qbc (p:=a+(numL S (a)).getD 1 0) hj.xe (hj.gp.trans ?_) (by show AVal.int .i64 (U.i 17)=AVal.int .i64 (a+(numL S (a)).getD 1 0);rw [show U.i 17=a+(numL S (a)).getD 1 0 by omega]))
          ·exact Qfs (by omega) (by omega) (Qej (by rw [Qr];omega))
         ·omega
       ·omega
      ·omega
    ·refine ⟨fun f63=> ?_,fun f63=> ?_⟩<;>simp only [b63,sb] at f63
     ·refine hE.2 _ (Qbc (p:=a) hj.xe (hj.gp.trans ?_) (by show AVal.int .i64 (U.i 1)=AVal.int .i64 (a);rw [show U.i 1=a by omega]))
      ·exact Qi6 (by omega)
     ·omega
   ·omega
  ·omega
 ·omega
theorem ex25 {E:Nat->Option Fz} {S:ByteArray} {img:Int} {V U:Sig} (ag:Agree 9 V U) (h: ∃f a last es,J25 E S img a f last es V): ∃f a last es,J25 E S img a f last es U:=
 let ⟨f,a,last,es,h⟩:=h
 ⟨f,a,last,es,h.agree ag⟩
abbrev B25 (W0:Fra) (Z:Exit->Act->World->Prop) (E:Nat->Option Fz) (S:ByteArray) (img:Int) (kk:Nat):Exit->Act->World->Prop:=
 Qkp Tryd.prog 4 ((Qe (Qc Tryd.f25)).drop 12) Z (InvS Qa 233 W0 Qhw 9 Qfz (fun V=> ∃f a last es,J25 E S img a f last es V) (fun V=>(1000001-V.i 1).toNat)) kk
set_option maxHeartbeats 4000000 in
theorem Qbl3 {W0:Fra} {Z:Exit->Act->World->Prop} {E:Nat->Option Fz} {S:ByteArray} {img:Int} (hE:Qsf W0 Z E S) (hpin: ∀i,W0.pin i≠none->pinW i Qup=true)
  (hC:Qg Tryd.prog Qa 233 W0 Z ((Qe (Qc Tryd.f25)).drop 12) Qmz 9 Qfz (fun V=> ∃a last es,M25 E S img a last es V)) (kk:Nat):
  Qg Tryd.prog Qa 233 W0 (B25 W0 Z E S img kk) (Qe (Qhy 11 (Qc Tryd.f25))) Qhw 9 Qfz (fun V=>(∃f a last es,J25 E S img a f last es V)/\(1000001-V.i 1).toNat=kk):=by
 refine Qg.last mixed Qbfo ⟨rfl,rfl⟩ (fun V U ag h=>⟨ex25 ag h.1,by rw [<-(ag.val 1 (by decide)).1];exact h.2⟩) (fun U h=>Qq) (fun U e ht hi hj=> ?_) hpin
 obtain ⟨⟨f,a,last,es,hj⟩,hkk⟩:=hj
 refine Qm ?_
 have hs:=hj.gs
 have ha:=hj.ga
 have hn:=hj.gn
 have hr:=hj.gr
 have hb:=hj.gb
 have hk6:=hj.gk
 have a7:=hj.a7
 have az:=hj.az
 have sz:=hj.sz
 have lr:=hj.lr
 have lb:=hj.lb
 have lk:=hj.lk
 have cn:=hj.cn
 have fu:=hj.fu
 obtain ⟨f',rfl⟩: ∃f',f=f'+1:=⟨f-1,by omega⟩
 have F:Facs U 9 Qmh:=facs e
 dsimp only [Qmh,Facs,fac1,facI,facS,facB,oI,oK,oB,oS,nmL,nm,Nat.reduceAdd] at F
 obtain ⟨i9,b10,b11,b12,b13,i14,i15,b16,b17,i18,i19,b20,b21,b22,b23,i24,i25,i26,b27,i28,i29,i30,b31,b32,b33,b34,b35,i36,i37,i38,b39,i40,i41,i42,b43,b44,b45,i46,i47,b48,b49,i50,b51,b52,s53,i54,b55,i56,b57,i58,i59,b60,b61,i62,b63,b64,b65,i66,b67,i68,b69,b70,-,s72,i73,b74,b75,-⟩:=F
 have s71:U.s 71=encX ⟨U.i 30,U.i 42,U.i 19,U.i 50⟩:=Qbl (e.at 62 _ rfl rfl)
 rw [hs] at i9
 rw [Qh] at i14 i15 i28 i40 i46 i47 i58 i59 i73
 have e14:U.i 14=a+1:=by omega
 have e15:U.i 15=a:=by omega
 have e18:U.i 18=bAt S a:=by rw [i18,hs,e15]
 have b18:=Qd S a
 have e19:U.i 19=bAt S a:=by rw [Qh] at i19;omega
 obtain ⟨v1,l1,c1,k1,k2,k3,k4,k5⟩:=Qfd ht hs e14 i24 i25 i26
 have e28:U.i 28=a+1+(numL S (a+1)).getD 1 0:=by omega
 obtain ⟨w1,m1,d1,q1,q2,q3,q4,q5⟩:=Qfd ht hs e28 i36 i37 i38
 clear i24 i25 i26 i36 i37 i38
 have e40:U.i 40=a+1+(numL S (a+1)).getD 1 0+(numL S (a+1+(numL S (a+1)).getD 1 0)).getD 1 0:=by omega
 have e46:U.i 46=a+1+(numL S (a+1)).getD 1 0+(numL S (a+1+(numL S (a+1)).getD 1 0)).getD 1 0+1:=by omega
 have e47:U.i 47=a+1+(numL S (a+1)).getD 1 0+(numL S (a+1+(numL S (a+1)).getD 1 0)).getD 1 0:=by omega
 have e58:U.i 58=a+1+(numL S (a+1)).getD 1 0+(numL S (a+1+(numL S (a+1)).getD 1 0)).getD 1 0+2:=by omega
 have e59:U.i 59=a+1+(numL S (a+1)).getD 1 0+(numL S (a+1+(numL S (a+1)).getD 1 0)).getD 1 0+1:=by omega
 rw [hs,e46] at s53
 have e53:U.s 53=S.extract 0 (a+1+(numL S (a+1)).getD 1 0+(numL S (a+1+(numL S (a+1)).getD 1 0)).getD 1 0+1).toNat:=s53
 have z53:0<=U.i 54/\U.i 54<=U.i 9:=by
  rw [i54,e53,ByteArray.size_extract];omega
 have e56:U.i 56=sumS (S.extract 0 (a+1+(numL S (a+1)).getD 1 0+(numL S (a+1+(numL S (a+1)).getD 1 0)).getD 1 0+1).toNat):=by
  have:=Qdz (ints (S.extract 0 (a+1+(numL S (a+1)).getD 1 0+(numL S (a+1+(numL S (a+1)).getD 1 0)).getD 1 0+1).toNat))
  rw [ht,e53,Qe8,wr_u8] at i56
  unfold sumS at i56⊢
  omega
 have e62:U.i 62=bAt S (a+1+(numL S (a+1)).getD 1 0+(numL S (a+1+(numL S (a+1)).getD 1 0)).getD 1 0+1):=by rw [i62,hs,e59]
 have e50:U.i 50=bAt S (a+1+(numL S (a+1)).getD 1 0+(numL S (a+1+(numL S (a+1)).getD 1 0)).getD 1 0):=by rw [i50,hs,e47]
 have e29:U.i 29=min ((numL S (a+1)).getD 0 0) 2199023255552:=by rw [i29];split<;>omega
 have e30:U.i 30=last.r+min ((numL S (a+1)).getD 0 0) 2199023255552:=by rw [Qf] at i30;omega
 have e41:U.i 41=min ((numL S (a+1+(numL S (a+1)).getD 1 0)).getD 0 0) 2199023255552:=by rw [i41];split<;>omega
 have e42:U.i 42=last.b+min ((numL S (a+1+(numL S (a+1)).getD 1 0)).getD 0 0) 2199023255552:=by rw [Qf] at i42;omega
 clear i14 i15 i18 i19 i28 i40 i46 i47 i58 i59 i29 i30 i41 i42 i50 i56 i62 s53
 refine ⟨fun f10=> ?_,fun f10=> ?_⟩<;>simp only [b10,sb] at f10
 ·refine ⟨fun f11=> ?_,fun f11=> ?_⟩<;>simp only [b11,sb] at f11
  ·refine ⟨fun f12=> ?_,fun f12=> ?_⟩<;>simp only [b12,sb] at f12
   ·refine ⟨fun f13=> ?_,fun f13=> ?_⟩<;>simp only [b13,sb] at f13
    ·refine EndZ.out (by simp) (EndZ.ret (hE.2 _ (Qbc (p:=a) hj.xe (hj.gp.trans (Qj5 (Qjd (by omega)))) (by show AVal.int .i64 (U.i 1)=AVal.int .i64 a;rw [ha]))))
    ·refine ⟨fun f16=> ?_,fun f16=> ?_⟩<;>simp only [b16,sb] at f16
     ·refine ⟨fun f17=> ?_,fun f17=> ?_⟩<;>simp only [b17,sb] at f17
      ·refine ⟨fun f20=> ?_,fun f20=> ?_⟩<;>simp only [b20,sb] at f20
       ·refine ⟨fun f21=> ?_,fun f21=> ?_⟩<;>simp only [b21,sb] at f21
        ·refine ⟨fun f64=> ?_,fun f64=> ?_⟩<;>simp only [b64,sb] at f64
         ·omega
         ·have hk1:=Qde (img:=img) (f:=f') (last:=last) (es:=es) (Qdd (S:=S) (a:=a) (by omega) (by omega))
          rw [show bAt S a=255 by omega,Qc4] at hk1
          exact EndZ.out (by simp) (EndZ.blk hC (.inr rfl) (insK (X:=Qqa) e hi) ⟨a+1,last,es,hj.gs,(by show U.i 14=a+1;omega),hj.gim,hj.gn,hj.gr,hj.gb,hj.gk,hj.gv,hj.gc,by omega,by omega,hj.sz,hj.lr,hj.lb,hj.lk,by omega,hj.gp.trans hk1,extS hj.xe⟩ (tabS ht))
        ·refine ⟨fun f64=> ?_,fun f64=> ?_⟩<;>simp only [b64,sb] at f64
         ·refine EndZ.out (by simp) (EndZ.ret (hE.2 _ (Qbc (p:=a) hj.xe (hj.gp.trans (Qj5 (Qjd (by omega)))) (by show AVal.int .i64 (U.i 1)=AVal.int .i64 a;rw [ha]))))
         ·omega
       ·refine ⟨fun f21=> ?_,fun f21=> ?_⟩<;>simp only [b21,sb] at f21
        ·omega
        ·refine ⟨fun f22=> ?_,fun f22=> ?_⟩<;>simp only [b22,sb] at f22
         ·refine ⟨fun f23=> ?_,fun f23=> ?_⟩<;>simp only [b23,sb] at f23
          ·refine ⟨fun f27=> ?_,fun f27=> ?_⟩<;>simp only [b27,sb] at f27
           ·refine ⟨fun f31=> ?_,fun f31=> ?_⟩<;>simp only [b31,sb] at f31
            ·have hk1:=Qde (img:=img) (f:=f') (last:=last) (es:=es) (Qdd (S:=S) (a:=a) (by omega) (by omega))
             refine EndZ.out (by simp) (EndZ.ret (hE.2 _ (Qbc (p:=a+1) hj.xe ((hj.gp.trans hk1).trans ?_) (by show AVal.int .i64 (U.i 14)=AVal.int .i64 (a+1);rw [show U.i 14=a+1 by omega]))))
             ·exact Qch (by omega) (Qds (Qej (by rw [Qr];omega)))
            ·have rest:U.i 38=0->U.i 42<=U.i 30->(0<U.i 24\/last.k<bAt S a)->(0<U.i 24\/U.i 36=0)->Qih U (EndZ Qa 233 W0 (B25 W0 Z E S img kk)) Quq:=by
              intro r1 r2 r3 r4
              refine ⟨fun f45=> ?_,fun f45=> ?_⟩<;>simp only [b45,sb] at f45
              ·have hk1:=Qde (img:=img) (f:=f') (last:=last) (es:=es) (Qdd (S:=S) (a:=a) (by omega) (by omega))
               refine EndZ.out (by simp) (EndZ.ret (hE.2 _ (Qbc (p:=a+1+(numL S (a+1)).getD 1 0+(numL S (a+1+(numL S (a+1)).getD 1 0)).getD 1 0) hj.xe ((hj.gp.trans hk1).trans ?_) (by show AVal.int .i64 (U.i 40)=AVal.int .i64 (a+1+(numL S (a+1)).getD 1 0+(numL S (a+1+(numL S (a+1)).getD 1 0)).getD 1 0);rw [show U.i 40=a+1+(numL S (a+1)).getD 1 0+(numL S (a+1+(numL S (a+1)).getD 1 0)).getD 1 0 by omega]))))
               ·have hc:=Qb0 (S:=S) (a:=a+1) (k:=bAt S a) (last:=last) (by omega) (by rw [Qr];omega) (by omega) (by rw [Q6];omega)
                exact Qch (by omega) (Qzs hc (by omega))
              ·refine ⟨fun f48=> ?_,fun f48=> ?_⟩<;>simp only [b48,sb] at f48
               ·refine ⟨fun f49=> ?_,fun f49=> ?_⟩<;>simp only [b49,sb] at f49
                ·refine ⟨fun f51=> ?_,fun f51=> ?_⟩<;>simp only [b51,sb] at f51
                 ·refine ⟨fun f52=> ?_,fun f52=> ?_⟩<;>simp only [b52,sb] at f52
                  ·refine ⟨fun f55=> ?_,fun f55=> ?_⟩<;>simp only [b55,sb] at f55
                   ·refine ⟨fun f57=> ?_,fun f57=> ?_⟩<;>simp only [b57,sb] at f57
                    ·have hk1:=Qde (img:=img) (f:=f') (last:=last) (es:=es) (Qdd (S:=S) (a:=a) (by omega) (by omega))
                     refine EndZ.out (by simp) (EndZ.ret (hE.2 _ (Qbc (p:=a+1+(numL S (a+1)).getD 1 0+(numL S (a+1+(numL S (a+1)).getD 1 0)).getD 1 0+1) hj.xe ((hj.gp.trans hk1).trans ?_) (by show AVal.int .i64 (U.i 46)=AVal.int .i64 (a+1+(numL S (a+1)).getD 1 0+(numL S (a+1+(numL S (a+1)).getD 1 0)).getD 1 0+1);rw [show U.i 46=a+1+(numL S (a+1)).getD 1 0+(numL S (a+1+(numL S (a+1)).getD 1 0)).getD 1 0+1 by omega]))))
                     ·have hc:=Qb0 (S:=S) (a:=a+1) (k:=bAt S a) (last:=last) (by omega) (by rw [Qr];omega) (by omega) (by rw [Q6];omega)
                      exact Qch (by omega) (Qo1 hc (by omega) (by first|(left;omega)|(right;rw [<-e62,<-e56];exact f63)))
                    ·refine ⟨fun f60=> ?_,fun f60=> ?_⟩<;>simp only [b60,sb] at f60
                     ·refine ⟨fun f61=> ?_,fun f61=> ?_⟩<;>simp only [b61,sb] at f61
                      ·refine ⟨fun f63=> ?_,fun f63=> ?_⟩<;>simp only [b63,sb] at f63
                       ·refine ⟨fun f74=> ?_,fun f74=> ?_⟩<;>simp only [b74,sb] at f74
                        ·refine ⟨fun f75=> ?_,fun f75=> ?_⟩<;>simp only [b75,sb] at f75
                         ·have hk1:=Qde (img:=img) (f:=f') (last:=last) (es:=es) (Qdd (S:=S) (a:=a) (by omega) (by omega))
                          have hc:=Qb0 (S:=S) (a:=a+1) (k:=bAt S a) (last:=last) (by omega) (by rw [Qr];omega) (by omega) (by rw [Q6];omega)
                          have hn:=Qo0 hc (by omega) (by rw [<-e62,<-e56];exact f63)
                          refine EndZ.loop (insK (X:=Qqa) e hi) ⟨f',a+1+(numL S (a+1)).getD 1 0+(numL S (a+1+(numL S (a+1)).getD 1 0)).getD 1 0+2,⟨last.r+min ((numL S (a+1)).getD 0 0) 2199023255552,last.b+min ((numL S (a+1+(numL S (a+1)).getD 1 0)).getD 0 0) 2199023255552,bAt S a,bAt S (a+1+(numL S (a+1)).getD 1 0+(numL S (a+1+(numL S (a+1)).getD 1 0)).getD 1 0)⟩,es++[⟨last.r+min ((numL S (a+1)).getD 0 0) 2199023255552,last.b+min ((numL S (a+1+(numL S (a+1)).getD 1 0)).getD 0 0) 2199023255552,bAt S a,bAt S (a+1+(numL S (a+1)).getD 1 0+(numL S (a+1+(numL S (a+1)).getD 1 0)).getD 1 0)⟩],hj.gs,(by show U.i 58=_;omega),hj.gim,(by show U.i 73=_;rw [List.length_append,List.length_singleton];omega),(by show U.i 30=last.r+min ((numL S (a+1)).getD 0 0) 2199023255552;omega),(by show U.i 42=last.b+min ((numL S (a+1+(numL S (a+1)).getD 1 0)).getD 0 0) 2199023255552;omega),(by show U.i 19=bAt S a;omega),e50,?_,by omega,by omega,hj.sz,(by show 0<=last.r+min ((numL S (a+1)).getD 0 0) 2199023255552/\last.r+min ((numL S (a+1)).getD 0 0) 2199023255552<=1099511627776;omega),(by show 0<=last.b+min ((numL S (a+1+(numL S (a+1)).getD 1 0)).getD 0 0) 2199023255552/\last.b+min ((numL S (a+1+(numL S (a+1)).getD 1 0)).getD 0 0) 2199023255552<=last.r+min ((numL S (a+1)).getD 0 0) 2199023255552;omega),(by show bAt S a<=2;omega),by omega,(by rw [List.length_append,List.length_singleton];push_cast;omega),?_,extS hj.xe⟩ (tabS ht) ?_
                          ·show U.s 72=_
                           rw [s72,s71,hj.gc,Lgp.encL_snoc,e50,e19,e30,e42]
                          ·rw [hj.gp,hk1,Qrh (by omega) hn]
                           rfl
                          ·show (1000001-U.i 58).toNat<kk
                           omega
                         ·omega
                        ·omega
                       ·have hk1:=Qde (img:=img) (f:=f') (last:=last) (es:=es) (Qdd (S:=S) (a:=a) (by omega) (by omega))
                        refine EndZ.out (by simp) (EndZ.ret (hE.2 _ (Qbc (p:=a+1+(numL S (a+1)).getD 1 0+(numL S (a+1+(numL S (a+1)).getD 1 0)).getD 1 0+1) hj.xe ((hj.gp.trans hk1).trans ?_) (by show AVal.int .i64 (U.i 46)=AVal.int .i64 (a+1+(numL S (a+1)).getD 1 0+(numL S (a+1+(numL S (a+1)).getD 1 0)).getD 1 0+1);rw [show U.i 46=a+1+(numL S (a+1)).getD 1 0+(numL S (a+1+(numL S (a+1)).getD 1 0)).getD 1 0+1 by omega]))))
                        ·have hc:=Qb0 (S:=S) (a:=a+1) (k:=bAt S a) (last:=last) (by omega) (by rw [Qr];omega) (by omega) (by rw [Q6];omega)
                         exact Qch (by omega) (Qo1 hc (by omega) (by first|(left;omega)|(right;rw [<-e62,<-e56];exact f63)))
                      ·omega
                     ·omega
                   ·omega
                  ·omega
                 ·omega
                ·omega
               ·omega
             refine ⟨fun f32=> ?_,fun f32=> ?_⟩<;>simp only [b32,sb] at f32
             ·refine ⟨fun f33=> ?_,fun f33=> ?_⟩<;>simp only [b33,sb] at f33
              ·have hk1:=Qde (img:=img) (f:=f') (last:=last) (es:=es) (Qdd (S:=S) (a:=a) (by omega) (by omega))
               refine EndZ.out (by simp) (EndZ.ret (hE.2 _ (Qbc (p:=a+1) hj.xe ((hj.gp.trans hk1).trans ?_) (by show AVal.int .i64 (U.i 14)=AVal.int .i64 (a+1);rw [show U.i 14=a+1 by omega]))))
               ·exact Qch (by omega) (Qds (Qej (by rw [Qr];omega)))
              ·refine ⟨fun f34=> ?_,fun f34=> ?_⟩<;>simp only [b34,sb] at f34
               ·refine ⟨fun f35=> ?_,fun f35=> ?_⟩<;>simp only [b35,sb] at f35
                ·refine ⟨fun f39=> ?_,fun f39=> ?_⟩<;>simp only [b39,sb] at f39
                 ·refine ⟨fun f43=> ?_,fun f43=> ?_⟩<;>simp only [b43,sb] at f43
                  ·have hk1:=Qde (img:=img) (f:=f') (last:=last) (es:=es) (Qdd (S:=S) (a:=a) (by omega) (by omega))
                   refine EndZ.out (by simp) (EndZ.ret (hE.2 _ (Qbc (p:=a+1+(numL S (a+1)).getD 1 0) hj.xe ((hj.gp.trans hk1).trans ?_) (by show AVal.int .i64 (U.i 28)=AVal.int .i64 (a+1+(numL S (a+1)).getD 1 0);rw [show U.i 28=a+1+(numL S (a+1)).getD 1 0 by omega]))))
                   ·exact Qch (by omega) (Qds (Qek (by omega) (by rw [Qr];omega) (by rw [Q6];omega)))
                  ·refine ⟨fun f44=> ?_,fun f44=> ?_⟩<;>simp only [b44,sb] at f44
                   ·refine ⟨fun f69=> ?_,fun f69=> ?_⟩<;>simp only [b69,sb] at f69
                    ·have hk1:=Qde (img:=img) (f:=f') (last:=last) (es:=es) (Qdd (S:=S) (a:=a) (by omega) (by omega))
                     refine EndZ.out (by simp) (EndZ.ret (hE.2 _ (Qbc (p:=a+1+(numL S (a+1)).getD 1 0) hj.xe ((hj.gp.trans hk1).trans ?_) (by show AVal.int .i64 (U.i 28)=AVal.int .i64 (a+1+(numL S (a+1)).getD 1 0);rw [show U.i 28=a+1+(numL S (a+1)).getD 1 0 by omega]))))
                     ·exact Qch (by omega) (Qds (Qek (by omega) (by rw [Qr];omega) (by rw [Q6];omega)))
                    ·omega
                   ·exact rest (by omega) (by omega) (by omega) (by omega)
                 ·refine ⟨fun f67=> ?_,fun f67=> ?_⟩<;>simp only [b67,sb] at f67
                  ·have hk1:=Qde (img:=img) (f:=f') (last:=last) (es:=es) (Qdd (S:=S) (a:=a) (by omega) (by omega))
                   refine EndZ.out (by simp) (EndZ.ret (hE.2 _ (Qbc (p:=a+1+(numL S (a+1)).getD 1 0) hj.xe ((hj.gp.trans hk1).trans ?_) (by show AVal.int .i64 (U.i 28)=AVal.int .i64 (a+1+(numL S (a+1)).getD 1 0);rw [show U.i 28=a+1+(numL S (a+1)).getD 1 0 by omega]))))
                   ·exact Qch (by omega) (Qds (Qek (by omega) (by rw [Qr];omega) (by rw [Q6];omega)))
                  ·omega
                ·omega
               ·omega
             ·refine ⟨fun f34=> ?_,fun f34=> ?_⟩<;>simp only [b34,sb] at f34
              ·refine ⟨fun f35=> ?_,fun f35=> ?_⟩<;>simp only [b35,sb] at f35
               ·refine ⟨fun f39=> ?_,fun f39=> ?_⟩<;>simp only [b39,sb] at f39
                ·refine ⟨fun f43=> ?_,fun f43=> ?_⟩<;>simp only [b43,sb] at f43
                 ·have hk1:=Qde (img:=img) (f:=f') (last:=last) (es:=es) (Qdd (S:=S) (a:=a) (by omega) (by omega))
                  refine EndZ.out (by simp) (EndZ.ret (hE.2 _ (Qbc (p:=a+1+(numL S (a+1)).getD 1 0) hj.xe ((hj.gp.trans hk1).trans ?_) (by show AVal.int .i64 (U.i 28)=AVal.int .i64 (a+1+(numL S (a+1)).getD 1 0);rw [show U.i 28=a+1+(numL S (a+1)).getD 1 0 by omega]))))
                  ·exact Qch (by omega) (Qds (Qek (by omega) (by rw [Qr];omega) (by rw [Q6];omega)))
                 ·exact rest (by omega) (by omega) (by omega) (by omega)
                ·refine ⟨fun f67=> ?_,fun f67=> ?_⟩<;>simp only [b67,sb] at f67
                 ·have hk1:=Qde (img:=img) (f:=f') (last:=last) (es:=es) (Qdd (S:=S) (a:=a) (by omega) (by omega))
                  refine EndZ.out (by simp) (EndZ.ret (hE.2 _ (Qbc (p:=a+1+(numL S (a+1)).getD 1 0) hj.xe ((hj.gp.trans hk1).trans ?_) (by show AVal.int .i64 (U.i 28)=AVal.int .i64 (a+1+(numL S (a+1)).getD 1 0);rw [show U.i 28=a+1+(numL S (a+1)).getD 1 0 by omega]))))
                  ·exact Qch (by omega) (Qds (Qek (by omega) (by rw [Qr];omega) (by rw [Q6];omega)))
                 ·omega
               ·omega
              ·omega
           ·refine ⟨fun f65=> ?_,fun f65=> ?_⟩<;>simp only [b65,sb] at f65
            ·have hk1:=Qde (img:=img) (f:=f') (last:=last) (es:=es) (Qdd (S:=S) (a:=a) (by omega) (by omega))
             refine EndZ.out (by simp) (EndZ.ret (hE.2 _ (Qbc (p:=a+1) hj.xe ((hj.gp.trans hk1).trans ?_) (by show AVal.int .i64 (U.i 14)=AVal.int .i64 (a+1);rw [show U.i 14=a+1 by omega]))))
             ·exact Qch (by omega) (Qds (Qej (by rw [Qr];omega)))
            ·omega
          ·omega
         ·omega
      ·omega
     ·omega
   ·omega
  ·omega
 ·omega
set_option maxHeartbeats 4000000 in
theorem st25 {W0:Fra} {Z:Exit->Act->World->Prop} {E:Nat->Option Fz} {S:ByteArray} (sz:S.size<=1000000) (hE:Qsf W0 Z E S) (hpA: ∀i,W0.pin i≠none->pinW i Q20=true) (hpB: ∀i,W0.pin i≠none->pinW i Qup=true) (hpC: ∀i,W0.pin i≠none->pinW i Qur=true):
  Qg Tryd.prog Qa 233 W0 Z (Qe (Qc Tryd.f25)) Q4x 1 [none] (fun V=>V.s 0=S/\V.ext=E):=by
 rw [show Qe (Qc Tryd.f25)=(Qe (Qc Tryd.f25)).take 11++(.block 4 (.loop (Qhy 11 (Qc Tryd.f25)))::(Qe (Qc Tryd.f25)).drop 12) from rfl]
 have hC: ∀img,Qg Tryd.prog Qa 233 W0 Z ((Qe (Qc Tryd.f25)).drop 12) Qmz 9 Qfz (fun V=> ∃a last es,M25 E S img a last es V):=by
  intro img a w V hA hi hj ht
  obtain ⟨p,last,es,hj⟩:=hj
  exact Qbl4 hE hpC a w V hA hi hj ht
 have hL: ∀img,Qg Tryd.prog Qa 233 W0 Z (.block 4 (.loop (Qhy 11 (Qc Tryd.f25)))::(Qe (Qc Tryd.f25)).drop 12) Qhw 9 Qfz (fun V=> ∃f a last es,J25 E S img a f last es V):=fun img=>
  Qg.loopS (μ:=fun V=>(1000001-V.i 1).toNat) (fun kk=>Qbl3 hE hpB (hC img) kk)
 refine Qg.seg (S2:=Qhw) (q2:=9) (ins2:=Qfz) (J2:=fun V=> ∃f a last es,J25 E S (((bAt S 3*256+bAt S 4)*256+bAt S 5)*256+bAt S 6) a f last es V) mixed Qbfl ⟨rfl,rfl⟩ (fun V U ag h=>⟨by rw [<-(ag.val 0 (by decide)).2.2];exact h.1,by rw [<-ag.ext];exact h.2⟩) (fun U h=>Qq) (hL _) (fun U e ht hi hj=> ?_) hpA
 obtain ⟨hs,hx⟩:=hj
 refine Qm ?_
 have c0:=Qd S 0
 have c1:=Qd S 1
 have c2:=Qd S 2
 have c3:=Qd S 3
 have c4:=Qd S 4
 have c5:=Qd S 5
 have c6:=Qd S 6
 have F:Facs U 1 Qmg:=facs e
 dsimp only [Qmg,Facs,fac1,facI,facS,facB,oI,oK,oB,oS,nmL,nm,Nat.reduceAdd] at F
 obtain ⟨i1,b2,b3,i4,b5,b6,b7,i8,b9,b10,b11,i12,b13,b14,b15,i16,i17,i18,i19,b20,i21,i22,i23,i24,b25,i26,i27,i28,i29,b30,i31,i32,i33,-⟩:=F
 rw [hs] at i1 i4 i8 i12 i16 i21 i26 i31
 rw [Qef] at i17 i18 i19 i22 i23 i24 i27 i28 i29 i32 i33
 have e33:U.i 33=((bAt S 3*256+bAt S 4)*256+bAt S 5)*256+bAt S 6:=by omega
 clear i17 i18 i19 i22 i23 i24 i27 i28 i29 i32 i33
 refine ⟨fun f2=> ?_,fun f2=> ?_⟩<;>simp only [b2,sb] at f2
 ·refine .inr ⟨by simp,hE.2 _ (Qbc (p:=0) hx ?_ rfl)⟩
  ·exact Qdm (Qpl (by omega))
 ·refine ⟨fun f3=> ?_,fun f3=> ?_⟩<;>simp only [b3,sb] at f3
  ·refine ⟨fun f5=> ?_,fun f5=> ?_⟩<;>simp only [b5,sb] at f5
   ·refine .inr ⟨by simp,hE.2 _ (Qbc (p:=0) hx ?_ rfl)⟩
    ·exact Qdm (Qpl (by omega))
   ·refine ⟨fun f6=> ?_,fun f6=> ?_⟩<;>simp only [b6,sb] at f6
    ·refine .inr ⟨by simp,hE.2 _ (Qbc (p:=1) hx ?_ rfl)⟩
     ·exact Qdm (Qpm (by omega) (by omega) (by omega))
    ·refine ⟨fun f7=> ?_,fun f7=> ?_⟩<;>simp only [b7,sb] at f7
     ·refine ⟨fun f9=> ?_,fun f9=> ?_⟩<;>simp only [b9,sb] at f9
      ·refine .inr ⟨by simp,hE.2 _ (Qbc (p:=1) hx ?_ rfl)⟩
       ·exact Qdm (Qpm (by omega) (by omega) (by omega))
      ·refine ⟨fun f10=> ?_,fun f10=> ?_⟩<;>simp only [b10,sb] at f10
       ·refine .inr ⟨by simp,hE.2 _ (Qbc (p:=2) hx ?_ rfl)⟩
        ·exact Qdm (Qpn (by omega) (by omega) (by omega) (by omega))
       ·refine ⟨fun f11=> ?_,fun f11=> ?_⟩<;>simp only [b11,sb] at f11
        ·refine ⟨fun f13=> ?_,fun f13=> ?_⟩<;>simp only [b13,sb] at f13
         ·refine .inr ⟨by simp,hE.2 _ (Qbc (p:=2) hx ?_ rfl)⟩
          ·exact Qdm (Qpn (by omega) (by omega) (by omega) (by omega))
         ·refine ⟨fun f14=> ?_,fun f14=> ?_⟩<;>simp only [b14,sb] at f14
          ·refine .inr ⟨by simp,hE.2 _ (Qbc (p:=3) hx ?_ rfl)⟩
           ·have hh:=Qi9 (S:=S) (by omega) (by omega) (by omega) (by omega)
            rw [if_pos (by omega)] at hh
            exact Qdm hh
          ·refine ⟨fun f15=> ?_,fun f15=> ?_⟩<;>simp only [b15,sb] at f15
           ·refine ⟨fun f20=> ?_,fun f20=> ?_⟩<;>simp only [b20,sb] at f20
            ·refine ⟨fun f25=> ?_,fun f25=> ?_⟩<;>simp only [b25,sb] at f25
             ·refine ⟨fun f30=> ?_,fun f30=> ?_⟩<;>simp only [b30,sb] at f30
              ·have hh:=Qi9 (S:=S) (by omega) (by omega) (by omega) (by omega)
               rw [if_neg (by omega)] at hh
               refine .inl ⟨rfl,rfl,insK (X:=Qht) e hi,⟨S.size+1,7,noE,[],hs,rfl,e33,rfl,rfl,rfl,rfl,rfl,rfl,by decide,by omega,sz,(by decide),(by decide),(by decide),by omega,by decide,?_,extS hx⟩,tabS ht⟩
               exact Qri hh
              ·omega
             ·omega
            ·omega
           ·omega
        ·omega
     ·omega
  ·omega
def L25:Asg:=[(4,.w 4),(3,.i 3),(5,.i 5),(6,.u 6),(7,.u 7),(8,.i 8),(4,.w 4),(3,.i 3),(5,.i 5),(6,.u 6),(7,.u 7),(8,.i 8),(2,.s 2),(3,.i 3)]
theorem c25:SymFOk Tryd.prog Qa (fun _=>True) sf25:=
 Qb2 Tryd.func25 rfl (n:=233) rfl (by decide) (by decide) rfl rfl (by kernel_rfl) (fun g w hg _ hE hI hpc hH=>by
  have q0:=hpc (.bin .leq (.symi .i64 1) (.int .i64 1000000)) (by simp [sf25])
  have q1:=hpc (.fnb 576 [.syms 0]) (by simp [sf25])
  have g1:g.sig.i 1=((g.sig.s 0).size:Nat):=Qel (hE.at 0 _ rfl rfl)
  simp only [Qb,den,binS,intA,if_true,Option.some.injEq,AVal.bool.injEq,decide_eq_true_eq] at q0
  have q1:(!(g.sig.tab 576 [encB (g.sig.s 0)]==0))=true:=by
   simp only [Qb,List.map,den,numS,Option.some.injEq,AVal.bool.injEq] at q1
   exact q1
  rw [hg,lg_ok] at q1
  have g2:g.sig.s 2=decS (g.sig.tab 578 [encB (g.sig.s 0)]):=eqFs (hE.at 1 _ rfl rfl)
  have g3:g.sig.i 3=IntKind.i64.wrap (g.sig.tab 579 [encB (g.sig.s 0)]):=eqFn (hE.at 2 _ rfl rfl)
  have g4:g.sig.i 4=IntKind.u32.wrap (g.sig.tab 580 [encB (g.sig.s 0)]):=eqFn (hE.at 3 _ rfl rfl)
  have g5:g.sig.i 5=IntKind.i64.wrap (g.sig.tab 581 [encB (g.sig.s 0)]):=eqFn (hE.at 4 _ rfl rfl)
  have g6:g.sig.i 6=IntKind.u64.wrap (g.sig.tab 582 [encB (g.sig.s 0)]):=eqFn (hE.at 5 _ rfl rfl)
  have g7:g.sig.i 7=IntKind.u64.wrap (g.sig.tab 583 [encB (g.sig.s 0)]):=eqFn (hE.at 6 _ rfl rfl)
  have g8:g.sig.i 8=IntKind.i64.wrap (g.sig.tab 584 [encB (g.sig.s 0)]):=eqFn (hE.at 7 _ rfl rfl)
  obtain ⟨v3,v4,v5,v6,v7,v8⟩:=Qvc (g.sig.s 0)
  rw [hg,lg_es] at g2
  rw [hg,v3,Qh] at g3
  rw [hg,v4,Qef] at g4
  rw [hg,v5,Qh] at g5
  rw [hg,v6,Qf] at g6
  rw [hg,v7,Qf] at g7
  rw [hg,v8,Qh] at g8
  have hst:=st25 (W0:=Qw g w sf25.pre.length) (Z:=bodyPost Tryd.prog Tryd.f25 (MemR Qa sf25 g w)) (E:=g.sig.ext) (S:=g.sig.s 0) (by omega) ⟨fun V l hk=> ?_,fun V hk=>EndZ.none ?_⟩ (pin0 (by kernel_rfl)) (pin0 (by kernel_rfl)) (pin0 (by kernel_rfl))
  ·intro a w' V hA hi hj ht
   exact hst a w' V hA hi ⟨(hj.val 0 (by decide)).2.2.symm,hj.ext.symm⟩ ht
  ·have hv:(par (g.sig.s 0)).val=l:=by rw [hk.p];rfl
   rw [hv] at g2 g3 g4 g5 g6 g7 g8
   obtain ⟨b1,b2,b3,b4,b5,b6,b7,b8,b9,b10⟩:=Q0t hk.p
   have nb:=hk.nb
   have e2:V.s 2=g.sig.s 2:=by rw [hk.c,g2]
   have e3:V.i 3=g.sig.i 3:=by rw [hk.n];omega
   have e4:V.i 4=g.sig.i 4:=by rw [hk.im];omega
   have e5:V.i 5=g.sig.i 5:=by rw [hk.cy];omega
   have e6:V.i 6=g.sig.i 6:=by rw [hk.re];omega
   have e7:V.i 7=g.sig.i 7:=by rw [hk.br];omega
   have e8:V.i 8=g.sig.i 8:=by rw [hk.ou];omega
   exact Qbw (M:=9) (l:=L25) (vs:=[.agg Qql,.agg [.int .i64 0,.int .i64 0]]) (by kernel_rfl) rfl rfl hH hg rfl rfl rfl (by kernel_rfl) (by kernel_rfl) ⟨congrArg (AVal.int .u32) e4,congrArg (AVal.int .i64) e3,congrArg (AVal.int .i64) e5,congrArg (AVal.int .u64) e6,congrArg (AVal.int .u64) e7,congrArg (AVal.int .i64) e8,congrArg (AVal.int .u32) e4,congrArg (AVal.int .i64) e3,congrArg (AVal.int .i64) e5,congrArg (AVal.int .u64) e6,congrArg (AVal.int .u64) e7,congrArg (AVal.int .i64) e8,congrArg AVal.str e2,congrArg (AVal.int .i64) e3,trivial⟩ (by decide) hk.xe (.inl rfl)
  ·rw [hk.p] at q1
   cases q1)
def L25p:Asg:=[(2,.i 2),(2,.i 2)]
theorem c25p:SymFOk Tryd.prog Qa (fun _=>True) Qhb:=
 Qb2 Tryd.func25 rfl (n:=233) rfl (by decide) (by decide) rfl rfl (by kernel_rfl) (fun g w hg _ hE hI hpc hH=>by
  have q0:=hpc (.bin .leq (.symi .i64 1) (.int .i64 1000000)) (by simp [Qhb])
  have q1:=hpc (.fnb 585 [.syms 0]) (by simp [Qhb])
  have g1:g.sig.i 1=((g.sig.s 0).size:Nat):=Qel (hE.at 0 _ rfl rfl)
  simp only [Qb,den,binS,intA,if_true,Option.some.injEq,AVal.bool.injEq,decide_eq_true_eq] at q0
  have q1:(!(g.sig.tab 585 [encB (g.sig.s 0)]==0))=true:=by
   simp only [Qb,List.map,den,numS,Option.some.injEq,AVal.bool.injEq] at q1
   exact q1
  rw [hg,Qvb] at q1
  have g2:g.sig.i 2=IntKind.i64.wrap (g.sig.tab 577 [encB (g.sig.s 0)]):=eqFn (hE.at 1 _ rfl rfl)
  rw [hg,lg_at,Qh] at g2
  have hst:=st25 (W0:=Qw g w Qhb.pre.length) (Z:=bodyPost Tryd.prog Tryd.f25 (MemR Qa Qhb g w)) (E:=g.sig.ext) (S:=g.sig.s 0) (by omega) ⟨fun V l hk=>EndZ.none ?_,fun V hk=> ?_⟩ (pin0 (by kernel_rfl)) (pin0 (by kernel_rfl)) (pin0 (by kernel_rfl))
  ·intro a w' V hA hi hj ht
   exact hst a w' V hA hi ⟨(hj.val 0 (by decide)).2.2.symm,hj.ext.symm⟩ ht
  ·rw [hk.p] at q1
   cases q1
  ·have hp:=hk.p
   have hb:=Q6m hp
   rw [hp] at g2
   have e2:V.i 2=g.sig.i 2:=by
    rw [g2]
    obtain ⟨x1,x2⟩:=hb
    show V.i 2=(V.i 2+9223372036854775808)%18446744073709551616-9223372036854775808
    omega
   exact Qbw (M:=3) (l:=L25p) (vs:=[.agg Qm2,.agg [.int .i64 26,.symi .i64 2]]) (by kernel_rfl) rfl rfl hH hg rfl rfl rfl (by kernel_rfl) (by kernel_rfl) ⟨congrArg (AVal.int .i64) e2,congrArg (AVal.int .i64) e2,trivial⟩ (by decide) hk.xe (.inl rfl))
end Go.Proofs.YtelimhjceiamcaaDoor.lg
