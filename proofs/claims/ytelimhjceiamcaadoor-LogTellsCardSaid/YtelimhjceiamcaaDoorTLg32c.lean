/-
 What is known at the loop of log's reader; behind it.
 No conditions.
-/
import Derived.Test.YtelimhjceiamcaaDoorTLgs
namespace Go.Proofs.YtelimhjceiamcaaDoor.lg
open Go.Ev Go.RowKit Go.Wbp Go.Lgp
open Go.Proofs.YtelimhjceiamcaaDoor.lgn (mixed sf48 Qbu)
set_option linter.unusedVariables false
set_option linter.unusedSimpArgs false
structure J32 (E:Nat->Option Fz) (S:ByteArray) (img a:Int) (f:Nat) (last:En) (es:List En) (k:Int) (V:Sig):Prop where
 gs:V.s 0=S
 ga:V.i 1=a
 gim:V.i 2=img
 gn:V.i 3=(es.length:Nat)
 gr:V.i 4=last.r
 gb:V.i 5=last.b
 gk:V.i 6=last.k
 gv:V.i 7=last.v
 gc:V.s 8=encL es
 gkd:V.i 9=k
 a8:8<=a
 az:a<=(S.size:Nat)
 sz:S.size<=1000000
 lr:0<=last.r/\last.r<=1099511627776
 lb:0<=last.b/\last.b<=last.r
 lk:last.k<=2
 fu:((S.size:Nat):Int)-a<=(f:Nat)
 cn:5*((es.length:Nat):Int)<=a
 kk:(0<=k/\k<=2)\/k=255
 gp:par S=parK S img f a last es k
 xe:V.ext=E
theorem J32.agree {E:Nat->Option Fz} {S:ByteArray} {img a:Int} {f:Nat} {last:En} {es:List En} {k:Int} {V U:Sig} (ag:Agree 10 V U) (h:J32 E S img a f last es k V):J32 E S img a f last es k U:=by
  cases h;constructor<;>first|assumption|(simp (disch:=decide) only [ag.iv,ag.bv,ag.sv,ag.xv];assumption)
structure Ok32 (E:Nat->Option Fz) (S:ByteArray) (l:Lg) (V:Sig):Prop where
 s:V.s 0=S
 p:par S=.ok l
 c:V.s 2=encL l.es
 n:V.i 3=(l.es.length:Nat)
 im:V.i 4=l.img
 cy:V.i 5=l.cyc
 re:V.i 6=l.ret
 br:V.i 7=l.br
 ou:V.i 8=l.out
 nb:l.es.length<=1000000
 xe:V.ext=E
structure Bad32 (E:Nat->Option Fz) (S:ByteArray) (V:Sig):Prop where
 s:V.s 0=S
 p:par S=.bad (V.i 2)
 xe:V.ext=E
theorem Qba {E:Nat->Option Fz} {S:ByteArray} {U:Sig} {x:AVal} {p:Int} (hs:U.s 0=S) (hx:U.ext=E) (hp:par S=.bad p) (hv:valS U x=.int .i64 p):Bad32 E S (asgS U ([(0,.syms 0)]++[(2,x)])):=
 ⟨hs,by rw [hp];show _=Rd.bad (iOf (valS U x));rw [hv];rfl,extS hx⟩
abbrev Ends (W0:Fra) (Z:Exit->Act->World->Prop) (E:Nat->Option Fz) (S:ByteArray):Prop:=
 (∀(V:Sig) (l:Lg),Ok32 E S l V->EndZ Qa 84 W0 Z .ret Q5i V)/\ ∀V:Sig,Bad32 E S V->EndZ Qa 84 W0 Z (.pan (corA 2)) Q8 V
set_option maxHeartbeats 4000000 in
theorem Qbnp {W0:Fra} {Z:Exit->Act->World->Prop} {E:Nat->Option Fz} {S:ByteArray} {img a:Int} {f:Nat} {last:En} {es:List En} (hE:Ends W0 Z E S) (hpin: ∀i,W0.pin i≠none->pinW i Qvf=true):
  Qf Tryd.prog Qa 84 W0 Z ((Qe (Qc Tryd.f32)).drop 5) Qei 10 Qf9 (J32 E S img a f last es 255):=by
 refine Qf.last mixed Qbhb ⟨rfl,rfl⟩ (fun V U ag h=>h.agree ag) (fun U h=>Qv) (fun U e ht hi hj=> ?_) hpin;refine Qp ?_;have hk:(255:Int)=255:=rfl;have hs:=hj.gs;have ha:=hj.ga;have hn:=hj.gn;have hr:=hj.gr;have hb:=hj.gb;have hk6:=hj.gk;have hkd:=hj.gkd;have a8:=hj.a8;have az:=hj.az;have sz:=hj.sz;have lr:=hj.lr;have lb:=hj.lb;have cn:=hj.cn;have lk:=hj.lk;have F:Facs U 10 Qm7:=facs e;dsimp only [Qm7,Facs,fac1,facI,facS,facB,oI,oK,oB,oS,nmL,nm,Nat.reduceAdd] at F;obtain ⟨i10,b11,b12,b13,i14,i15,i16,b17,i18,b19,b20,i21,i22,i23,b24,i25,b26,b27,i28,i29,i30,b31,i32,b33,b34,i35,s36,i37,b38,b39,i40,b41,b42,i43,b44,i45,i46,i47,b48,b49,b50,b51,b52,i53,i54,i55,b56,b57,b58,i59,b60,b61,i62,b63,b64,i65,b66,b67,i68,i69,b70,b71,i72,i73,b74,b75,i76,b77,b78,b79,-⟩:=F;rw [hs] at i10;rw [Qh] at i18 i25 i32 i35 i73;obtain ⟨v1,l1,c1,k1,k2,k3,k4,k5⟩:=Qfj ht hs ha i14 i15 i16;have e18:U.i 18=a+(numL S a).getD 1 0:=by omega
 obtain ⟨w1,m1,d1,q1,q2,q3,q4,q5⟩:=Qfj ht hs e18 i21 i22 i23;have e25:U.i 25=a+(numL S a).getD 1 0+(numL S (a+(numL S a).getD 1 0)).getD 1 0:=by omega
 obtain ⟨x1,y1,z1,s1,s2,s3,s4,s5⟩:=Qfj ht hs e25 i28 i29 i30;clear i14 i15 i16 i21 i22 i23 i28 i29 i30;have e32:U.i 32=a+(numL S a).getD 1 0+(numL S (a+(numL S a).getD 1 0)).getD 1 0+(numL S (a+(numL S a).getD 1 0+(numL S (a+(numL S a).getD 1 0)).getD 1 0)).getD 1 0:=by omega
 have e35:U.i 35=a+(numL S a).getD 1 0+(numL S (a+(numL S a).getD 1 0)).getD 1 0+(numL S (a+(numL S a).getD 1 0+(numL S (a+(numL S a).getD 1 0)).getD 1 0)).getD 1 0+1:=by omega
 have e73:U.i 73=a+(numL S a).getD 1 0+(numL S (a+(numL S a).getD 1 0)).getD 1 0+(numL S (a+(numL S a).getD 1 0+(numL S (a+(numL S a).getD 1 0)).getD 1 0)).getD 1 0+2:=by omega
 rw [hs,e35] at s36;have e36:U.s 36=S.extract 0 (a+(numL S a).getD 1 0+(numL S (a+(numL S a).getD 1 0)).getD 1 0+(numL S (a+(numL S a).getD 1 0+(numL S (a+(numL S a).getD 1 0)).getD 1 0)).getD 1 0+1).toNat:=s36;have z36:U.i 37<=U.i 10:=by
  rw [i37,e36,ByteArray.size_extract];omega
 have hz36:0<=U.i 37:=by omega
 have e68:U.i 68=sumS (S.extract 0 (a+(numL S a).getD 1 0+(numL S (a+(numL S a).getD 1 0)).getD 1 0+(numL S (a+(numL S a).getD 1 0+(numL S (a+(numL S a).getD 1 0)).getD 1 0)).getD 1 0+1).toNat):=by
  have:=Qd5 (ints (S.extract 0 (a+(numL S a).getD 1 0+(numL S (a+(numL S a).getD 1 0)).getD 1 0+(numL S (a+(numL S a).getD 1 0+(numL S (a+(numL S a).getD 1 0)).getD 1 0)).getD 1 0+1).toNat));rw [ht,e36,Qff,wr_u8] at i68;unfold sumS at i68⊢;omega
 have e72:U.i 72=bAt S (a+(numL S a).getD 1 0+(numL S (a+(numL S a).getD 1 0)).getD 1 0+(numL S (a+(numL S a).getD 1 0+(numL S (a+(numL S a).getD 1 0)).getD 1 0)).getD 1 0+1):=by rw [i72,hs,e35]
 have e62:U.i 62=bAt S (a+(numL S a).getD 1 0+(numL S (a+(numL S a).getD 1 0)).getD 1 0+(numL S (a+(numL S a).getD 1 0+(numL S (a+(numL S a).getD 1 0)).getD 1 0)).getD 1 0):=by rw [i62,hs,e32]
 have b62:=Qd S (a+(numL S a).getD 1 0+(numL S (a+(numL S a).getD 1 0)).getD 1 0+(numL S (a+(numL S a).getD 1 0+(numL S (a+(numL S a).getD 1 0)).getD 1 0)).getD 1 0);have b72:=Qd S (a+(numL S a).getD 1 0+(numL S (a+(numL S a).getD 1 0)).getD 1 0+(numL S (a+(numL S a).getD 1 0+(numL S (a+(numL S a).getD 1 0)).getD 1 0)).getD 1 0+1);have e46:U.i 46=min ((numL S (a+(numL S a).getD 1 0)).getD 0 0) 2199023255552:=by rw [i46];split<;>omega
 have e54:U.i 54=min ((numL S (a+(numL S a).getD 1 0+(numL S (a+(numL S a).getD 1 0)).getD 1 0)).getD 0 0) 2199023255552:=by rw [i54];split<;>omega
 have e47:U.i 47=last.r+min ((numL S (a+(numL S a).getD 1 0)).getD 0 0) 2199023255552:=by rw [Qg] at i47;omega
 have e55:U.i 55=last.b+min ((numL S (a+(numL S a).getD 1 0+(numL S (a+(numL S a).getD 1 0)).getD 1 0)).getD 0 0) 2199023255552:=by rw [Qg] at i55;omega
 have e43:U.i 43=U.i 14:=by rw [Qh] at i43;omega
 have e65:U.i 65=U.i 62:=by rw [Qh] at i65;omega
 have e59:U.i 59=U.i 10-U.i 32:=by rw [Qh] at i59;omega
 have e69:U.i 69=U.i 10-U.i 35:=by rw [Qh] at i69;omega
 have e76:U.i 76=U.i 10-U.i 73:=by rw [Qh] at i76;omega
 clear i18 i25 i32 i35 i40 i43 i45 i46 i47 i53 i54 i55 i59 i62 i65 i68 i69 i72 i73 i76 s36;refine ⟨fun f9=> ?_,fun f9=> ?_⟩
 ·
  refine ⟨fun f11=> ?_,fun f11=> ?_⟩<;>simp only [b11,sb] at f11;refine ⟨fun f12=> ?_,fun f12=> ?_⟩<;>simp only [b12,sb] at f12;refine ⟨fun f13=> ?_,fun f13=> ?_⟩<;>simp only [b13,sb] at f13;refine ⟨fun f17=> ?_,fun f17=> ?_⟩<;>simp only [b17,sb] at f17;refine ⟨fun f19=> ?_,fun f19=> ?_⟩<;>simp only [b19,sb] at f19;refine ⟨fun f20=> ?_,fun f20=> ?_⟩<;>simp only [b20,sb] at f20;refine ⟨fun f24=> ?_,fun f24=> ?_⟩<;>simp only [b24,sb] at f24;refine ⟨fun f26=> ?_,fun f26=> ?_⟩<;>simp only [b26,sb] at f26;refine ⟨fun f27=> ?_,fun f27=> ?_⟩<;>simp only [b27,sb] at f27;refine ⟨fun f31=> ?_,fun f31=> ?_⟩<;>simp only [b31,sb] at f31;refine ⟨fun f33=> ?_,fun f33=> ?_⟩<;>simp only [b33,sb] at f33;refine ⟨fun f34=> ?_,fun f34=> ?_⟩<;>simp only [b34,sb] at f34;refine ⟨fun f38=> ?_,fun f38=> ?_⟩<;>simp only [b38,sb] at f38;refine ⟨fun f39=> ?_,fun f39=> ?_⟩<;>simp only [b39,sb] at f39;omega;refine ⟨fun f44=> ?_,fun f44=> ?_⟩<;>simp only [b44,sb] at f44;omega;refine ⟨fun f50=> ?_,fun f50=> ?_⟩<;>simp only [b50,sb] at f50;refine ⟨fun f52=> ?_,fun f52=> ?_⟩<;>simp only [b52,sb] at f52;omega;refine ⟨fun f66=> ?_,fun f66=> ?_⟩<;>simp only [b66,sb] at f66;refine ⟨fun f78=> ?_,fun f78=> ?_⟩<;>simp only [b78,sb] at f78;refine ⟨fun f79=> ?_,fun f79=> ?_⟩<;>simp only [b79,sb] at f79;refine ⟨fun f42=> ?_,fun f42=> ?_⟩<;>simp only [b42,b41,sb] at f42
  refine hE.2 _ (Qba (p:=a) hj.gs hj.xe ((hj.gp.trans (by rw [hk,Qc7])).trans ?_) (by show AVal.int .i64 (U.i 1)=AVal.int .i64 (a);rw [show U.i 1=a by omega]));exact Qjm (by omega);refine ⟨fun f51=> ?_,fun f51=> ?_⟩<;>simp only [b51,b48,sb] at f51;refine hE.2 _ (Qba (p:=a+(numL S a).getD 1 0) hj.gs hj.xe ((hj.gp.trans (by rw [hk,Qc7])).trans ?_) (by show AVal.int .i64 (U.i 18)=AVal.int .i64 (a+(numL S a).getD 1 0);rw [show U.i 18=a+(numL S a).getD 1 0 by omega]));exact Qf0 (by omega) (by omega) (Qer (by rw [Qt];omega));refine ⟨fun f58=> ?_,fun f58=> ?_⟩<;>simp only [b58,b56,sb] at f58;refine hE.2 _ (Qba (p:=a+(numL S a).getD 1 0+(numL S (a+(numL S a).getD 1 0)).getD 1 0) hj.gs hj.xe ((hj.gp.trans (by rw [hk,Qc7])).trans ?_) (by show AVal.int .i64 (U.i 25)=AVal.int .i64 (a+(numL S a).getD 1 0+(numL S (a+(numL S a).getD 1 0)).getD 1 0);rw [show U.i 25=a+(numL S a).getD 1 0+(numL S (a+(numL S a).getD 1 0)).getD 1 0 by omega]));exact Qf0 (by omega) (by omega) (Qes (by omega) (by rw [Qt];omega) (by rw [Q9];omega));refine ⟨fun f60=> ?_,fun f60=> ?_⟩<;>simp only [b60,sb] at f60
  refine hE.2 _ (Qba (p:=a+(numL S a).getD 1 0+(numL S (a+(numL S a).getD 1 0)).getD 1 0+(numL S (a+(numL S a).getD 1 0+(numL S (a+(numL S a).getD 1 0)).getD 1 0)).getD 1 0) hj.gs hj.xe ((hj.gp.trans (by rw [hk,Qc7])).trans ?_) (by show AVal.int .i64 (U.i 32)=AVal.int .i64 (a+(numL S a).getD 1 0+(numL S (a+(numL S a).getD 1 0)).getD 1 0+(numL S (a+(numL S a).getD 1 0+(numL S (a+(numL S a).getD 1 0)).getD 1 0)).getD 1 0);rw [show U.i 32=a+(numL S a).getD 1 0+(numL S (a+(numL S a).getD 1 0)).getD 1 0+(numL S (a+(numL S a).getD 1 0+(numL S (a+(numL S a).getD 1 0)).getD 1 0)).getD 1 0 by omega]));have hc:=Qb0 (S:=S) (a:=a+(numL S a).getD 1 0) (k:=255) (last:=last) (by omega) (by rw [Qt];omega) (by omega) (by rw [Q9];omega);exact Qp3 (by omega) (by omega) hc (by omega);refine ⟨fun f61=> ?_,fun f61=> ?_⟩<;>simp only [b61,sb] at f61;refine ⟨fun f64=> ?_,fun f64=> ?_⟩<;>simp only [b64,b63,sb] at f64
  refine hE.2 _ (Qba (p:=a+(numL S a).getD 1 0+(numL S (a+(numL S a).getD 1 0)).getD 1 0+(numL S (a+(numL S a).getD 1 0+(numL S (a+(numL S a).getD 1 0)).getD 1 0)).getD 1 0) hj.gs hj.xe ((hj.gp.trans (by rw [hk,Qc7])).trans ?_) (by show AVal.int .i64 (U.i 32)=AVal.int .i64 (a+(numL S a).getD 1 0+(numL S (a+(numL S a).getD 1 0)).getD 1 0+(numL S (a+(numL S a).getD 1 0+(numL S (a+(numL S a).getD 1 0)).getD 1 0)).getD 1 0);rw [show U.i 32=a+(numL S a).getD 1 0+(numL S (a+(numL S a).getD 1 0)).getD 1 0+(numL S (a+(numL S a).getD 1 0+(numL S (a+(numL S a).getD 1 0)).getD 1 0)).getD 1 0 by omega]));have hc:=Qb0 (S:=S) (a:=a+(numL S a).getD 1 0) (k:=255) (last:=last) (by omega) (by rw [Qt];omega) (by omega) (by rw [Q9];omega);exact Qp3 (by omega) (by omega) hc (by omega);refine ⟨fun f67=> ?_,fun f67=> ?_⟩<;>simp only [b67,sb] at f67;refine ⟨fun f70=> ?_,fun f70=> ?_⟩<;>simp only [b70,sb] at f70
  refine hE.2 _ (Qba (p:=a+(numL S a).getD 1 0+(numL S (a+(numL S a).getD 1 0)).getD 1 0+(numL S (a+(numL S a).getD 1 0+(numL S (a+(numL S a).getD 1 0)).getD 1 0)).getD 1 0+1) hj.gs hj.xe ((hj.gp.trans (by rw [hk,Qc7])).trans ?_) (by show AVal.int .i64 (U.i 35)=AVal.int .i64 (a+(numL S a).getD 1 0+(numL S (a+(numL S a).getD 1 0)).getD 1 0+(numL S (a+(numL S a).getD 1 0+(numL S (a+(numL S a).getD 1 0)).getD 1 0)).getD 1 0+1);rw [show U.i 35=a+(numL S a).getD 1 0+(numL S (a+(numL S a).getD 1 0)).getD 1 0+(numL S (a+(numL S a).getD 1 0+(numL S (a+(numL S a).getD 1 0)).getD 1 0)).getD 1 0+1 by omega]));have hc:=Qb0 (S:=S) (a:=a+(numL S a).getD 1 0) (k:=255) (last:=last) (by omega) (by rw [Qt];omega) (by omega) (by rw [Q9];omega);exact Qp4 (by omega) (by omega) hc (by omega) (by omega) (by first|(left;omega)|(right;rw [<-e72,<-e68];exact f75));refine ⟨fun f71=> ?_,fun f71=> ?_⟩<;>simp only [b71,sb] at f71;refine ⟨fun f75=> ?_,fun f75=> ?_⟩<;>simp only [b75,b74,sb] at f75
  refine hE.2 _ (Qba (p:=a+(numL S a).getD 1 0+(numL S (a+(numL S a).getD 1 0)).getD 1 0+(numL S (a+(numL S a).getD 1 0+(numL S (a+(numL S a).getD 1 0)).getD 1 0)).getD 1 0+1) hj.gs hj.xe ((hj.gp.trans (by rw [hk,Qc7])).trans ?_) (by show AVal.int .i64 (U.i 35)=AVal.int .i64 (a+(numL S a).getD 1 0+(numL S (a+(numL S a).getD 1 0)).getD 1 0+(numL S (a+(numL S a).getD 1 0+(numL S (a+(numL S a).getD 1 0)).getD 1 0)).getD 1 0+1);rw [show U.i 35=a+(numL S a).getD 1 0+(numL S (a+(numL S a).getD 1 0)).getD 1 0+(numL S (a+(numL S a).getD 1 0+(numL S (a+(numL S a).getD 1 0)).getD 1 0)).getD 1 0+1 by omega]));have hc:=Qb0 (S:=S) (a:=a+(numL S a).getD 1 0) (k:=255) (last:=last) (by omega) (by rw [Qt];omega) (by omega) (by rw [Q9];omega);exact Qp4 (by omega) (by omega) hc (by omega) (by omega) (by first|(left;omega)|(right;rw [<-e72,<-e68];exact f75));refine ⟨fun f77=> ?_,fun f77=> ?_⟩<;>simp only [b77,sb] at f77
  refine hE.2 _ (Qba (p:=a+(numL S a).getD 1 0+(numL S (a+(numL S a).getD 1 0)).getD 1 0+(numL S (a+(numL S a).getD 1 0+(numL S (a+(numL S a).getD 1 0)).getD 1 0)).getD 1 0+2) hj.gs hj.xe ((hj.gp.trans (by rw [hk,Qc7])).trans ?_) (by show AVal.int .i64 (U.i 73)=AVal.int .i64 (a+(numL S a).getD 1 0+(numL S (a+(numL S a).getD 1 0)).getD 1 0+(numL S (a+(numL S a).getD 1 0+(numL S (a+(numL S a).getD 1 0)).getD 1 0)).getD 1 0+2);rw [show U.i 73=a+(numL S a).getD 1 0+(numL S (a+(numL S a).getD 1 0)).getD 1 0+(numL S (a+(numL S a).getD 1 0+(numL S (a+(numL S a).getD 1 0)).getD 1 0)).getD 1 0+2 by omega]));have hc:=Qb0 (S:=S) (a:=a+(numL S a).getD 1 0) (k:=255) (last:=last) (by omega) (by rw [Qt];omega) (by omega) (by rw [Q9];omega);have hf:=Qp2 (img:=img) (es:=es) (a:=a) (by omega) (by omega) hc (by omega) (by omega) (by rw [<-e72,<-e68];exact f75);rw [if_pos (by omega)] at hf;exact hf;have hc:=Qb0 (S:=S) (a:=a+(numL S a).getD 1 0) (k:=255) (last:=last) (by omega) (by rw [Qt];omega) (by omega) (by rw [Q9];omega);have hf:=Qp2 (img:=img) (es:=es) (a:=a) (by omega) (by omega) hc (by omega) (by omega) (by rw [<-e72,<-e68];exact f75);rw [if_neg (by omega)] at hf;refine hE.1 _ _ ⟨hj.gs,(hj.gp.trans (by rw [hk,Qc7])).trans hf,hj.gc,hj.gn,hj.gim,?_,?_,?_,?_,by show es.length<=1000000;omega,extS hj.xe⟩;show U.i 43=(numL S a).getD 0 0;omega;show U.i 47=last.r+min ((numL S (a+(numL S a).getD 1 0)).getD 0 0) 2199023255552;omega
  show U.i 55=last.b+min ((numL S (a+(numL S a).getD 1 0+(numL S (a+(numL S a).getD 1 0)).getD 1 0)).getD 0 0) 2199023255552;omega;show U.i 65=bAt S (a+(numL S a).getD 1 0+(numL S (a+(numL S a).getD 1 0)).getD 1 0+(numL S (a+(numL S a).getD 1 0+(numL S (a+(numL S a).getD 1 0)).getD 1 0)).getD 1 0);omega;omega;omega;omega;omega;omega;omega;omega;omega;omega;omega;refine ⟨fun f39=> ?_,fun f39=> ?_⟩<;>simp only [b39,sb] at f39;omega;refine ⟨fun f44=> ?_,fun f44=> ?_⟩<;>simp only [b44,sb] at f44;omega;refine ⟨fun f50=> ?_,fun f50=> ?_⟩<;>simp only [b50,sb] at f50;refine ⟨fun f52=> ?_,fun f52=> ?_⟩<;>simp only [b52,sb] at f52;refine ⟨fun f42=> ?_,fun f42=> ?_⟩<;>simp only [b42,b41,sb] at f42;refine hE.2 _ (Qba (p:=a) hj.gs hj.xe ((hj.gp.trans (by rw [hk,Qc7])).trans ?_) (by show AVal.int .i64 (U.i 1)=AVal.int .i64 (a);rw [show U.i 1=a by omega]));exact Qjm (by omega);refine ⟨fun f51=> ?_,fun f51=> ?_⟩<;>simp only [b51,b48,sb] at f51;refine hE.2 _ (Qba (p:=a+(numL S a).getD 1 0) hj.gs hj.xe ((hj.gp.trans (by rw [hk,Qc7])).trans ?_) (by show AVal.int .i64 (U.i 18)=AVal.int .i64 (a+(numL S a).getD 1 0);rw [show U.i 18=a+(numL S a).getD 1 0 by omega]));exact Qf0 (by omega) (by omega) (Qer (by rw [Qt];omega))
  refine hE.2 _ (Qba (p:=a+(numL S a).getD 1 0+(numL S (a+(numL S a).getD 1 0)).getD 1 0) hj.gs hj.xe ((hj.gp.trans (by rw [hk,Qc7])).trans ?_) (by show AVal.int .i64 (U.i 25)=AVal.int .i64 (a+(numL S a).getD 1 0+(numL S (a+(numL S a).getD 1 0)).getD 1 0);rw [show U.i 25=a+(numL S a).getD 1 0+(numL S (a+(numL S a).getD 1 0)).getD 1 0 by omega]));exact Qf0 (by omega) (by omega) (Qes (by omega) (by rw [Qt];omega) (by rw [Q9];omega));omega;omega;omega;omega;refine ⟨fun f39=> ?_,fun f39=> ?_⟩<;>simp only [b39,sb] at f39;omega;refine ⟨fun f44=> ?_,fun f44=> ?_⟩<;>simp only [b44,sb] at f44;refine ⟨fun f42=> ?_,fun f42=> ?_⟩<;>simp only [b42,b41,sb] at f42;refine hE.2 _ (Qba (p:=a) hj.gs hj.xe ((hj.gp.trans (by rw [hk,Qc7])).trans ?_) (by show AVal.int .i64 (U.i 1)=AVal.int .i64 (a);rw [show U.i 1=a by omega]));exact Qjm (by omega);refine hE.2 _ (Qba (p:=a+(numL S a).getD 1 0) hj.gs hj.xe ((hj.gp.trans (by rw [hk,Qc7])).trans ?_) (by show AVal.int .i64 (U.i 18)=AVal.int .i64 (a+(numL S a).getD 1 0);rw [show U.i 18=a+(numL S a).getD 1 0 by omega]));exact Qf0 (by omega) (by omega) (Qer (by rw [Qt];omega));omega;omega;omega;refine ⟨fun f39=> ?_,fun f39=> ?_⟩<;>simp only [b39,sb] at f39;refine hE.2 _ (Qba (p:=a) hj.gs hj.xe ((hj.gp.trans (by rw [hk,Qc7])).trans ?_) (by show AVal.int .i64 (U.i 1)=AVal.int .i64 (a);rw [show U.i 1=a by omega]));exact Qjm (by omega);omega;omega;omega;omega
 ·
  omega
end Go.Proofs.YtelimhjceiamcaaDoor.lg
