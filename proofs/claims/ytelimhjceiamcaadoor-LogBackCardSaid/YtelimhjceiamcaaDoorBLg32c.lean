/-
 What is known at the loop of log's reader; behind it.
 No conditions.
-/
import Derived.Test.YtelimhjceiamcaaDoorBLg32a
namespace Go.Proofs.YtelimhjceiamcaaDoor.lg
open Go.Ev Go.RowKit Go.Wbp Go.Lgp
open Go.Proofs.YtelimhjceiamcaaDoor.lgn (mixed sf48 Qda)
set_option linter.unusedVariables false
set_option linter.unusedSimpArgs false
structure J32 (E:Nat->Option Fz) (S:ByteArray) (img a:Int) (f:Nat) (last:En) (es:List En) (k:Int) (σ:Sig):Prop where
 gs:σ.sval 0=S
 ga:σ.ival 1=a
 gim:σ.ival 2=img
 gn:σ.ival 3=(es.length:Nat)
 gr:σ.ival 4=last.r
 gb:σ.ival 5=last.b
 gk:σ.ival 6=last.k
 gv:σ.ival 7=last.v
 gc:σ.sval 8=encL es
 gkd:σ.ival 9=k
 a8:8<=a
 az:a<=(S.size:Nat)
 sz:S.size<=1000000
 lr:0<=last.r/\last.r<=1099511627776
 lb:0<=last.b/\last.b<=last.r
 lk:last.k<=2
 fu:((S.size:Nat):Int)-a<=(f:Nat)
 cn:5*((es.length:Nat):Int)<=a
 kk:(0<=k/\k<=2)\/k=255
 gp:par S=parK S img f a last es k
 xe:σ.ext=E
theorem J32.agree {E:Nat->Option Fz} {S:ByteArray} {img a:Int} {f:Nat} {last:En} {es:List En} {k:Int} {σ τ:Sig} (ag:Agree 10 σ τ) (h:J32 E S img a f last es k σ):J32 E S img a f last es k τ:=
 ⟨by rw [<-(ag.val 0 (by decide)).2.2];exact h.gs,by rw [<-(ag.val 1 (by decide)).1];exact h.ga,by rw [<-(ag.val 2 (by decide)).1];exact h.gim,by rw [<-(ag.val 3 (by decide)).1];exact h.gn,by rw [<-(ag.val 4 (by decide)).1];exact h.gr,by rw [<-(ag.val 5 (by decide)).1];exact h.gb,by rw [<-(ag.val 6 (by decide)).1];exact h.gk,by rw [<-(ag.val 7 (by decide)).1];exact h.gv,by rw [<-(ag.val 8 (by decide)).2.2];exact h.gc,by rw [<-(ag.val 9 (by decide)).1];exact h.gkd,h.a8,h.az,h.sz,h.lr,h.lb,h.lk,h.fu,h.cn,h.kk,h.gp,by rw [<-ag.ext];exact h.xe⟩
structure Ok32 (E:Nat->Option Fz) (S:ByteArray) (l:Lg) (σ:Sig):Prop where
 s:σ.sval 0=S
 p:par S=.ok l
 c:σ.sval 2=encL l.es
 n:σ.ival 3=(l.es.length:Nat)
 im:σ.ival 4=l.img
 cy:σ.ival 5=l.cyc
 re:σ.ival 6=l.ret
 br:σ.ival 7=l.br
 ou:σ.ival 8=l.out
 nb:l.es.length<=1000000
 xe:σ.ext=E
structure Bad32 (E:Nat->Option Fz) (S:ByteArray) (σ:Sig):Prop where
 s:σ.sval 0=S
 p:par S=.bad (σ.ival 2)
 xe:σ.ext=E
theorem Q5 {E:Nat->Option Fz} {S:ByteArray} {τ:Sig} {x:AVal} {p:Int} (hs:τ.sval 0=S) (hx:τ.ext=E) (hp:par S=.bad p) (hv:valS τ x=.int .i64 p):Bad32 E S (asgS τ ([(0,.syms 0)]++[(2,x)])):=
 ⟨hs,by rw [hp];show _=Rd.bad (iOf (valS τ x));rw [hv];rfl,extS hx⟩
abbrev Ends (W0:Fra) (Z:Exit->Act->World->Prop) (E:Nat->Option Fz) (S:ByteArray):Prop:=
 (∀(σ:Sig) (l:Lg),Ok32 E S l σ->EndZ Qa 84 W0 Z .ret Q2q σ)/\ ∀σ:Sig,Bad32 E S σ->EndZ Qa 84 W0 Z (.pan (corA 2)) Q3 σ
set_option maxHeartbeats 4000000 in
theorem Qbi6 {W0:Fra} {Z:Exit->Act->World->Prop} {E:Nat->Option Fz} {S:ByteArray} {img a:Int} {f:Nat} {last:En} {es:List En} (hE:Ends W0 Z E S) (hpin: ∀i,W0.pin i≠none->pinW i Qui=true):
  Qf Tryd.prog Qa 84 W0 Z ((Qe (Qc Tryd.f32)).drop 5) Qd3 10 Qef (J32 E S img a f last es 255):=by
 refine Qf.last mixed Qbc4 ⟨rfl,rfl⟩ (fun σ τ ag h=>h.agree ag) (fun τ h=>Qbe) (fun τ e ht hi hj=> ?_) hpin
 refine Q6 ?_
 have hk:(255:Int)=255:=rfl
 have hs:=hj.gs
 have ha:=hj.ga
 have hn:=hj.gn
 have hr:=hj.gr
 have hb:=hj.gb
 have hk6:=hj.gk
 have hkd:=hj.gkd
 have a8:=hj.a8
 have az:=hj.az
 have sz:=hj.sz
 have lr:=hj.lr
 have lb:=hj.lb
 have cn:=hj.cn
 have lk:=hj.lk
 have i10:τ.ival 10=((τ.sval 0).size:Nat):=Qbm (e.at 0 _ rfl rfl)
 have b11:τ.bval 11=decide ((0:Int)<=τ.ival 1):=eqB (e.at 1 _ rfl rfl) rfl
 have b12:τ.bval 12=decide (τ.ival 1<=τ.ival 10):=eqB (e.at 2 _ rfl rfl) rfl
 have b13:τ.bval 13=decide (τ.ival 10<=1000000):=eqB (e.at 3 _ rfl rfl) rfl
 have i14:τ.ival 14=IntKind.u64.wrap (τ.tab 128 [encB (τ.sval 0),τ.ival 1]):=eqFn (e.at 4 _ rfl rfl)
 have i15:τ.ival 15=IntKind.i64.wrap (τ.tab 129 [encB (τ.sval 0),τ.ival 1]):=eqFn (e.at 5 _ rfl rfl)
 have i16:τ.ival 16=IntKind.i64.wrap (τ.tab 130 [encB (τ.sval 0),τ.ival 1]):=eqFn (e.at 6 _ rfl rfl)
 have b17:τ.bval 17=((τ.ival 16:Int)==0):=eqB (e.at 7 _ rfl rfl) rfl
 have i18:τ.ival 18=IntKind.i64.wrap (τ.ival 1+τ.ival 15):=eqI (e.at 8 _ rfl rfl) rfl
 have b19:τ.bval 19=decide ((0:Int)<=τ.ival 18):=eqB (e.at 9 _ rfl rfl) rfl
 have b20:τ.bval 20=decide (τ.ival 18<=τ.ival 10):=eqB (e.at 10 _ rfl rfl) rfl
 have i21:τ.ival 21=IntKind.u64.wrap (τ.tab 128 [encB (τ.sval 0),τ.ival 18]):=eqFn (e.at 11 _ rfl rfl)
 have i22:τ.ival 22=IntKind.i64.wrap (τ.tab 129 [encB (τ.sval 0),τ.ival 18]):=eqFn (e.at 12 _ rfl rfl)
 have i23:τ.ival 23=IntKind.i64.wrap (τ.tab 130 [encB (τ.sval 0),τ.ival 18]):=eqFn (e.at 13 _ rfl rfl)
 have b24:τ.bval 24=((τ.ival 23:Int)==0):=eqB (e.at 14 _ rfl rfl) rfl
 have i25:τ.ival 25=IntKind.i64.wrap (τ.ival 18+τ.ival 22):=eqI (e.at 15 _ rfl rfl) rfl
 have b26:τ.bval 26=decide ((0:Int)<=τ.ival 25):=eqB (e.at 16 _ rfl rfl) rfl
 have b27:τ.bval 27=decide (τ.ival 25<=τ.ival 10):=eqB (e.at 17 _ rfl rfl) rfl
 have i28:τ.ival 28=IntKind.u64.wrap (τ.tab 128 [encB (τ.sval 0),τ.ival 25]):=eqFn (e.at 18 _ rfl rfl)
 have i29:τ.ival 29=IntKind.i64.wrap (τ.tab 129 [encB (τ.sval 0),τ.ival 25]):=eqFn (e.at 19 _ rfl rfl)
 have i30:τ.ival 30=IntKind.i64.wrap (τ.tab 130 [encB (τ.sval 0),τ.ival 25]):=eqFn (e.at 20 _ rfl rfl)
 have b31:τ.bval 31=((τ.ival 30:Int)==0):=eqB (e.at 21 _ rfl rfl) rfl
 have i32:τ.ival 32=IntKind.i64.wrap (τ.ival 25+τ.ival 29):=eqI (e.at 22 _ rfl rfl) rfl
 have b33:τ.bval 33=decide ((0:Int)<=τ.ival 32):=eqB (e.at 23 _ rfl rfl) rfl
 have b34:τ.bval 34=decide (τ.ival 32<=τ.ival 10):=eqB (e.at 24 _ rfl rfl) rfl
 have i35:τ.ival 35=IntKind.i64.wrap (τ.ival 32+1):=eqI (e.at 25 _ rfl rfl) rfl
 have s36:τ.sval 36=(τ.sval 0).extract (0:Int).toNat (τ.ival 35:Int).toNat:=Qfn (e.at 26 _ rfl rfl) rfl rfl
 have i37:τ.ival 37=((τ.sval 36).size:Nat):=Qbm (e.at 27 _ rfl rfl)
 have b38:τ.bval 38=decide (τ.ival 37<=1000000):=eqB (e.at 28 _ rfl rfl) rfl
 have b39:τ.bval 39= !((τ.ival 16:Int)==0):=eqB (e.at 29 _ rfl rfl) rfl
 have i40:τ.ival 40=(bif τ.bval 39 then τ.ival 1 else 0):=Qi0 (e.at 30 _ rfl rfl) rfl rfl rfl
 have b41:τ.bval 41=decide (τ.ival 14<=1073741824):=eqB (e.at 31 _ rfl rfl) rfl
 have b42:τ.bval 42= !(τ.bval 41):=eqB (e.at 32 _ rfl rfl) rfl
 have i43:τ.ival 43=IntKind.i64.wrap (τ.ival 14):=eqI (e.at 33 _ rfl rfl) rfl
 have b44:τ.bval 44= !((τ.ival 23:Int)==0):=eqB (e.at 34 _ rfl rfl) rfl
 have i45:τ.ival 45=(bif τ.bval 44 then τ.ival 18 else 0):=Qi0 (e.at 35 _ rfl rfl) rfl rfl rfl
 have i46:τ.ival 46=(if 2199023255552<τ.ival 21 then 2199023255552 else τ.ival 21):=eqI (e.at 36 _ rfl rfl) rfl
 have i47:τ.ival 47=IntKind.u64.wrap (τ.ival 4+τ.ival 46):=eqI (e.at 37 _ rfl rfl) rfl
 have b48:τ.bval 48=decide (τ.ival 47<=1099511627776):=eqB (e.at 38 _ rfl rfl) rfl
 have b49:τ.bval 49=decide (τ.ival 21>0):=eqB (e.at 39 _ rfl rfl) rfl
 have b50:τ.bval 50=decide ((255:Int)>τ.ival 6):=eqB (e.at 40 _ rfl rfl) rfl
 have b51:τ.bval 51= !(τ.bval 48):=eqB (e.at 41 _ rfl rfl) rfl
 have b52:τ.bval 52= !((τ.ival 30:Int)==0):=eqB (e.at 42 _ rfl rfl) rfl
 have i53:τ.ival 53=(bif τ.bval 52 then τ.ival 25 else 0):=Qi0 (e.at 43 _ rfl rfl) rfl rfl rfl
 have i54:τ.ival 54=(if 2199023255552<τ.ival 28 then 2199023255552 else τ.ival 28):=eqI (e.at 44 _ rfl rfl) rfl
 have i55:τ.ival 55=IntKind.u64.wrap (τ.ival 5+τ.ival 54):=eqI (e.at 45 _ rfl rfl) rfl
 have b56:τ.bval 56=decide (τ.ival 55<=τ.ival 47):=eqB (e.at 46 _ rfl rfl) rfl
 have b57:τ.bval 57=((τ.ival 28:Int)==0):=eqB (e.at 47 _ rfl rfl) rfl
 have b58:τ.bval 58= !(τ.bval 56):=eqB (e.at 48 _ rfl rfl) rfl
 have i59:τ.ival 59=IntKind.i64.wrap (τ.ival 10-τ.ival 32):=eqI (e.at 49 _ rfl rfl) rfl
 have b60:τ.bval 60=((τ.ival 59:Int)==0):=eqB (e.at 50 _ rfl rfl) rfl
 have b61:τ.bval 61=decide (τ.ival 32<τ.ival 10):=eqB (e.at 51 _ rfl rfl) rfl
 have i62:τ.ival 62=bAt (τ.sval 0) (τ.ival 32):=eqAt (e.at 52 _ rfl rfl) rfl
 have b63:τ.bval 63=decide (τ.ival 62<=6):=eqB (e.at 53 _ rfl rfl) rfl
 have b64:τ.bval 64= !(τ.bval 63):=eqB (e.at 54 _ rfl rfl) rfl
 have i65:τ.ival 65=IntKind.i64.wrap (τ.ival 62):=eqI (e.at 55 _ rfl rfl) rfl
 have b66:τ.bval 66=decide ((0:Int)<=τ.ival 35):=eqB (e.at 56 _ rfl rfl) rfl
 have b67:τ.bval 67=decide (τ.ival 35<=τ.ival 10):=eqB (e.at 57 _ rfl rfl) rfl
 have i68:τ.ival 68=IntKind.u8.wrap (τ.tab 384 [encB (τ.sval 36)]):=eqFn (e.at 58 _ rfl rfl)
 have i69:τ.ival 69=IntKind.i64.wrap (τ.ival 10-τ.ival 35):=eqI (e.at 59 _ rfl rfl) rfl
 have b70:τ.bval 70=((τ.ival 69:Int)==0):=eqB (e.at 60 _ rfl rfl) rfl
 have b71:τ.bval 71=decide (τ.ival 35<τ.ival 10):=eqB (e.at 61 _ rfl rfl) rfl
 have i72:τ.ival 72=bAt (τ.sval 0) (τ.ival 35):=eqAt (e.at 62 _ rfl rfl) rfl
 have i73:τ.ival 73=IntKind.i64.wrap (τ.ival 35+1):=eqI (e.at 63 _ rfl rfl) rfl
 have b74:τ.bval 74=((τ.ival 72:Int)==τ.ival 68):=eqB (e.at 64 _ rfl rfl) rfl
 have b75:τ.bval 75= !(τ.bval 74):=eqB (e.at 65 _ rfl rfl) rfl
 have i76:τ.ival 76=IntKind.i64.wrap (τ.ival 10-τ.ival 73):=eqI (e.at 66 _ rfl rfl) rfl
 have b77:τ.bval 77=decide (τ.ival 76>0):=eqB (e.at 67 _ rfl rfl) rfl
 have b78:τ.bval 78=decide ((0:Int)<=τ.ival 3):=eqB (e.at 68 _ rfl rfl) rfl
 have b79:τ.bval 79=decide (τ.ival 3<=τ.ival 3):=eqB (e.at 69 _ rfl rfl) rfl
 rw [hs] at i10
 rw [Qh] at i18 i25 i32 i35 i73
 obtain ⟨v1,l1,c1,k1,k2,k3,k4,k5⟩:=Qml ht hs ha i14 i15 i16
 have e18:τ.ival 18=a+(numL S a).getD 1 0:=by omega
 obtain ⟨w1,m1,d1,q1,q2,q3,q4,q5⟩:=Qml ht hs e18 i21 i22 i23
 have e25:τ.ival 25=a+(numL S a).getD 1 0+(numL S (a+(numL S a).getD 1 0)).getD 1 0:=by omega
 obtain ⟨x1,y1,z1,s1,s2,s3,s4,s5⟩:=Qml ht hs e25 i28 i29 i30
 clear i14 i15 i16 i21 i22 i23 i28 i29 i30
 have e32:τ.ival 32=a+(numL S a).getD 1 0+(numL S (a+(numL S a).getD 1 0)).getD 1 0+(numL S (a+(numL S a).getD 1 0+(numL S (a+(numL S a).getD 1 0)).getD 1 0)).getD 1 0:=by omega
 have e35:τ.ival 35=a+(numL S a).getD 1 0+(numL S (a+(numL S a).getD 1 0)).getD 1 0+(numL S (a+(numL S a).getD 1 0+(numL S (a+(numL S a).getD 1 0)).getD 1 0)).getD 1 0+1:=by omega
 have e73:τ.ival 73=a+(numL S a).getD 1 0+(numL S (a+(numL S a).getD 1 0)).getD 1 0+(numL S (a+(numL S a).getD 1 0+(numL S (a+(numL S a).getD 1 0)).getD 1 0)).getD 1 0+2:=by omega
 rw [hs,e35] at s36
 have e36:τ.sval 36=S.extract 0 (a+(numL S a).getD 1 0+(numL S (a+(numL S a).getD 1 0)).getD 1 0+(numL S (a+(numL S a).getD 1 0+(numL S (a+(numL S a).getD 1 0)).getD 1 0)).getD 1 0+1).toNat:=s36
 have z36:τ.ival 37<=τ.ival 10:=by
  rw [i37,e36,ByteArray.size_extract];omega
 have hz36:0<=τ.ival 37:=by omega
 have e68:τ.ival 68=sumS (S.extract 0 (a+(numL S a).getD 1 0+(numL S (a+(numL S a).getD 1 0)).getD 1 0+(numL S (a+(numL S a).getD 1 0+(numL S (a+(numL S a).getD 1 0)).getD 1 0)).getD 1 0+1).toNat):=by
  have:=Qhb (ints (S.extract 0 (a+(numL S a).getD 1 0+(numL S (a+(numL S a).getD 1 0)).getD 1 0+(numL S (a+(numL S a).getD 1 0+(numL S (a+(numL S a).getD 1 0)).getD 1 0)).getD 1 0+1).toNat))
  rw [ht,e36,Qma,wr_u8] at i68
  unfold sumS at i68⊢
  omega
 have e72:τ.ival 72=bAt S (a+(numL S a).getD 1 0+(numL S (a+(numL S a).getD 1 0)).getD 1 0+(numL S (a+(numL S a).getD 1 0+(numL S (a+(numL S a).getD 1 0)).getD 1 0)).getD 1 0+1):=by rw [i72,hs,e35]
 have e62:τ.ival 62=bAt S (a+(numL S a).getD 1 0+(numL S (a+(numL S a).getD 1 0)).getD 1 0+(numL S (a+(numL S a).getD 1 0+(numL S (a+(numL S a).getD 1 0)).getD 1 0)).getD 1 0):=by rw [i62,hs,e32]
 have b62:=Qd S (a+(numL S a).getD 1 0+(numL S (a+(numL S a).getD 1 0)).getD 1 0+(numL S (a+(numL S a).getD 1 0+(numL S (a+(numL S a).getD 1 0)).getD 1 0)).getD 1 0)
 have b72:=Qd S (a+(numL S a).getD 1 0+(numL S (a+(numL S a).getD 1 0)).getD 1 0+(numL S (a+(numL S a).getD 1 0+(numL S (a+(numL S a).getD 1 0)).getD 1 0)).getD 1 0+1)
 have e46:τ.ival 46=min ((numL S (a+(numL S a).getD 1 0)).getD 0 0) 2199023255552:=by rw [i46];split<;>omega
 have e54:τ.ival 54=min ((numL S (a+(numL S a).getD 1 0+(numL S (a+(numL S a).getD 1 0)).getD 1 0)).getD 0 0) 2199023255552:=by rw [i54];split<;>omega
 have e47:τ.ival 47=last.r+min ((numL S (a+(numL S a).getD 1 0)).getD 0 0) 2199023255552:=by rw [Qj] at i47;omega
 have e55:τ.ival 55=last.b+min ((numL S (a+(numL S a).getD 1 0+(numL S (a+(numL S a).getD 1 0)).getD 1 0)).getD 0 0) 2199023255552:=by rw [Qj] at i55;omega
 have e43:τ.ival 43=τ.ival 14:=by rw [Qh] at i43;omega
 have e65:τ.ival 65=τ.ival 62:=by rw [Qh] at i65;omega
 have e59:τ.ival 59=τ.ival 10-τ.ival 32:=by rw [Qh] at i59;omega
 have e69:τ.ival 69=τ.ival 10-τ.ival 35:=by rw [Qh] at i69;omega
 have e76:τ.ival 76=τ.ival 10-τ.ival 73:=by rw [Qh] at i76;omega
 clear i18 i25 i32 i35 i40 i43 i45 i46 i47 i53 i54 i55 i59 i62 i65 i68 i69 i72 i73 i76 s36
 refine ⟨fun f9=> ?_,fun f9=> ?_⟩
 ·
  refine ⟨fun f11=> ?_,fun f11=> ?_⟩
  ·simp only [b11,sb,beq_iff_eq] at f11
   refine ⟨fun f12=> ?_,fun f12=> ?_⟩
   ·simp only [b12,sb,beq_iff_eq] at f12
    refine ⟨fun f13=> ?_,fun f13=> ?_⟩
    ·simp only [b13,sb,beq_iff_eq] at f13
     refine ⟨fun f17=> ?_,fun f17=> ?_⟩
     ·simp only [b17,sb,beq_iff_eq] at f17
      refine ⟨fun f19=> ?_,fun f19=> ?_⟩
      ·simp only [b19,sb,beq_iff_eq] at f19
       refine ⟨fun f20=> ?_,fun f20=> ?_⟩
       ·simp only [b20,sb,beq_iff_eq] at f20
        refine ⟨fun f24=> ?_,fun f24=> ?_⟩
        ·simp only [b24,sb,beq_iff_eq] at f24
         refine ⟨fun f26=> ?_,fun f26=> ?_⟩
         ·simp only [b26,sb,beq_iff_eq] at f26
          refine ⟨fun f27=> ?_,fun f27=> ?_⟩
          ·simp only [b27,sb,beq_iff_eq] at f27
           refine ⟨fun f31=> ?_,fun f31=> ?_⟩
           ·simp only [b31,sb,beq_iff_eq] at f31
            refine ⟨fun f33=> ?_,fun f33=> ?_⟩
            ·simp only [b33,sb,beq_iff_eq] at f33
             refine ⟨fun f34=> ?_,fun f34=> ?_⟩
             ·simp only [b34,sb,beq_iff_eq] at f34
              refine ⟨fun f38=> ?_,fun f38=> ?_⟩
              ·simp only [b38,sb,beq_iff_eq] at f38
               refine ⟨fun f39=> ?_,fun f39=> ?_⟩
               ·simp only [b39,sb,beq_iff_eq] at f39
                omega
               ·simp only [b39,sb,beq_iff_eq] at f39
                refine ⟨fun f44=> ?_,fun f44=> ?_⟩
                ·simp only [b44,sb,beq_iff_eq] at f44
                 omega
                ·simp only [b44,sb,beq_iff_eq] at f44
                 refine ⟨fun f50=> ?_,fun f50=> ?_⟩
                 ·simp only [b50,sb,beq_iff_eq] at f50
                  refine ⟨fun f52=> ?_,fun f52=> ?_⟩
                  ·simp only [b52,sb,beq_iff_eq] at f52
                   omega
                  ·simp only [b52,sb,beq_iff_eq] at f52
                   refine ⟨fun f66=> ?_,fun f66=> ?_⟩
                   ·simp only [b66,sb,beq_iff_eq] at f66
                    refine ⟨fun f78=> ?_,fun f78=> ?_⟩
                    ·simp only [b78,sb,beq_iff_eq] at f78
                     refine ⟨fun f79=> ?_,fun f79=> ?_⟩
                     ·simp only [b79,sb,beq_iff_eq] at f79
                      refine ⟨fun f42=> ?_,fun f42=> ?_⟩
                      ·simp only [b42,b41,sb,beq_iff_eq] at f42
                       refine hE.2 _ (Q5 (p:=a) hj.gs hj.xe ((hj.gp.trans (by rw [hk,Qcx])).trans ?_) (by show AVal.int .i64 (τ.ival 1)=AVal.int .i64 (a);rw [show τ.ival 1=a by omega]))
                       ·exact Qom (by omega)
                      ·simp only [b42,b41,sb,beq_iff_eq] at f42
                       refine ⟨fun f51=> ?_,fun f51=> ?_⟩
                       ·simp only [b51,b48,sb,beq_iff_eq] at f51
                        refine hE.2 _ (Q5 (p:=a+(numL S a).getD 1 0) hj.gs hj.xe ((hj.gp.trans (by rw [hk,Qcx])).trans ?_) (by show AVal.int .i64 (τ.ival 18)=AVal.int .i64 (a+(numL S a).getD 1 0);rw [show τ.ival 18=a+(numL S a).getD 1 0 by omega]))
                        ·exact Qk6 (by omega) (by omega) (Qit (by rw [Qbt];omega))
                       ·simp only [b51,b48,sb,beq_iff_eq] at f51
                        refine ⟨fun f58=> ?_,fun f58=> ?_⟩
                        ·simp only [b58,b56,sb,beq_iff_eq] at f58
                         refine hE.2 _ (Q5 (p:=a+(numL S a).getD 1 0+(numL S (a+(numL S a).getD 1 0)).getD 1 0) hj.gs hj.xe ((hj.gp.trans (by rw [hk,Qcx])).trans ?_) (by show AVal.int .i64 (τ.ival 25)=AVal.int .i64 (a+(numL S a).getD 1 0+(numL S (a+(numL S a).getD 1 0)).getD 1 0);rw [show τ.ival 25=a+(numL S a).getD 1 0+(numL S (a+(numL S a).getD 1 0)).getD 1 0 by omega]))
                         ·exact Qk6 (by omega) (by omega) (Qny (by omega) (by rw [Qbt];omega) (by rw [Qco];omega))
                        ·simp only [b58,b56,sb,beq_iff_eq] at f58
                         refine ⟨fun f60=> ?_,fun f60=> ?_⟩
                         ·simp only [b60,sb,beq_iff_eq] at f60
                          refine hE.2 _ (Q5 (p:=a+(numL S a).getD 1 0+(numL S (a+(numL S a).getD 1 0)).getD 1 0+(numL S (a+(numL S a).getD 1 0+(numL S (a+(numL S a).getD 1 0)).getD 1 0)).getD 1 0) hj.gs hj.xe ((hj.gp.trans (by rw [hk,Qcx])).trans ?_) (by show AVal.int .i64 (τ.ival 32)=AVal.int .i64 (a+(numL S a).getD 1 0+(numL S (a+(numL S a).getD 1 0)).getD 1 0+(numL S (a+(numL S a).getD 1 0+(numL S (a+(numL S a).getD 1 0)).getD 1 0)).getD 1 0);rw [show τ.ival 32=a+(numL S a).getD 1 0+(numL S (a+(numL S a).getD 1 0)).getD 1 0+(numL S (a+(numL S a).getD 1 0+(numL S (a+(numL S a).getD 1 0)).getD 1 0)).getD 1 0 by omega]))
                          ·have hc:=Qdm (S:=S) (a:=a+(numL S a).getD 1 0) (k:=255) (last:=last) (by omega) (by rw [Qbt];omega) (by omega) (by rw [Qco];omega)
                           exact Qzq (by omega) (by omega) hc (by omega)
                         ·simp only [b60,sb,beq_iff_eq] at f60
                          refine ⟨fun f61=> ?_,fun f61=> ?_⟩
                          ·simp only [b61,sb,beq_iff_eq] at f61
                           refine ⟨fun f64=> ?_,fun f64=> ?_⟩
                           ·simp only [b64,b63,sb,beq_iff_eq] at f64
                            refine hE.2 _ (Q5 (p:=a+(numL S a).getD 1 0+(numL S (a+(numL S a).getD 1 0)).getD 1 0+(numL S (a+(numL S a).getD 1 0+(numL S (a+(numL S a).getD 1 0)).getD 1 0)).getD 1 0) hj.gs hj.xe ((hj.gp.trans (by rw [hk,Qcx])).trans ?_) (by show AVal.int .i64 (τ.ival 32)=AVal.int .i64 (a+(numL S a).getD 1 0+(numL S (a+(numL S a).getD 1 0)).getD 1 0+(numL S (a+(numL S a).getD 1 0+(numL S (a+(numL S a).getD 1 0)).getD 1 0)).getD 1 0);rw [show τ.ival 32=a+(numL S a).getD 1 0+(numL S (a+(numL S a).getD 1 0)).getD 1 0+(numL S (a+(numL S a).getD 1 0+(numL S (a+(numL S a).getD 1 0)).getD 1 0)).getD 1 0 by omega]))
                            ·have hc:=Qdm (S:=S) (a:=a+(numL S a).getD 1 0) (k:=255) (last:=last) (by omega) (by rw [Qbt];omega) (by omega) (by rw [Qco];omega)
                             exact Qzq (by omega) (by omega) hc (by omega)
                           ·simp only [b64,b63,sb,beq_iff_eq] at f64
                            refine ⟨fun f67=> ?_,fun f67=> ?_⟩
                            ·simp only [b67,sb,beq_iff_eq] at f67
                             refine ⟨fun f70=> ?_,fun f70=> ?_⟩
                             ·simp only [b70,sb,beq_iff_eq] at f70
                              refine hE.2 _ (Q5 (p:=a+(numL S a).getD 1 0+(numL S (a+(numL S a).getD 1 0)).getD 1 0+(numL S (a+(numL S a).getD 1 0+(numL S (a+(numL S a).getD 1 0)).getD 1 0)).getD 1 0+1) hj.gs hj.xe ((hj.gp.trans (by rw [hk,Qcx])).trans ?_) (by show AVal.int .i64 (τ.ival 35)=AVal.int .i64 (a+(numL S a).getD 1 0+(numL S (a+(numL S a).getD 1 0)).getD 1 0+(numL S (a+(numL S a).getD 1 0+(numL S (a+(numL S a).getD 1 0)).getD 1 0)).getD 1 0+1);rw [show τ.ival 35=a+(numL S a).getD 1 0+(numL S (a+(numL S a).getD 1 0)).getD 1 0+(numL S (a+(numL S a).getD 1 0+(numL S (a+(numL S a).getD 1 0)).getD 1 0)).getD 1 0+1 by omega]))
                              ·have hc:=Qdm (S:=S) (a:=a+(numL S a).getD 1 0) (k:=255) (last:=last) (by omega) (by rw [Qbt];omega) (by omega) (by rw [Qco];omega)
                               exact Qzr (by omega) (by omega) hc (by omega) (by omega) (by first|(left;omega)|(right;rw [<-e72,<-e68];exact f75))
                             ·simp only [b70,sb,beq_iff_eq] at f70
                              refine ⟨fun f71=> ?_,fun f71=> ?_⟩
                              ·simp only [b71,sb,beq_iff_eq] at f71
                               refine ⟨fun f75=> ?_,fun f75=> ?_⟩
                               ·simp only [b75,b74,sb,beq_iff_eq] at f75
                                refine hE.2 _ (Q5 (p:=a+(numL S a).getD 1 0+(numL S (a+(numL S a).getD 1 0)).getD 1 0+(numL S (a+(numL S a).getD 1 0+(numL S (a+(numL S a).getD 1 0)).getD 1 0)).getD 1 0+1) hj.gs hj.xe ((hj.gp.trans (by rw [hk,Qcx])).trans ?_) (by show AVal.int .i64 (τ.ival 35)=AVal.int .i64 (a+(numL S a).getD 1 0+(numL S (a+(numL S a).getD 1 0)).getD 1 0+(numL S (a+(numL S a).getD 1 0+(numL S (a+(numL S a).getD 1 0)).getD 1 0)).getD 1 0+1);rw [show τ.ival 35=a+(numL S a).getD 1 0+(numL S (a+(numL S a).getD 1 0)).getD 1 0+(numL S (a+(numL S a).getD 1 0+(numL S (a+(numL S a).getD 1 0)).getD 1 0)).getD 1 0+1 by omega]))
                                ·have hc:=Qdm (S:=S) (a:=a+(numL S a).getD 1 0) (k:=255) (last:=last) (by omega) (by rw [Qbt];omega) (by omega) (by rw [Qco];omega)
                                 exact Qzr (by omega) (by omega) hc (by omega) (by omega) (by first|(left;omega)|(right;rw [<-e72,<-e68];exact f75))
                               ·simp only [b75,b74,sb,beq_iff_eq] at f75
                                refine ⟨fun f77=> ?_,fun f77=> ?_⟩
                                ·simp only [b77,sb,beq_iff_eq] at f77
                                 refine hE.2 _ (Q5 (p:=a+(numL S a).getD 1 0+(numL S (a+(numL S a).getD 1 0)).getD 1 0+(numL S (a+(numL S a).getD 1 0+(numL S (a+(numL S a).getD 1 0)).getD 1 0)).getD 1 0+2) hj.gs hj.xe ((hj.gp.trans (by rw [hk,Qcx])).trans ?_) (by show AVal.int .i64 (τ.ival 73)=AVal.int .i64 (a+(numL S a).getD 1 0+(numL S (a+(numL S a).getD 1 0)).getD 1 0+(numL S (a+(numL S a).getD 1 0+(numL S (a+(numL S a).getD 1 0)).getD 1 0)).getD 1 0+2);rw [show τ.ival 73=a+(numL S a).getD 1 0+(numL S (a+(numL S a).getD 1 0)).getD 1 0+(numL S (a+(numL S a).getD 1 0+(numL S (a+(numL S a).getD 1 0)).getD 1 0)).getD 1 0+2 by omega]))
                                 ·have hc:=Qdm (S:=S) (a:=a+(numL S a).getD 1 0) (k:=255) (last:=last) (by omega) (by rw [Qbt];omega) (by omega) (by rw [Qco];omega)
                                  have hf:=Qtc (img:=img) (es:=es) (a:=a) (by omega) (by omega) hc (by omega) (by omega) (by rw [<-e72,<-e68];exact f75)
                                  rw [if_pos (by omega)] at hf
                                  exact hf
                                ·simp only [b77,sb,beq_iff_eq] at f77
                                 have hc:=Qdm (S:=S) (a:=a+(numL S a).getD 1 0) (k:=255) (last:=last) (by omega) (by rw [Qbt];omega) (by omega) (by rw [Qco];omega)
                                 have hf:=Qtc (img:=img) (es:=es) (a:=a) (by omega) (by omega) hc (by omega) (by omega) (by rw [<-e72,<-e68];exact f75)
                                 rw [if_neg (by omega)] at hf
                                 refine hE.1 _ _ ⟨hj.gs,(hj.gp.trans (by rw [hk,Qcx])).trans hf,hj.gc,hj.gn,hj.gim,?_,?_,?_,?_,by show es.length<=1000000;omega,extS hj.xe⟩
                                 ·show τ.ival 43=(numL S a).getD 0 0
                                  omega
                                 ·show τ.ival 47=last.r+min ((numL S (a+(numL S a).getD 1 0)).getD 0 0) 2199023255552
                                  omega
                                 ·show τ.ival 55=last.b+min ((numL S (a+(numL S a).getD 1 0+(numL S (a+(numL S a).getD 1 0)).getD 1 0)).getD 0 0) 2199023255552
                                  omega
                                 ·show τ.ival 65=bAt S (a+(numL S a).getD 1 0+(numL S (a+(numL S a).getD 1 0)).getD 1 0+(numL S (a+(numL S a).getD 1 0+(numL S (a+(numL S a).getD 1 0)).getD 1 0)).getD 1 0)
                                  omega
                              ·simp only [b71,sb,beq_iff_eq] at f71
                               omega
                            ·simp only [b67,sb,beq_iff_eq] at f67
                             omega
                          ·simp only [b61,sb,beq_iff_eq] at f61
                           omega
                     ·simp only [b79,sb,beq_iff_eq] at f79
                      omega
                    ·simp only [b78,sb,beq_iff_eq] at f78
                     omega
                   ·simp only [b66,sb,beq_iff_eq] at f66
                    omega
                 ·simp only [b50,sb,beq_iff_eq] at f50
                  omega
              ·simp only [b38,sb,beq_iff_eq] at f38
               omega
             ·simp only [b34,sb,beq_iff_eq] at f34
              omega
            ·simp only [b33,sb,beq_iff_eq] at f33
             omega
           ·simp only [b31,sb,beq_iff_eq] at f31
            refine ⟨fun f39=> ?_,fun f39=> ?_⟩
            ·simp only [b39,sb,beq_iff_eq] at f39
             omega
            ·simp only [b39,sb,beq_iff_eq] at f39
             refine ⟨fun f44=> ?_,fun f44=> ?_⟩
             ·simp only [b44,sb,beq_iff_eq] at f44
              omega
             ·simp only [b44,sb,beq_iff_eq] at f44
              refine ⟨fun f50=> ?_,fun f50=> ?_⟩
              ·simp only [b50,sb,beq_iff_eq] at f50
               refine ⟨fun f52=> ?_,fun f52=> ?_⟩
               ·simp only [b52,sb,beq_iff_eq] at f52
                refine ⟨fun f42=> ?_,fun f42=> ?_⟩
                ·simp only [b42,b41,sb,beq_iff_eq] at f42
                 refine hE.2 _ (Q5 (p:=a) hj.gs hj.xe ((hj.gp.trans (by rw [hk,Qcx])).trans ?_) (by show AVal.int .i64 (τ.ival 1)=AVal.int .i64 (a);rw [show τ.ival 1=a by omega]))
                 ·exact Qom (by omega)
                ·simp only [b42,b41,sb,beq_iff_eq] at f42
                 refine ⟨fun f51=> ?_,fun f51=> ?_⟩
                 ·simp only [b51,b48,sb,beq_iff_eq] at f51
                  refine hE.2 _ (Q5 (p:=a+(numL S a).getD 1 0) hj.gs hj.xe ((hj.gp.trans (by rw [hk,Qcx])).trans ?_) (by show AVal.int .i64 (τ.ival 18)=AVal.int .i64 (a+(numL S a).getD 1 0);rw [show τ.ival 18=a+(numL S a).getD 1 0 by omega]))
                  ·exact Qk6 (by omega) (by omega) (Qit (by rw [Qbt];omega))
                 ·simp only [b51,b48,sb,beq_iff_eq] at f51
                  refine hE.2 _ (Q5 (p:=a+(numL S a).getD 1 0+(numL S (a+(numL S a).getD 1 0)).getD 1 0) hj.gs hj.xe ((hj.gp.trans (by rw [hk,Qcx])).trans ?_) (by show AVal.int .i64 (τ.ival 25)=AVal.int .i64 (a+(numL S a).getD 1 0+(numL S (a+(numL S a).getD 1 0)).getD 1 0);rw [show τ.ival 25=a+(numL S a).getD 1 0+(numL S (a+(numL S a).getD 1 0)).getD 1 0 by omega]))
                  ·exact Qk6 (by omega) (by omega) (Qny (by omega) (by rw [Qbt];omega) (by rw [Qco];omega))
               ·simp only [b52,sb,beq_iff_eq] at f52
                omega
              ·simp only [b50,sb,beq_iff_eq] at f50
               omega
          ·simp only [b27,sb,beq_iff_eq] at f27
           omega
         ·simp only [b26,sb,beq_iff_eq] at f26
          omega
        ·simp only [b24,sb,beq_iff_eq] at f24
         refine ⟨fun f39=> ?_,fun f39=> ?_⟩
         ·simp only [b39,sb,beq_iff_eq] at f39
          omega
         ·simp only [b39,sb,beq_iff_eq] at f39
          refine ⟨fun f44=> ?_,fun f44=> ?_⟩
          ·simp only [b44,sb,beq_iff_eq] at f44
           refine ⟨fun f42=> ?_,fun f42=> ?_⟩
           ·simp only [b42,b41,sb,beq_iff_eq] at f42
            refine hE.2 _ (Q5 (p:=a) hj.gs hj.xe ((hj.gp.trans (by rw [hk,Qcx])).trans ?_) (by show AVal.int .i64 (τ.ival 1)=AVal.int .i64 (a);rw [show τ.ival 1=a by omega]))
            ·exact Qom (by omega)
           ·simp only [b42,b41,sb,beq_iff_eq] at f42
            refine hE.2 _ (Q5 (p:=a+(numL S a).getD 1 0) hj.gs hj.xe ((hj.gp.trans (by rw [hk,Qcx])).trans ?_) (by show AVal.int .i64 (τ.ival 18)=AVal.int .i64 (a+(numL S a).getD 1 0);rw [show τ.ival 18=a+(numL S a).getD 1 0 by omega]))
            ·exact Qk6 (by omega) (by omega) (Qit (by rw [Qbt];omega))
          ·simp only [b44,sb,beq_iff_eq] at f44
           omega
       ·simp only [b20,sb,beq_iff_eq] at f20
        omega
      ·simp only [b19,sb,beq_iff_eq] at f19
       omega
     ·simp only [b17,sb,beq_iff_eq] at f17
      refine ⟨fun f39=> ?_,fun f39=> ?_⟩
      ·simp only [b39,sb,beq_iff_eq] at f39
       refine hE.2 _ (Q5 (p:=a) hj.gs hj.xe ((hj.gp.trans (by rw [hk,Qcx])).trans ?_) (by show AVal.int .i64 (τ.ival 1)=AVal.int .i64 (a);rw [show τ.ival 1=a by omega]))
       ·exact Qom (by omega)
      ·simp only [b39,sb,beq_iff_eq] at f39
       omega
    ·simp only [b13,sb,beq_iff_eq] at f13
     omega
   ·simp only [b12,sb,beq_iff_eq] at f12
    omega
  ·simp only [b11,sb,beq_iff_eq] at f11
   omega
 ·
  omega
end Go.Proofs.YtelimhjceiamcaaDoor.lg
