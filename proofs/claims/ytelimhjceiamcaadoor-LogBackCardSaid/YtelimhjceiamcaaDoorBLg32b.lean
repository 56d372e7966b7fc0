/-
 A round of the loop of log's reader.
 No conditions.
-/
import Derived.Test.YtelimhjceiamcaaDoorBLg32c
namespace Go.Proofs.YtelimhjceiamcaaDoor.lg
open Go.Ev Go.RowKit Go.Wbp Go.Lgp
open Go.Proofs.YtelimhjceiamcaaDoor.lgn (mixed sf48 Qda)
set_option linter.unusedVariables false
set_option linter.unusedSimpArgs false
theorem ex32 {E:Nat->Option Fz} {S:ByteArray} {img:Int} {σ τ:Sig} (ag:Agree 10 σ τ) (h: ∃f a k last es,J32 E S img a f last es k σ): ∃f a k last es,J32 E S img a f last es k τ:=
 let ⟨f,a,k,last,es,h⟩:=h
 ⟨f,a,k,last,es,h.agree ag⟩
abbrev B32 (W0:Fra) (Z:Exit->Act->World->Prop) (E:Nat->Option Fz) (S:ByteArray) (img:Int) (kk:Nat):Exit->Act->World->Prop:=
 Qgd Tryd.prog 0 ((Qe (Qc Tryd.f32)).drop 5) Z (InvS Qa 84 W0 Qd3 10 Qef (fun σ=> ∃f a k last es,J32 E S img a f last es k σ) (fun σ=>(1000001-σ.ival 1).toNat)) kk
set_option maxHeartbeats 4000000 in
theorem Qbi5 {W0:Fra} {Z:Exit->Act->World->Prop} {E:Nat->Option Fz} {S:ByteArray} {img:Int} (hE:Ends W0 Z E S) (hpin: ∀i,W0.pin i≠none->pinW i Qug=true)
  (hC:Qf Tryd.prog Qa 84 W0 Z ((Qe (Qc Tryd.f32)).drop 5) Qd3 10 Qef (fun σ=> ∃f a last es,J32 E S img a f last es 255 σ)) (kk:Nat):
  Qf Tryd.prog Qa 84 W0 (B32 W0 Z E S img kk) (Qe (Qca (Qc Tryd.f32))) Qd3 10 Qef (fun σ=>(∃f a k last es,J32 E S img a f last es k σ)/\(1000001-σ.ival 1).toNat=kk):=by
 refine Qf.last mixed Qbc1 ⟨rfl,rfl⟩ (fun σ τ ag h=>⟨ex32 ag h.1,by rw [<-(ag.val 1 (by decide)).1];exact h.2⟩) (fun τ h=>Qbe) (fun τ e ht hi hj=> ?_) hpin
 obtain ⟨⟨f,a,k,last,es,hj⟩,hkk⟩:=hj
 refine Q6 ?_
 have hs:=hj.gs
 have ha:=hj.ga
 have hn:=hj.gn
 have hr:=hj.gr
 have hb:=hj.gb
 have hk6:=hj.gk
 have hkd:=hj.gkd
 have a8:=hj.a8
 have az:=hj.az
 have sz:=hj.sz
 have lr:=hj.lr
 have lb:=hj.lb
 have lk:=hj.lk
 have cn:=hj.cn
 have fu:=hj.fu
 have hkk2:=hj.kk
 have i10:τ.ival 10=((τ.sval 0).size:Nat):=Qbm (e.at 0 _ rfl rfl)
 have b11:τ.bval 11=decide ((0:Int)<=τ.ival 1):=eqB (e.at 1 _ rfl rfl) rfl
 have b12:τ.bval 12=decide (τ.ival 1<=τ.ival 10):=eqB (e.at 2 _ rfl rfl) rfl
 have b13:τ.bval 13=decide (τ.ival 10<=1000000):=eqB (e.at 3 _ rfl rfl) rfl
 have b14:τ.bval 14= !((τ.ival 9:Int)==255):=eqB (e.at 4 _ rfl rfl) rfl
 have i15:τ.ival 15=IntKind.u64.wrap (τ.tab 128 [encB (τ.sval 0),τ.ival 1]):=eqFn (e.at 5 _ rfl rfl)
 have i16:τ.ival 16=IntKind.i64.wrap (τ.tab 129 [encB (τ.sval 0),τ.ival 1]):=eqFn (e.at 6 _ rfl rfl)
 have i17:τ.ival 17=IntKind.i64.wrap (τ.tab 130 [encB (τ.sval 0),τ.ival 1]):=eqFn (e.at 7 _ rfl rfl)
 have b18:τ.bval 18=((τ.ival 17:Int)==0):=eqB (e.at 8 _ rfl rfl) rfl
 have i19:τ.ival 19=IntKind.i64.wrap (τ.ival 1+τ.ival 16):=eqI (e.at 9 _ rfl rfl) rfl
 have b20:τ.bval 20=decide ((0:Int)<=τ.ival 19):=eqB (e.at 10 _ rfl rfl) rfl
 have b21:τ.bval 21=decide (τ.ival 19<=τ.ival 10):=eqB (e.at 11 _ rfl rfl) rfl
 have i22:τ.ival 22=IntKind.u64.wrap (τ.tab 128 [encB (τ.sval 0),τ.ival 19]):=eqFn (e.at 12 _ rfl rfl)
 have i23:τ.ival 23=IntKind.i64.wrap (τ.tab 129 [encB (τ.sval 0),τ.ival 19]):=eqFn (e.at 13 _ rfl rfl)
 have i24:τ.ival 24=IntKind.i64.wrap (τ.tab 130 [encB (τ.sval 0),τ.ival 19]):=eqFn (e.at 14 _ rfl rfl)
 have b25:τ.bval 25=((τ.ival 24:Int)==0):=eqB (e.at 15 _ rfl rfl) rfl
 have i26:τ.ival 26=IntKind.i64.wrap (τ.ival 19+τ.ival 23):=eqI (e.at 16 _ rfl rfl) rfl
 have b27:τ.bval 27=decide ((0:Int)<=τ.ival 26):=eqB (e.at 17 _ rfl rfl) rfl
 have b28:τ.bval 28=decide (τ.ival 26<=τ.ival 10):=eqB (e.at 18 _ rfl rfl) rfl
 have i29:τ.ival 29=IntKind.i64.wrap (τ.ival 26+1):=eqI (e.at 19 _ rfl rfl) rfl
 have s30:τ.sval 30=(τ.sval 0).extract (0:Int).toNat (τ.ival 29:Int).toNat:=Qfn (e.at 20 _ rfl rfl) rfl rfl
 have i31:τ.ival 31=((τ.sval 30).size:Nat):=Qbm (e.at 21 _ rfl rfl)
 have b32:τ.bval 32=decide (τ.ival 31<=1000000):=eqB (e.at 22 _ rfl rfl) rfl
 have b33:τ.bval 33= !((τ.ival 17:Int)==0):=eqB (e.at 23 _ rfl rfl) rfl
 have i34:τ.ival 34=(bif τ.bval 33 then τ.ival 1 else 0):=Qi0 (e.at 24 _ rfl rfl) rfl rfl rfl
 have i35:τ.ival 35=(if 2199023255552<τ.ival 15 then 2199023255552 else τ.ival 15):=eqI (e.at 25 _ rfl rfl) rfl
 have i36:τ.ival 36=IntKind.u64.wrap (τ.ival 4+τ.ival 35):=eqI (e.at 26 _ rfl rfl) rfl
 have b37:τ.bval 37=decide (τ.ival 36<=1099511627776):=eqB (e.at 27 _ rfl rfl) rfl
 have b38:τ.bval 38=decide (τ.ival 15>0):=eqB (e.at 28 _ rfl rfl) rfl
 have b39:τ.bval 39=decide (τ.ival 9>τ.ival 6):=eqB (e.at 29 _ rfl rfl) rfl
 have b40:τ.bval 40=(bif τ.bval 38 then true else τ.bval 39):=Qbx (e.at 30 _ rfl rfl) rfl rfl rfl
 have b41:τ.bval 41=(bif τ.bval 37 then τ.bval 40 else false):=Qbx (e.at 31 _ rfl rfl) rfl rfl rfl
 have b42:τ.bval 42= !(τ.bval 41):=eqB (e.at 32 _ rfl rfl) rfl
 have b43:τ.bval 43= !((τ.ival 24:Int)==0):=eqB (e.at 33 _ rfl rfl) rfl
 have i44:τ.ival 44=(bif τ.bval 43 then τ.ival 19 else 0):=Qi0 (e.at 34 _ rfl rfl) rfl rfl rfl
 have i45:τ.ival 45=(if 2199023255552<τ.ival 22 then 2199023255552 else τ.ival 22):=eqI (e.at 35 _ rfl rfl) rfl
 have i46:τ.ival 46=IntKind.u64.wrap (τ.ival 5+τ.ival 45):=eqI (e.at 36 _ rfl rfl) rfl
 have b47:τ.bval 47=decide (τ.ival 46<=τ.ival 36):=eqB (e.at 37 _ rfl rfl) rfl
 have b48:τ.bval 48=((τ.ival 22:Int)==0):=eqB (e.at 38 _ rfl rfl) rfl
 have b49:τ.bval 49=((τ.ival 9:Int)==255):=eqB (e.at 39 _ rfl rfl) rfl
 have b50:τ.bval 50=(bif τ.bval 38 then true else τ.bval 48):=Qbx (e.at 40 _ rfl rfl) rfl rfl rfl
 have b51:τ.bval 51=(bif τ.bval 47 then τ.bval 50 else false):=Qbx (e.at 41 _ rfl rfl) rfl rfl rfl
 have b52:τ.bval 52= !(τ.bval 51):=eqB (e.at 42 _ rfl rfl) rfl
 have i53:τ.ival 53=IntKind.i64.wrap (τ.ival 10-τ.ival 26):=eqI (e.at 43 _ rfl rfl) rfl
 have b54:τ.bval 54=((τ.ival 53:Int)==0):=eqB (e.at 44 _ rfl rfl) rfl
 have b55:τ.bval 55=decide (τ.ival 26<τ.ival 10):=eqB (e.at 45 _ rfl rfl) rfl
 have i56:τ.ival 56=bAt (τ.sval 0) (τ.ival 26):=eqAt (e.at 46 _ rfl rfl) rfl
 have b57:τ.bval 57=decide ((0:Int)<=τ.ival 29):=eqB (e.at 47 _ rfl rfl) rfl
 have b58:τ.bval 58=decide (τ.ival 29<=τ.ival 10):=eqB (e.at 48 _ rfl rfl) rfl
 have i59:τ.ival 59=IntKind.u8.wrap (τ.tab 384 [encB (τ.sval 30)]):=eqFn (e.at 49 _ rfl rfl)
 have i60:τ.ival 60=IntKind.i64.wrap (τ.ival 10-τ.ival 29):=eqI (e.at 50 _ rfl rfl) rfl
 have b61:τ.bval 61=((τ.ival 60:Int)==0):=eqB (e.at 51 _ rfl rfl) rfl
 have b62:τ.bval 62=decide (τ.ival 29<τ.ival 10):=eqB (e.at 52 _ rfl rfl) rfl
 have i63:τ.ival 63=bAt (τ.sval 0) (τ.ival 29):=eqAt (e.at 53 _ rfl rfl) rfl
 have i64:τ.ival 64=IntKind.i64.wrap (τ.ival 29+1):=eqI (e.at 54 _ rfl rfl) rfl
 have b65:τ.bval 65=((τ.ival 63:Int)==τ.ival 59):=eqB (e.at 55 _ rfl rfl) rfl
 have b66:τ.bval 66= !(τ.bval 65):=eqB (e.at 56 _ rfl rfl) rfl
 have s67:τ.sval 67=encX ⟨τ.ival 36,τ.ival 46,τ.ival 9,τ.ival 56⟩:=Qbu (e.at 57 _ rfl rfl)
 have s68:τ.sval 68=τ.sval 8++τ.sval 67:=Qu (e.at 58 _ rfl rfl) rfl rfl
 have i69:τ.ival 69=IntKind.i64.wrap (τ.ival 3+1):=eqI (e.at 59 _ rfl rfl) rfl
 have b70:τ.bval 70=decide ((0:Int)<=τ.ival 69):=eqB (e.at 60 _ rfl rfl) rfl
 have b71:τ.bval 71=decide (τ.ival 69<=4398046511104):=eqB (e.at 61 _ rfl rfl) rfl
 have i72:τ.ival 72=IntKind.i64.wrap (τ.ival 10-τ.ival 64):=eqI (e.at 62 _ rfl rfl) rfl
 have b73:τ.bval 73=((τ.ival 72:Int)==0):=eqB (e.at 63 _ rfl rfl) rfl
 have b74:τ.bval 74=decide ((0:Int)<=τ.ival 64):=eqB (e.at 64 _ rfl rfl) rfl
 have b75:τ.bval 75=decide (τ.ival 64<τ.ival 10):=eqB (e.at 65 _ rfl rfl) rfl
 have i76:τ.ival 76=bAt (τ.sval 0) (τ.ival 64):=eqAt (e.at 66 _ rfl rfl) rfl
 have i77:τ.ival 77=IntKind.i64.wrap (τ.ival 64+1):=eqI (e.at 67 _ rfl rfl) rfl
 have i78:τ.ival 78=IntKind.i64.wrap (τ.ival 76):=eqI (e.at 68 _ rfl rfl) rfl
 have b79:τ.bval 79=decide (τ.ival 78<=2):=eqB (e.at 69 _ rfl rfl) rfl
 have b80:τ.bval 80=((τ.ival 76:Int)==255):=eqB (e.at 70 _ rfl rfl) rfl
 have b81:τ.bval 81=(bif τ.bval 79 then true else τ.bval 80):=Qbx (e.at 71 _ rfl rfl) rfl rfl rfl
 have b82:τ.bval 82= !(τ.bval 81):=eqB (e.at 72 _ rfl rfl) rfl
 rw [hs] at i10
 rw [Qh] at i19 i26 i29 i64 i69 i77
 obtain ⟨v1,l1,c1,k1,k2,k3,k4,k5⟩:=Qml ht hs ha i15 i16 i17
 have e19:τ.ival 19=a+(numL S a).getD 1 0:=by omega
 obtain ⟨w1,m1,d1,q1,q2,q3,q4,q5⟩:=Qml ht hs e19 i22 i23 i24
 have e26:τ.ival 26=a+(numL S a).getD 1 0+(numL S (a+(numL S a).getD 1 0)).getD 1 0:=by omega
 clear i15 i16 i17 i22 i23 i24
 have e29:τ.ival 29=a+(numL S a).getD 1 0+(numL S (a+(numL S a).getD 1 0)).getD 1 0+1:=by omega
 have e64:τ.ival 64=a+(numL S a).getD 1 0+(numL S (a+(numL S a).getD 1 0)).getD 1 0+2:=by omega
 have e77:τ.ival 77=a+(numL S a).getD 1 0+(numL S (a+(numL S a).getD 1 0)).getD 1 0+3:=by omega
 rw [hs,e29] at s30
 have e30:τ.sval 30=S.extract 0 (a+(numL S a).getD 1 0+(numL S (a+(numL S a).getD 1 0)).getD 1 0+1).toNat:=s30
 have z30:0<=τ.ival 31/\τ.ival 31<=τ.ival 10:=by
  rw [i31,e30,ByteArray.size_extract];omega
 have e59:τ.ival 59=sumS (S.extract 0 (a+(numL S a).getD 1 0+(numL S (a+(numL S a).getD 1 0)).getD 1 0+1).toNat):=by
  have:=Qhb (ints (S.extract 0 (a+(numL S a).getD 1 0+(numL S (a+(numL S a).getD 1 0)).getD 1 0+1).toNat))
  rw [ht,e30,Qma,wr_u8] at i59
  unfold sumS at i59⊢
  omega
 have e63:τ.ival 63=bAt S (a+(numL S a).getD 1 0+(numL S (a+(numL S a).getD 1 0)).getD 1 0+1):=by rw [i63,hs,e29]
 have e56:τ.ival 56=bAt S (a+(numL S a).getD 1 0+(numL S (a+(numL S a).getD 1 0)).getD 1 0):=by rw [i56,hs,e26]
 have e76:τ.ival 76=bAt S (a+(numL S a).getD 1 0+(numL S (a+(numL S a).getD 1 0)).getD 1 0+2):=by rw [i76,hs,e64]
 have b76:=Qd S (a+(numL S a).getD 1 0+(numL S (a+(numL S a).getD 1 0)).getD 1 0+2)
 have e78:τ.ival 78=bAt S (a+(numL S a).getD 1 0+(numL S (a+(numL S a).getD 1 0)).getD 1 0+2):=by rw [Qh] at i78;omega
 have e35:τ.ival 35=min ((numL S a).getD 0 0) 2199023255552:=by rw [i35];split<;>omega
 have e45:τ.ival 45=min ((numL S (a+(numL S a).getD 1 0)).getD 0 0) 2199023255552:=by rw [i45];split<;>omega
 have e36:τ.ival 36=last.r+min ((numL S a).getD 0 0) 2199023255552:=by rw [Qj] at i36;omega
 have e46:τ.ival 46=last.b+min ((numL S (a+(numL S a).getD 1 0)).getD 0 0) 2199023255552:=by rw [Qj] at i46;omega
 have e53:τ.ival 53=τ.ival 10-τ.ival 26:=by rw [Qh] at i53;omega
 have e60:τ.ival 60=τ.ival 10-τ.ival 29:=by rw [Qh] at i60;omega
 have e72:τ.ival 72=τ.ival 10-τ.ival 64:=by rw [Qh] at i72;omega
 clear i19 i26 i29 i34 i35 i36 i44 i45 i46 i53 i56 i59 i60 i63 i64 i72 i76 i77 i78 s30
 refine ⟨fun f11=> ?_,fun f11=> ?_⟩
 ·simp only [b11,sb,beq_iff_eq] at f11
  refine ⟨fun f12=> ?_,fun f12=> ?_⟩
  ·simp only [b12,sb,beq_iff_eq] at f12
   refine ⟨fun f13=> ?_,fun f13=> ?_⟩
   ·simp only [b13,sb,beq_iff_eq] at f13
    refine ⟨fun f14=> ?_,fun f14=> ?_⟩
    ·simp only [b14,sb,beq_iff_eq] at f14
     refine ⟨fun f18=> ?_,fun f18=> ?_⟩
     ·simp only [b18,sb,beq_iff_eq] at f18
      refine ⟨fun f20=> ?_,fun f20=> ?_⟩
      ·simp only [b20,sb,beq_iff_eq] at f20
       refine ⟨fun f21=> ?_,fun f21=> ?_⟩
       ·simp only [b21,sb,beq_iff_eq] at f21
        refine ⟨fun f25=> ?_,fun f25=> ?_⟩
        ·simp only [b25,sb,beq_iff_eq] at f25
         refine ⟨fun f27=> ?_,fun f27=> ?_⟩
         ·simp only [b27,sb,beq_iff_eq] at f27
          refine ⟨fun f28=> ?_,fun f28=> ?_⟩
          ·simp only [b28,sb,beq_iff_eq] at f28
           refine ⟨fun f32=> ?_,fun f32=> ?_⟩
           ·simp only [b32,sb,beq_iff_eq] at f32
            refine ⟨fun f33=> ?_,fun f33=> ?_⟩
            ·simp only [b33,sb,beq_iff_eq] at f33
             omega
            ·simp only [b33,sb,beq_iff_eq] at f33
             refine ⟨fun f43=> ?_,fun f43=> ?_⟩
             ·simp only [b43,sb,beq_iff_eq] at f43
              omega
             ·simp only [b43,sb,beq_iff_eq] at f43
              refine ⟨fun f49=> ?_,fun f49=> ?_⟩
              ·simp only [b49,sb,beq_iff_eq] at f49
               omega
              ·simp only [b49,sb,beq_iff_eq] at f49
               refine ⟨fun f57=> ?_,fun f57=> ?_⟩
               ·simp only [b57,sb,beq_iff_eq] at f57
                refine ⟨fun f70=> ?_,fun f70=> ?_⟩
                ·simp only [b70,sb,beq_iff_eq] at f70
                 refine ⟨fun f71=> ?_,fun f71=> ?_⟩
                 ·simp only [b71,sb,beq_iff_eq] at f71
                  refine ⟨fun f74=> ?_,fun f74=> ?_⟩
                  ·simp only [b74,sb,beq_iff_eq] at f74
                   refine ⟨fun f42=> ?_,fun f42=> ?_⟩
                   ·simp only [b42,b41,b37,b40,b38,b39,sb,beq_iff_eq] at f42
                    refine EndZ.out (by simp) (EndZ.pan (hE.2 _ (Q5 (p:=a) hj.gs hj.xe (hj.gp.trans ?_) (by show AVal.int .i64 (τ.ival 1)=AVal.int .i64 (a);rw [show τ.ival 1=a by omega]))))
                    ·exact Qg7 (by omega) (Qk4 (Qit (by rw [Qbt];omega)))
                   ·simp only [b42,b41,b37,b40,b38,b39,sb,beq_iff_eq] at f42
                    refine ⟨fun f52=> ?_,fun f52=> ?_⟩
                    ·simp only [b52,b51,b47,b50,b38,b48,sb,beq_iff_eq] at f52
                     refine EndZ.out (by simp) (EndZ.pan (hE.2 _ (Q5 (p:=a+(numL S a).getD 1 0) hj.gs hj.xe (hj.gp.trans ?_) (by show AVal.int .i64 (τ.ival 19)=AVal.int .i64 (a+(numL S a).getD 1 0);rw [show τ.ival 19=a+(numL S a).getD 1 0 by omega]))))
                     ·exact Qg7 (by omega) (Qk4 (Qny (by omega) (by rw [Qbt];omega) (by rw [Qco];omega)))
                    ·simp only [b52,b51,b47,b50,b38,b48,sb,beq_iff_eq] at f52
                     refine ⟨fun f54=> ?_,fun f54=> ?_⟩
                     ·simp only [b54,sb,beq_iff_eq] at f54
                      refine EndZ.out (by simp) (EndZ.pan (hE.2 _ (Q5 (p:=a+(numL S a).getD 1 0+(numL S (a+(numL S a).getD 1 0)).getD 1 0) hj.gs hj.xe (hj.gp.trans ?_) (by show AVal.int .i64 (τ.ival 26)=AVal.int .i64 (a+(numL S a).getD 1 0+(numL S (a+(numL S a).getD 1 0)).getD 1 0);rw [show τ.ival 26=a+(numL S a).getD 1 0+(numL S (a+(numL S a).getD 1 0)).getD 1 0 by omega]))))
                      ·have hc:=Qdm (S:=S) (a:=a) (k:=k) (last:=last) (by omega) (by rw [Qbt];omega) (by omega) (by rw [Qco];omega)
                       exact Qg7 (by omega) (Q9j hc (by omega))
                     ·simp only [b54,sb,beq_iff_eq] at f54
                      refine ⟨fun f55=> ?_,fun f55=> ?_⟩
                      ·simp only [b55,sb,beq_iff_eq] at f55
                       refine ⟨fun f58=> ?_,fun f58=> ?_⟩
                       ·simp only [b58,sb,beq_iff_eq] at f58
                        refine ⟨fun f61=> ?_,fun f61=> ?_⟩
                        ·simp only [b61,sb,beq_iff_eq] at f61
                         refine EndZ.out (by simp) (EndZ.pan (hE.2 _ (Q5 (p:=a+(numL S a).getD 1 0+(numL S (a+(numL S a).getD 1 0)).getD 1 0+1) hj.gs hj.xe (hj.gp.trans ?_) (by show AVal.int .i64 (τ.ival 29)=AVal.int .i64 (a+(numL S a).getD 1 0+(numL S (a+(numL S a).getD 1 0)).getD 1 0+1);rw [show τ.ival 29=a+(numL S a).getD 1 0+(numL S (a+(numL S a).getD 1 0)).getD 1 0+1 by omega]))))
                         ·have hc:=Qdm (S:=S) (a:=a) (k:=k) (last:=last) (by omega) (by rw [Qbt];omega) (by omega) (by rw [Qco];omega)
                          exact Qg7 (by omega) (Qzb hc (by omega) (by first|(left;omega)|(right;rw [<-e63,<-e59];exact f66)))
                        ·simp only [b61,sb,beq_iff_eq] at f61
                         refine ⟨fun f62=> ?_,fun f62=> ?_⟩
                         ·simp only [b62,sb,beq_iff_eq] at f62
                          refine ⟨fun f66=> ?_,fun f66=> ?_⟩
                          ·simp only [b66,b65,sb,beq_iff_eq] at f66
                           refine EndZ.out (by simp) (EndZ.pan (hE.2 _ (Q5 (p:=a+(numL S a).getD 1 0+(numL S (a+(numL S a).getD 1 0)).getD 1 0+1) hj.gs hj.xe (hj.gp.trans ?_) (by show AVal.int .i64 (τ.ival 29)=AVal.int .i64 (a+(numL S a).getD 1 0+(numL S (a+(numL S a).getD 1 0)).getD 1 0+1);rw [show τ.ival 29=a+(numL S a).getD 1 0+(numL S (a+(numL S a).getD 1 0)).getD 1 0+1 by omega]))))
                           ·have hc:=Qdm (S:=S) (a:=a) (k:=k) (last:=last) (by omega) (by rw [Qbt];omega) (by omega) (by rw [Qco];omega)
                            exact Qg7 (by omega) (Qzb hc (by omega) (by first|(left;omega)|(right;rw [<-e63,<-e59];exact f66)))
                          ·simp only [b66,b65,sb,beq_iff_eq] at f66
                           refine ⟨fun f73=> ?_,fun f73=> ?_⟩
                           ·simp only [b73,sb,beq_iff_eq] at f73
                            have hc:=Qdm (S:=S) (a:=a) (k:=k) (last:=last) (by omega) (by rw [Qbt];omega) (by omega) (by rw [Qco];omega)
                            have hn:=Qob hc (by omega) (by rw [<-e63,<-e59];exact f66)
                            obtain ⟨f',rfl⟩: ∃f',f=f'+1:=⟨f-1,by omega⟩
                            refine EndZ.out (by simp) (EndZ.pan (hE.2 _ (Q5 (p:=a+(numL S a).getD 1 0+(numL S (a+(numL S a).getD 1 0)).getD 1 0+2) hj.gs hj.xe (hj.gp.trans ?_) (by show AVal.int .i64 (τ.ival 64)=AVal.int .i64 (a+(numL S a).getD 1 0+(numL S (a+(numL S a).getD 1 0)).getD 1 0+2);rw [show τ.ival 64=a+(numL S a).getD 1 0+(numL S (a+(numL S a).getD 1 0)).getD 1 0+2 by omega]))))
                            rw [Qqt (by omega) hn]
                            exact Qqr (Qo8 (by omega))
                           ·simp only [b73,sb,beq_iff_eq] at f73
                            refine ⟨fun f75=> ?_,fun f75=> ?_⟩
                            ·simp only [b75,sb,beq_iff_eq] at f75
                             refine ⟨fun f82=> ?_,fun f82=> ?_⟩
                             ·simp only [b82,b81,b79,b80,sb,beq_iff_eq] at f82
                              have hc:=Qdm (S:=S) (a:=a) (k:=k) (last:=last) (by omega) (by rw [Qbt];omega) (by omega) (by rw [Qco];omega)
                              have hn:=Qob hc (by omega) (by rw [<-e63,<-e59];exact f66)
                              obtain ⟨f',rfl⟩: ∃f',f=f'+1:=⟨f-1,by omega⟩
                              refine EndZ.out (by simp) (EndZ.pan (hE.2 _ (Q5 (p:=a+(numL S a).getD 1 0+(numL S (a+(numL S a).getD 1 0)).getD 1 0+2) hj.gs hj.xe (hj.gp.trans ?_) (by show AVal.int .i64 (τ.ival 64)=AVal.int .i64 (a+(numL S a).getD 1 0+(numL S (a+(numL S a).getD 1 0)).getD 1 0+2);rw [show τ.ival 64=a+(numL S a).getD 1 0+(numL S (a+(numL S a).getD 1 0)).getD 1 0+2 by omega]))))
                              rw [Qqt (by omega) hn]
                              exact Qqr (Qo8 (by omega))
                             ·simp only [b82,b81,b79,b80,sb,beq_iff_eq] at f82
                              have hc:=Qdm (S:=S) (a:=a) (k:=k) (last:=last) (by omega) (by rw [Qbt];omega) (by omega) (by rw [Qco];omega)
                              have hn:=Qob hc (by omega) (by rw [<-e63,<-e59];exact f66)
                              have hk:=Qo9 (S:=S) (a:=a+(numL S a).getD 1 0+(numL S (a+(numL S a).getD 1 0)).getD 1 0+2) (by omega) (by omega)
                              obtain ⟨f',rfl⟩: ∃f',f=f'+1:=⟨f-1,by omega⟩
                              refine EndZ.loop (Qbi (X:=Qfw) e hi (by kernel_rfl) (by kernel_rfl)) ⟨f',a+(numL S a).getD 1 0+(numL S (a+(numL S a).getD 1 0)).getD 1 0+3,bAt S (a+(numL S a).getD 1 0+(numL S (a+(numL S a).getD 1 0)).getD 1 0+2),⟨last.r+min ((numL S a).getD 0 0) 2199023255552,last.b+min ((numL S (a+(numL S a).getD 1 0)).getD 0 0) 2199023255552,k,bAt S (a+(numL S a).getD 1 0+(numL S (a+(numL S a).getD 1 0)).getD 1 0)⟩,es++[⟨last.r+min ((numL S a).getD 0 0) 2199023255552,last.b+min ((numL S (a+(numL S a).getD 1 0)).getD 0 0) 2199023255552,k,bAt S (a+(numL S a).getD 1 0+(numL S (a+(numL S a).getD 1 0)).getD 1 0)⟩],hj.gs,(by show τ.ival 77=_;omega),hj.gim,(by show τ.ival 69=_;rw [List.length_append,List.length_singleton];omega),(by show τ.ival 36=last.r+min ((numL S a).getD 0 0) 2199023255552;omega),(by show τ.ival 46=last.b+min ((numL S (a+(numL S a).getD 1 0)).getD 0 0) 2199023255552;omega),hj.gkd,e56,?_,e78,by omega,by omega,hj.sz,(by show 0<=last.r+min ((numL S a).getD 0 0) 2199023255552/\last.r+min ((numL S a).getD 0 0) 2199023255552<=1099511627776;omega),(by show 0<=last.b+min ((numL S (a+(numL S a).getD 1 0)).getD 0 0) 2199023255552/\last.b+min ((numL S (a+(numL S a).getD 1 0)).getD 0 0) 2199023255552<=last.r+min ((numL S a).getD 0 0) 2199023255552;omega),(by show k<=2;omega),by omega,(by rw [List.length_append,List.length_singleton];push_cast;omega),by omega,?_,extS hj.xe⟩ (tabS ht) ?_
                              ·show τ.sval 68=_
                               rw [s68,s67,hj.gc,Lgp.encL_snoc,e56,hkd,e36,e46]
                              ·rw [hj.gp,Qqt (by omega) hn,Qqs hk]
                               rw [show a+(numL S a).getD 1 0+(numL S (a+(numL S a).getD 1 0)).getD 1 0+2+1=a+(numL S a).getD 1 0+(numL S (a+(numL S a).getD 1 0)).getD 1 0+3 by omega]
                               rfl
                              ·show (1000001-τ.ival 77).toNat<kk
                               omega
                            ·simp only [b75,sb,beq_iff_eq] at f75
                             omega
                         ·simp only [b62,sb,beq_iff_eq] at f62
                          omega
                       ·simp only [b58,sb,beq_iff_eq] at f58
                        omega
                      ·simp only [b55,sb,beq_iff_eq] at f55
                       omega
                  ·simp only [b74,sb,beq_iff_eq] at f74
                   omega
                 ·simp only [b71,sb,beq_iff_eq] at f71
                  omega
                ·simp only [b70,sb,beq_iff_eq] at f70
                 omega
               ·simp only [b57,sb,beq_iff_eq] at f57
                omega
           ·simp only [b32,sb,beq_iff_eq] at f32
            omega
          ·simp only [b28,sb,beq_iff_eq] at f28
           omega
         ·simp only [b27,sb,beq_iff_eq] at f27
          omega
        ·simp only [b25,sb,beq_iff_eq] at f25
         refine ⟨fun f33=> ?_,fun f33=> ?_⟩
         ·simp only [b33,sb,beq_iff_eq] at f33
          omega
         ·simp only [b33,sb,beq_iff_eq] at f33
          refine ⟨fun f43=> ?_,fun f43=> ?_⟩
          ·simp only [b43,sb,beq_iff_eq] at f43
           refine ⟨fun f42=> ?_,fun f42=> ?_⟩
           ·simp only [b42,b41,b37,b40,b38,b39,sb,beq_iff_eq] at f42
            refine EndZ.out (by simp) (EndZ.pan (hE.2 _ (Q5 (p:=a) hj.gs hj.xe (hj.gp.trans ?_) (by show AVal.int .i64 (τ.ival 1)=AVal.int .i64 (a);rw [show τ.ival 1=a by omega]))))
            ·exact Qg7 (by omega) (Qk4 (Qit (by rw [Qbt];omega)))
           ·simp only [b42,b41,b37,b40,b38,b39,sb,beq_iff_eq] at f42
            refine EndZ.out (by simp) (EndZ.pan (hE.2 _ (Q5 (p:=a+(numL S a).getD 1 0) hj.gs hj.xe (hj.gp.trans ?_) (by show AVal.int .i64 (τ.ival 19)=AVal.int .i64 (a+(numL S a).getD 1 0);rw [show τ.ival 19=a+(numL S a).getD 1 0 by omega]))))
            ·exact Qg7 (by omega) (Qk4 (Qny (by omega) (by rw [Qbt];omega) (by rw [Qco];omega)))
          ·simp only [b43,sb,beq_iff_eq] at f43
           omega
       ·simp only [b21,sb,beq_iff_eq] at f21
        omega
      ·simp only [b20,sb,beq_iff_eq] at f20
       omega
     ·simp only [b18,sb,beq_iff_eq] at f18
      refine ⟨fun f33=> ?_,fun f33=> ?_⟩
      ·simp only [b33,sb,beq_iff_eq] at f33
       refine EndZ.out (by simp) (EndZ.pan (hE.2 _ (Q5 (p:=a) hj.gs hj.xe (hj.gp.trans ?_) (by show AVal.int .i64 (τ.ival 1)=AVal.int .i64 (a);rw [show τ.ival 1=a by omega]))))
       ·exact Qg7 (by omega) (Qk4 (Qit (by rw [Qbt];omega)))
      ·simp only [b33,sb,beq_iff_eq] at f33
       omega
    ·simp only [b14,sb,beq_iff_eq] at f14
     exact EndZ.out (by simp) (EndZ.blk hC (.inr rfl) (Qbi (X:=Qfw) e hi (by kernel_rfl) (by kernel_rfl)) ⟨f,a,last,es,hj.gs,hj.ga,hj.gim,hj.gn,hj.gr,hj.gb,hj.gk,hj.gv,hj.gc,(by show τ.ival 9=255;omega),hj.a8,hj.az,hj.sz,hj.lr,hj.lb,hj.lk,hj.fu,hj.cn,.inr rfl,(by rw [hj.gp,show k=255 by omega]),extS hj.xe⟩ (tabS ht))
   ·simp only [b13,sb,beq_iff_eq] at f13
    omega
  ·simp only [b12,sb,beq_iff_eq] at f12
   omega
 ·simp only [b11,sb,beq_iff_eq] at f11
  omega
end Go.Proofs.YtelimhjceiamcaaDoor.lg
