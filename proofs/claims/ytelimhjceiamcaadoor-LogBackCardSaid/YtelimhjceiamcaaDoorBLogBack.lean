/-
 LogBack is true: a log that may be comes back from its bytes; cut anywhere, or longer, they are corrupt; what is read of any bytes is laid again just so.
 No conditions.
-/
import Derived.Test.YtelimhjceiamcaaDoorRows
import Derived.Test.YtelimhjceiamcaaDoorCards
import Derived.Test.YtelimhjceiamcaaDoorTie
import Derived.SevenTiedAt
import Derived.WalkKit
import Derived.ProofKit
import Derived.OpenShut
import Derived.Below
import Derived.ChangeSame
import Derived.ChangeMaps5
import Derived.Lib.Strings
import Derived.Test.YtelimhjceiamcaaDoorBLg5
set_option maxRecDepth 100000
namespace Go.Proofs.YtelimhjceiamcaaDoor.logBack
open Go.ChangeShapes Go.WideShapes Go.ChangeAt Go.RowKit
open Go.Ev Go.Wbp Go.Lgp Go.Proofs.YtelimhjceiamcaaDoor.fa Go.Proofs.YtelimhjceiamcaaDoor.lg
open Go.Proofs.YtelimhjceiamcaaDoor.lgn (mixed)
set_option linter.unusedVariables false
set_option linter.unusedSimpArgs false
theorem own:ownKnob Tryd.prog.godebug=none:=by kernel_rfl
noncomputable def ing:Ing:={m:=0,G:=[],T:=.e,mh:=asMh Tryd.prog 35 78 88 36 34,inv:=Qdv 0 Qdf}
theorem hooks (F:List Fact):Hooks Tryd.prog (cxOf ing F) where
 val:=fun f args v h=>by simp only [ing,cxOf,Qc8,reduceCtorEq] at h
 mem:=fun f args hp v hp' h=>Q7p (X:=ing) rfl rfl as_ok is_ok (fun _ h=>h) F f args hp v hp' h
 ovl:=fun f k h=>by simp only [ing,cxOf,reduceCtorEq] at h
 atm:=fun k b h=>by simp only [ing,cxOf,List.not_mem_nil] at h
theorem Qbkg:Qee ((evD Tryd.prog (cxOf ing) true 1000 40).1 [] 14 [] ⟨[],[]⟩)=true:=by kernel_rfl
theorem Qbkf (w:World) (O:Obj) (hO:Qdf O) (hw:w.heap[0]? =some O):Calls Tryd.prog 14 #[] w fun e w'=>e=.returned (.bool true)/\Below w.heap.size w w':=by
 have hY:FzOk (Qi3 O) w:=by
  obtain ⟨C,t,fr,rfl,hC⟩:=hO
  exact ⟨C,t,fr,hw,fun m j hm hj=>absurd hj (Nat.not_lt_zero j),fun o ho=>by cases ho;exact hw⟩
 exact Q8f (Y:=Qi3 O) ⟨rfl,rfl,rfl,rfl,rfl,rfl⟩ (fun σ he=>Q4l (r:=0) hO (by rw [he];rfl)) (hm:=mixed) (hh:=hooks) (h:=Qbkg) (w:=w) (hY:=hY)
theorem Qbjn {P:Program} {X:Ing} {fs:List Nat} {blk:Nat} {OK:Obj->Prop}
  (h: ∀f,f∈fs-> ∀(w:World) (O:Obj),OK O->w.heap[blk]? =some O->Calls P f #[] w fun e w'=>e=.returned (.bool true)/\Below w.heap.size w w')
  (hinv: ∀σ,X.inv σ->Qdv blk OK σ) (F:List Fact) (look:SDef->Option AVal) (f:FuncId) (args:List AVal) (hp:Hp) (v:AVal) (hp':Hp) (hm:Qrp fs look f args hp=some (v,hp')):CallP P (cxOf X F) f args hp (.val v) hp':=by
 unfold Qrp at hm
 split at hm
 ·split at hm
  ·rename_i hf
   cases hm
   obtain ⟨f',hf1,hf2⟩:=List.any_eq_true.1 hf
   have:=Nat.eq_of_beq_eq_true hf2
   subst this
   refine ⟨Touch.refl _,fun g w args' hH hl=> ?_⟩
   obtain ⟨l⟩:=args'
   cases hl
   obtain ⟨O,hO1,hO2⟩:=Q4m hH (hinv _ hH.sig.ok.2.inv)
   refine (h f hf1 w O hO1 hO2).mono ?_
   rintro e w' ⟨rfl,hB⟩
   obtain ⟨g1,g2⟩:=hH.below hB
   exact ⟨g,⟨_,rfl,.bool _⟩,g1,g2⟩
  ·cases hm
 ·cases hm
def Ql1:List SDef:=[.conv .u32 (.symi .u16 2),
 .bin .mul (.symi .u32 7) (.int .u32 70000),
 .sop (.fs 640) [.syms 6,.symi .i64 1],
 .fn 641 .i64 [.syms 6,.symi .i64 1],
 .conv .i64 (.symi .u16 2),
 .bin .mul (.symi .i64 11) (.int .i64 100),
 .fn 642 .u64 [.syms 6,.symi .i64 1,.symi .u16 2,.symi .u16 3],
 .fn 643 .u64 [.syms 6,.symi .i64 1,.symi .u16 2,.symi .u16 3],
 .conv .i64 (.symi .u8 4),
 .bin .rem (.symi .i64 15) (.int .i64 7)]
def Quk:LT:=Go.Wbp.fT 7 Ql1 (.n (.n (.n .e 42275337 12 .e) 206000950 11 (.n (.n .e 206000950 7 .e) 412001568 15 (.n .e 441623308 16 .e))) 552241082 10 (.n (.n (.n .e 811161403 9 .e) 988236971 8 .e) 1029591830 13 (.n .e 1029591873 14 .e)))
def Qbdf:Sw:=.run (.leaf .normal Qpy [(0,0),(1,0),(3,0)] [(0,.syms 0),(2,.symi .u16 2),(3,.symi .u16 3),(4,.symi .u8 4),(5,.symi .u8 5),(1,.syms 9),(6,.symi .i64 10),(7,.symi .u32 8),(6,.symi .i64 10),(8,.symi .i64 12),(9,.symi .u64 13),(10,.symi .u64 14),(11,.symi .i64 16)] [])
def Q17:KdT:=.n (.n (.n (.n (.n .e (some .i64) .e) (some .u32) .e) (some .u16) (.n .e (some .i64) .e)) (some .i64) (.n (.n .e none .e) (some .u8) (.n .e (some .u64) .e))) none (.n (.n (.n (.n .e (some .i64) .e) (some .u32) .e) (some .u8) (.n .e (some .i64) .e)) (some .u16) (.n (.n .e (some .i64) .e) none (.n .e (some .u64) .e)))
noncomputable def Q18:Ing:={m:=7,ins:=lgK5,G:=Ql1,T:=Quk,tab:=Qa,rows:=[⟨.symi .i64 1,[]⟩],lsts:=Qt,kb:=17,kt:=Q17}
noncomputable def Qfx (E:Nat->Option Fz) (Y:Fz):Ing:={m:=7,ins:=lgK5,G:=Ql1,T:=Quk,tab:=Qa,rows:=[⟨.symi .i64 1,[]⟩],lsts:=Qt,kb:=17,kt:=Q17,mh:=orMh (Qrp [14]) (Qm8 (kdX Q18) [.symi .i64 1,.syms 6] [sf8r]),inv:=fun σ=>Qdv 0 Qdf σ/\Inv8 E Y σ}
theorem Q19:okLT 7 Ql1 Quk=true:=by kernel_rfl
theorem Qbdh:okG Ql1 7=true:=by kernel_rfl
theorem Qbdg {E:Nat->Option Fz} {W:World} {v:Value} {Y:Fz} (hY:RowV W lg.d4 v Y) (hE0: ∀Z,E 0=some Z->Z=Y) (F:List Fact):Hooks Tryd.prog (cxOf (Qfx E Y) F) where
 val:=fun f args v h=>by simp only [Qfx,cxOf,Qc8,reduceCtorEq] at h
 mem:=fun f args hp v hp' h=>by
  replace h:(orMh (Qrp [14]) (Qm8 (kdX Q18) [.symi .i64 1,.syms 6] [sf8r])) (symS (Qq (Qfx E Y) F)) f args hp=some (v,hp'):=h
  unfold orMh at h
  split at h
  ·rename_i r hr
   cases h
   exact Qbjn (X:=Qfx E Y) (fs:=[14]) (fun f hf w O h1 h2=>by
    obtain rfl:=List.mem_singleton.1 hf
    exact Qbkf w O h1 h2) (fun _ h=>h.1) F _ f args hp v hp' hr
  ·exact Q3k (X:=Qfx E Y) (tbl:=[sf8r]) (ys:=[.symi .i64 1,.syms 6]) (inv:=Inv8 E Y) (fun e he=>by
    obtain rfl:=List.mem_singleton.1 he
    exact c8r hY hE0) Q19 rfl (fun e he σ τ hx hxs hv=>by
    obtain rfl:=List.mem_singleton.1 he
    have h:[AVal.int .i64 (τ.ival 1),.str (τ.sval 6)]=[AVal.int .i64 (σ.ival 1),.str (σ.sval 6)]:=hxs
    simp only [List.cons.injEq,AVal.int.injEq,AVal.str.injEq,true_and,and_true] at h
    obtain ⟨h1,h2,h3,S,s1,s2⟩:=hv.2
    exact ⟨by rw [hx];exact h1,by rw [h.1];exact h2,⟨h3,S,by rw [<-s1];show AVal.str _=AVal.str _;rw [h.2],s2⟩⟩) F f args hp v hp' h
 ovl:=fun f k h=>by simp only [Qfx,cxOf,reduceCtorEq] at h
 atm:=fun k b h=>by simp only [Qfx,cxOf,List.not_mem_nil] at h
theorem Qbdi {E:Nat->Option Fz} {W:World} {v:Value} {Y:Fz} (hY:RowV W lg.d4 v Y) (hE0: ∀Z,E 0=some Z->Z=Y):SegOkI Tryd.prog Qa 132 ((Qe (Qc Tryd.f5)).take 4) lgS5 (Qfx E Y) Qbdf where
 lt:=Q19
 ok:=Qbdh
 hook:=Qbdg hY hE0
 n0:=rfl
 id:=by kernel_rfl
 reck:=by kernel_rfl
 tab:=rfl
 cuts:=rfl
 kt:=by kernel_rfl
def conD (X:Fz):Nat->ByteArray
 |0=> .empty
 |n+1=>conD X n++⟨(rowB cl4d [X.val n 0,X.val n 1,X.val n 2,X.val n 3]).toArray⟩
theorem elD {W:World} {v:Value} {X:Fz} (hX:RowV W lg.d4 v X) {m:Nat} (hm:m<X.len): ∃a b c d:Int,X.val m 0=.int .u16 a/\X.val m 1=.int .u16 b/\X.val m 2=.int .u8 c/\X.val m 3=.int .u8 d/\IntKind.u16.wrap a=a/\IntKind.u16.wrap b=b/\IntKind.u8.wrap c=c/\IntKind.u8.wrap d=d:=by
 obtain ⟨a,a1,a2⟩:=Qix (hX.els m hm) (j:=0) (z:=.i .u16) rfl
 obtain ⟨b,b1,b2⟩:=Qix (hX.els m hm) (j:=1) (z:=.i .u16) rfl
 obtain ⟨c,c1,c2⟩:=Qix (hX.els m hm) (j:=2) (z:=.i .u8) rfl
 obtain ⟨d,d1,d2⟩:=Qix (hX.els m hm) (j:=3) (z:=.i .u8) rfl
 exact ⟨a,b,c,d,a2,b2,c2,d2,a1,b1,c1,d1⟩
theorem Q5i {a b c d:Int} (h1:IntKind.u16.wrap a=a) (h2:IntKind.u16.wrap b=b) (h3:IntKind.u8.wrap c=c) (h4:IntKind.u8.wrap d=d):okCs (cx0 (fun _ _=>0)) cl4d [.int .u16 a,.int .u16 b,.int .u8 c,.int .u8 d]=true:=by
 simp [okCs,okC,cl4d,h1,h2,h3,h4]
theorem Qbhd {W:World} {v:Value} {X:Fz} (hX:RowV W lg.d4 v X) {m:Nat} (hm:m<X.len):(rowB cl4d [X.val m 0,X.val m 1,X.val m 2,X.val m 3]).length=rsz cl4d:=by
 obtain ⟨a,b,c,d,e1,e2,e3,e4,h1,h2,h3,h4⟩:=elD hX hm
 rw [e1,e2,e3,e4]
 exact Qmy (σ:=⟨fun _=>0,fun _=>false,fun _=> .empty,fun _ _=>0,fun _=>none⟩) (Q5i h1 h2 h3 h4)
theorem Qsk {W:World} {v:Value} {X:Fz} (hX:RowV W lg.d4 v X): ∀n,n<=X.len->(conD X n).data.toList.length=n*rsz cl4d
 |0,_=>by rw [Nat.zero_mul];rfl
 |n+1,h=>by
  have e:(conD X (n+1)).data.toList=(conD X n).data.toList++rowB cl4d [X.val n 0,X.val n 1,X.val n 2,X.val n 3]:=by simp [conD,ByteArray.data_append]
  rw [e,List.length_append,Qsk hX n (by omega),Qbhd hX (by omega),Nat.succ_mul]
theorem Qyi {W:World} {v:Value} {X:Fz} (hX:RowV W lg.d4 v X): ∀n,n<=X.len-> ∀m j,m<n->j<4->X.val m j=Qo cl4d (conD X n) m j
 |0,_,m,j,hm,_=>absurd hm (Nat.not_lt_zero m)
 |n+1,h,m,j,hm,hj=>by
  rw [conD,Qh7 (N:=n) (Qsk hX n (by omega))]
  by_cases e:m<n
  ·rw [if_pos e];exact Qyi hX n (by omega) m j e hj
  ·have:m=n:=by omega
   subst this
   rw [if_neg e,Nat.sub_self]
   obtain ⟨a,b,c,d,e1,e2,e3,e4,h1,h2,h3,h4⟩:=elD hX (show m<X.len by omega)
   have key:=Qkr (ng:=cx0 (fun _ _=>0)) (σ:=⟨fun _=>0,fun _=>false,fun _=> .empty,fun _ _=>0,fun _=>none⟩) (Qgk rfl) [] (Q5i h1 h2 h3 h4)
   rw [List.append_nil] at key
   unfold Qo
   rw [Nat.zero_mul,List.drop_zero,e1,e2,e3,e4]
   match j,hj with
   |0,_=>rw [e1];exact (key 0 _ rfl).symm
   |1,_=>rw [e2];exact (key 1 _ rfl).symm
   |2,_=>rw [e3];exact (key 2 _ rfl).symm
   |3,_=>rw [e4];exact (key 3 _ rfl).symm
theorem Q8h {W:World} {v:Value} {X:Fz} (hX:RowV W lg.d4 v X) {σ:Sig} {i:Nat} (h:σ.sval i=conD X X.len):StrX σ (.syms i) cl4d X:=
 ⟨hX.z.symm,conD X X.len,congrArg AVal.str h,Qsk hX _ (Nat.le_refl _),fun m j hm hj=>Qyi hX _ (Nat.le_refl _) m j hm (by rw [hX.z] at hj;exact hj)⟩
def EE (X:Fz) (O:Obj):Nat->Option Fz:=fun i=>if i=0 then some X else if i=1 then some (Qi3 O) else none
theorem EE0 {X:Fz} {O:Obj}: ∀Z,EE X O 0=some Z->Z=X:=fun Z h=>(Option.some.inj (show some X=some Z from h)).symm
theorem Q69 {X:Fz} {O:Obj} {i:Nat} (h:1000<=i):EE X O i=none:=by
 unfold EE
 rw [if_neg (by omega),if_neg (by omega)]
theorem Qxi {X:Fz} {O:Obj} (hO:Qdf O) {σ:Sig} (h:σ.ext=EE X O):Qdv 0 Qdf σ:=Q4l (r:=1) hO (by rw [h];rfl)
structure J0 (E:Nat->Option Fz) (X:Fz) (C:ByteArray) (σ:Sig):Prop where
 ext:σ.ext=E
 len:σ.ival 1=X.len
 s:σ.sval 6=C
 z:(σ.sval 0).size<=9223372036854775807
theorem J0.agree {E:Nat->Option Fz} {X:Fz} {C:ByteArray} {σ τ:Sig} (ag:Agree 7 σ τ) (h:J0 E X C σ):J0 E X C τ:=
 ⟨by rw [<-ag.ext];exact h.ext,by rw [<-(ag.val 1 (by decide)).1];exact h.len,by rw [<-(ag.val 6 (by decide)).2.2];exact h.s,by rw [<-(ag.val 0 (by decide)).2.2];exact h.z⟩
theorem stA {W W1:World} {v:Value} {X:Fz} {O:Obj} (hX:RowV W1 lg.d4 v X) (hO:Qdf O):Qf Tryd.prog Qa 132 W (WZ W) (Qe (Qc Tryd.f5)) lgS5 7 lgK5 (J0 (EE X O) X (conD X X.len)):=by
 rw [show Qe (Qc Tryd.f5)=(Qe (Qc Tryd.f5)).take 4++(Qe (Qc Tryd.f5)).drop 4 from rfl]
 refine Qf.segI (q2:=12) (ins2:=Qpt) (S2:=Qpy) (J2:=fun σ=> ∃L,J5a (EE X O) L σ) mixed (Qbdi hX EE0) ⟨rfl,rfl⟩ (fun σ τ ag h=>h.agree ag) (fun τ h=>Q5j (k:=1) h.ext EE0 h.len) (fun τ h=>⟨Qxi hO h.ext,⟨h.ext,h.len,Q8h hX h.s⟩⟩) (stB (fun σ h=>Qxi hO h)) (fun τ e ht hi hj=> ?_)
 refine Q6 ?_
 have i7:τ.ival 7=IntKind.u32.wrap (τ.ival 2):=eqI (e.at 0 _ rfl rfl) rfl
 have i8:τ.ival 8=IntKind.u32.wrap (τ.ival 7*70000):=eqI (e.at 1 _ rfl rfl) rfl
 have s9:τ.sval 9=decS (τ.tab 640 [encB (τ.sval 6),τ.ival 1]):=eqFs (e.at 2 _ rfl rfl)
 have i10:τ.ival 10=IntKind.i64.wrap (τ.tab 641 [encB (τ.sval 6),τ.ival 1]):=eqFn (e.at 3 _ rfl rfl)
 have i11:τ.ival 11=IntKind.i64.wrap (τ.ival 2):=eqI (e.at 4 _ rfl rfl) rfl
 have i12:τ.ival 12=IntKind.i64.wrap (τ.ival 11*100):=eqI (e.at 5 _ rfl rfl) rfl
 have i13:τ.ival 13=IntKind.u64.wrap (τ.tab 642 [encB (τ.sval 6),τ.ival 1,τ.ival 2,τ.ival 3]):=eqFn (e.at 6 _ rfl rfl)
 have i14:τ.ival 14=IntKind.u64.wrap (τ.tab 643 [encB (τ.sval 6),τ.ival 1,τ.ival 2,τ.ival 3]):=eqFn (e.at 7 _ rfl rfl)
 have i15:τ.ival 15=IntKind.i64.wrap (τ.ival 4):=eqI (e.at 8 _ rfl rfl) rfl
 have i16:τ.ival 16=(τ.ival 15).tmod (7):=eqI (e.at 9 _ rfl rfl) rfl
 have w2:=hi 2 .u16 (by decide) rfl
 have w3:=hi 3 .u16 (by decide) rfl
 have w4:=hi 4 .u8 (by decide) rfl
 rw [Qrs] at w2 w3
 rw [wr_u8] at w4
 obtain ⟨t0,t1,t2,t3⟩:=Q23 (conD X X.len) X.len (τ.ival 2) (τ.ival 3)
 rw [ht,hj.s,hj.len,t0] at s9
 rw [ht,hj.s,hj.len,t1,Qh] at i10
 rw [ht,hj.s,hj.len,t2,Qj] at i13
 rw [ht,hj.s,hj.len,t3,Qj] at i14
 rw [Qh] at i11 i12 i15
 rw [Qem] at i8
 rw [Qro _ (by omega)] at i16
 have hdl:=Qss (conD X X.len) (min X.len 60)
 obtain ⟨o1,o2,o3,o4,o5,_,_⟩:=Qhi (conD X X.len) (min X.len 60)
 have e12:(draG 0 (conD X X.len) X.len (τ.ival 2) (τ.ival 3) 0).ret=(Qg noE (draL (conD X X.len) (min X.len 60))).r+τ.ival 2:=rfl
 have e13:(draG 0 (conD X X.len) X.len (τ.ival 2) (τ.ival 3) 0).br=min ((Qg noE (draL (conD X X.len) (min X.len 60))).r+τ.ival 2) ((Qg noE (draL (conD X X.len) (min X.len 60))).b+τ.ival 3):=rfl
 rw [e12] at i13
 rw [e13] at i14
 refine .inl ⟨rfl,rfl,Qbi (X:=Qfx (EE X O) X) e hi (by kernel_rfl) (by kernel_rfl),⟨draG (τ.ival 8) (conD X X.len) X.len (τ.ival 2) (τ.ival 3) (τ.ival 4),hj.z,s9,?_,rfl,?_,?_,?_,?_,?_,extS hj.ext⟩,tabS ht⟩
 ·show τ.ival 10=((draL (conD X X.len) (min X.len 60)).length:Int)
  omega
 ·show τ.ival 12=τ.ival 2*100
  omega
 ·show τ.ival 13=(Qg noE (draL (conD X X.len) (min X.len 60))).r+τ.ival 2
  omega
 ·show τ.ival 14=min ((Qg noE (draL (conD X X.len) (min X.len 60))).r+τ.ival 2) ((Qg noE (draL (conD X X.len) (min X.len 60))).b+τ.ival 3)
  omega
 ·show τ.ival 16=τ.ival 4%7
  omega
 ·refine ⟨Q8y (by omega) (by omega) (by omega),Qyt _ _ (by omega),?_,?_⟩
  ·show (draL (conD X X.len) (min X.len 60)).length<=60
   omega
  ·show 0<=τ.ival 8/\τ.ival 8<4294967296
   omega
theorem walk (W:World) (hL:laidMetH Tryd.prog laid W) (v0:Value) (X:Fz) (hX:RowV W lg.d4 v0 X) (l1:List Int) (i1:InR lg.d4 l1) (s2:ByteArray) (z2:s2.size<=9223372036854775807):
  Calls Tryd.prog 5 #[v0,.agg (Qn lg.d4 l1).toArray,.string s2] W fun e W'=>e=.returned (.bool true)/\Below W.heap.size W W':=by
 obtain ⟨O,hO,hYO⟩:=Q9r (Qbab hL)
 obtain ⟨a0,a1,a2,a3,rfl,w0,w1,w2,w3⟩: ∃a0 a1 a2 a3:Int,l1=[a0,a1,a2,a3]/\IntKind.u16.wrap a0=a0/\IntKind.u16.wrap a1=a1/\IntKind.u8.wrap a2=a2/\IntKind.u8.wrap a3=a3:=by
  match l1,i1 with
  |[a,b,c,d],⟨h1,h2,h3,h4,_⟩=>exact ⟨a,b,c,d,rfl,h1,h2,h3,h4⟩
 let σ0:Sig:=⟨fun i=>if i=1 then (X.len:Int) else if i=2 then a0 else if i=3 then a1 else if i=4 then a2 else a3,fun _=>false,fun i=>if i=0 then s2 else conD X X.len,Qa,EE X O⟩
 have hl:=hX.len
 refine Q8a (σ0:=σ0) (tab:=Qa) (n:=132) (q:=7) (ins:=lgK5) (args:=[.row 0,.agg lgD,.syms 0]) (J:=J0 (EE X O) X (conD X X.len)) Tryd.func5 rfl rfl rfl (.cons _ _ _ _ (hX.rel _ 0 rfl) (.cons _ _ _ _ ?_ (.cons _ _ _ _ (.syms 0) .nil))) (by simp) ?_ ?_ ⟨rfl,rfl,rfl,z2⟩ (stA hX hO) (fun i Y h0 h=>by rw [show σ0.ext i=none from Q69 h0] at h;cases h)
 ·have h0:Qn lg.d4 [a0,a1,a2,a3]=[.int .u16 a0,.int .u16 a1,.int .u8 a2,.int .u8 a3]:=by simp [Qn,encC,lg.d4,w0,w1,w2,w3]
  rw [h0]
  exact .agg _ _ (.cons _ _ _ _ (.symi .u16 2) (.cons _ _ _ _ (.symi .u16 3) (.cons _ _ _ _ (.symi .u8 4) (.cons _ _ _ _ (.symi .u8 5) .nil))))
 ·intro i Y h hlen
  have h:EE X O i=some Y:=h
  unfold EE at h
  split at h
  ·cases h;exact hX.ok hlen
  ·split at h
   ·cases h;exact hYO
   ·cases h
 ·intro i k hi hk
  have:i=0\/i=1\/i=2\/i=3\/i=4\/i=5\/i=6:=by omega
  rcases this with rfl|rfl|rfl|rfl|rfl|rfl|rfl
  ·cases hk
  ·have hk:IntKind.i64=k:=Option.some.inj hk
   subst hk
   show IntKind.i64.wrap (X.len:Int)=X.len
   rw [Qh];omega
  ·have hk:IntKind.u16=k:=Option.some.inj hk
   subst hk
   exact w0
  ·have hk:IntKind.u16=k:=Option.some.inj hk
   subst hk
   exact w1
  ·have hk:IntKind.u8=k:=Option.some.inj hk
   subst hk
   exact w2
  ·have hk:IntKind.u8=k:=Option.some.inj hk
   subst hk
   exact w3
  ·cases hk
section
variable {H : Type} {enc : TypeId × Value -> H} {P : Program}
theorem Qbgr {f:Func} {s:ChangeSpec} {apart fresh handsOn again:Bool} {W W':World} {args:Array Value} {v:Value} {ds gs:List (DataW H)} {before pa pv:List MemPlace}
  (hW:DataW.Whole enc P f.params.toList s.vars apart W args.toList ds gs before)
  (hres: ∀(b:Nat) (sp:Nat->Bool) (hd:Bool),DataW.TrodAll enc P W' b sp hd f.resultTypes.toList (v.resultList f.resultTypes.size) (s.fn H (ds++gs)).results [])
  (hargs: ∀sp:Nat->Bool,(∀p∈before,sp p.block=true)->DataW.TrodAll enc P W' 0 sp true f.params.toList args.toList (s.fn H (ds++gs)).args pa)
  (hvars: ∀sp:Nat->Bool,(∀p∈before,sp p.block=true)->DataW.TrodVars enc P W' sp s.vars (s.fn H (ds++gs)).vars pv)
  (hps:before=pa++pv) (hb:Below W.heap.size W W')
  (hok: ∀(j:Nat) (t:TypeId) (r:Value),f.resultTypes[j]? =some t->(v.resultList f.resultTypes.size)[j]? =some r->Value.okWide P W' .any 0 t r):
  s.post enc P f apart fresh handsOn again W args v W':=by
 have hlt: ∀p∈before,p.block<W.heap.size:=fun p hp=>hW.lt p hp
 have hold: ∀p∈before,(fun b=>decide (b<W.heap.size)) p.block=true:=fun p hp=>by simpa using hlt p hp
 refine ⟨ds,gs,before,[],pa,pv,hW,hres _ _ _,hargs _ hold,hvars _ hold,World.keptBut_mono (fun p hp=>⟨hp,?_⟩) (hb.frame (· ∈before)),fun _=> ?_⟩
 ·rw [hps,List.mem_append] at hp
  exact Or.inr hp
 ·obtain ⟨_,_,_,_,_,hz,hn⟩:=hW
  refine ⟨hok,_,_,([]++pa)++pv,⟨[]++pa,pv,trodAll_append (hargs _ (fun _ _=>rfl)) (hres _ _ _),hvars _ (fun _ _=>rfl),rfl,?_,?_⟩,?_⟩
  ·intro b off hp
   have hin:MemPlace.cell b off∈before:=by rw [hps];simpa using hp
   rw [hb.frozen (hlt _ hin)]
   exact hz b off hin
  ·intro ha
   have:=hn ha
   rw [hps] at this
   simpa using this
  ·intro p hp _
   rw [hps]
   simpa using hp
end
theorem Qbi3:Nat.beq (Tryd.prog.cellsOf 33) lg.d4.length=true:=by kernel_rfl
theorem Qtf:flat Tryd.prog 4 33=some lg.d4:=by kernel_rfl
theorem Q7d:Ev.isAgg Tryd.prog 33=true:=by kernel_rfl
theorem lifted (os:Os) (started:os.Started) (H:Type) (enc:TypeId×Value->H):
  ReturnsInHanded {} Tryd.checked os 5 .any (fun w args=>(Rows.logBackSpec.pre enc Tryd.prog Tryd.f5 [] false w args/\laidMetH Tryd.prog laid w)/\sizedMet enc Tryd.prog Tryd.f5 (OpenSpec.ofChange Rows.logBackSpec) false w args) (Rows.logBackSpec.post enc Tryd.prog Tryd.f5 false true false false):=by
 refine returnsInHanded_of_change_and (C:=Tryd.checked) (X:=fun w _=>laidMetH Tryd.prog laid w) (fun _ _ _ hh h=>h.of_heap hh) own started (by kernel_rfl) Tryd.func5
  (ChangeSpec.witness_at (enc:=enc) (C:=Tryd.checked) (os:=os) (X:=fun w _=>laidMetH Tryd.prog laid w) false (Q0z os) #[.slice none 0 0,.agg #[.int .u16 0,.int .u16 0,.int .u8 0,.int .u8 0],.string .empty] 8 rfl (by kernel_rfl) (by kernel_rfl) (by kernel_rfl) (by kernel_rfl) (by kernel_rfl) (Qbaz os _)) ?_
 intro W base args ds gs before hval0 hW _ _ hL _
 have hval: ∀(j:Nat) t v,Tryd.f5.params[j]? =some t->args[j]? =some v->Value.okWide Tryd.prog W .any base t v:=hval0
 have hW':=hW
 obtain ⟨p,q,hA0,hV,rfl,hfz,hnd⟩:=hW
 have hA:DataW.TrodAll enc Tryd.prog W 0 (fun _=>true) true Tryd.f5.params.toList args.toList ds p:=hA0
 rw [Tryd.params5] at hA hval
 obtain ⟨v0,vs0,d0,ds0,p0,q0,hargs,rfl,rfl,h0,r0⟩:=trodAll_cons hA
 obtain ⟨v1,vs1,d1,ds1,p1,q1,rfl,rfl,rfl,h1,r1⟩:=trodAll_cons r0
 obtain ⟨v2,vs2,d2,ds2,p2,q2,rfl,rfl,rfl,h2,r2⟩:=trodAll_cons r1
 obtain ⟨rfl,rfl,rfl⟩:=trodAll_nil r2
 obtain rfl:args= #[v0,v1,v2]:=by cases args;simp_all
 obtain ⟨rfl,rfl⟩:=trodVars_none hV
 obtain ⟨X0,R0⟩:=Qbgc (cl:=lg.d4) Tryd.underlying27 Qtf Qbi3 rfl (hval 0 27 v0 rfl rfl) h0
 obtain ⟨l1,i1,rfl,rfl⟩:=Qbgb Qtf Q7d (hval 1 33 v1 rfl rfl) h1
 obtain ⟨s2,rfl,rfl,rfl,z2⟩:=Go.ChangeMaps.open_string Tryd.underlying9 (hval 2 9 v2 rfl rfl) h2
 clear hA0 hval0
 simp only [List.append_nil] at hW'
 refine (walk W hL v0 X0 R0.row l1 i1 s2 z2).mono fun e W' ⟨he,hg⟩=> ?_
 subst he
 exact ⟨_,rfl,Qbgr (pa:=p0++([]++([]++([])))) (pv:=[]) hW' (fun _ _ _=>(trodAll_cons_mk (shut_bool Tryd.underlying4 _) trodAll_mk0)) (fun sp hsp=>(trodAll_cons_mk (R0.again W' hg sp (fun z hz=>hsp z (by simp [hz]))) (trodAll_cons_mk (Qbi2 Qtf h1) (trodAll_cons_mk (Go.ChangeMaps.shut_string Tryd.underlying9 z2) trodAll_mk0)))) (fun _ _=>rfl) (by simp)
  hg (ok_one (by kernel_rfl) rfl (okWide_bool_mk Tryd.underlying4 _))⟩
theorem over:Rows.logBackRow.holds Tryd.pinned (OpenSpec.ofChange Rows.logBackSpec):=
 OpenClaim.holds_of_wide 5 Tryd.f5 rfl rfl rfl rfl rfl rfl rfl ⟨rfl,rfl,rfl,rfl,rfl⟩ rfl rfl rfl rfl rfl (by kernel_rfl) Tryd.func5 (by kernel_rfl)
  (of_decide_eq_true (by kernel_rfl)) (by unfold Func.isWrapper;first|(rw [if_pos (by decide+kernel)];kernel_rfl)|(rw [if_neg (by decide+kernel)];exact ⟨rfl,rfl⟩))
  (fun os started H enc _=>lifted os started H enc)
theorem proved:Rows.LogBackCardSaid:=
 Claim7.holds_tied_plain_at .later [] [.handle] true (true, "f7320017d8dbac5bf9390de536c7a94b842b6469bd8c9c4a50570fa0399e2027") true
  over (fun _ h=>by cases h) (by kernel_rfl) (fun _ h=>by cases h) logBack_row_tie rfl ⟨rfl,rfl⟩ (by kernel_rfl) rfl
  (fun f fn hf hfn=>by
   obtain rfl:f=5:=Option.some.inj ((show Tryd.prog.funcNamed "plover/ploverlaw26.LogBack" =some 5 by kernel_rfl).symm.trans hf)|>.symm
   obtain rfl:fn=Tryd.f5:=(Option.some.inj (Tryd.func5.symm.trans hfn)).symm
   exact ⟨by kernel_rfl,fun j t ht=>by
    rw [Tryd.params5] at ht
    rcases j with _|_|_|j
    ·obtain rfl:t=27:=by simpa using ht.symm
     exact (show Tryd.prog.wantsStandIn 27=false by kernel_rfl)
    ·obtain rfl:t=33:=by simpa using ht.symm
     exact (show Tryd.prog.wantsStandIn 33=false by kernel_rfl)
    ·obtain rfl:t=9:=by simpa using ht.symm
     exact (show Tryd.prog.wantsStandIn 9=false by kernel_rfl)
    ·simp at ht⟩)
  (by kernel_rfl)
#print axioms proved
end Go.Proofs.YtelimhjceiamcaaDoor.logBack
