/-
 WireBack is true: things that are laid are read back; a row that is cut is read up to what was cut; numbers that are read are laid just so.
 No conditions.
-/
import Derived.Test.YtapfkgenachpgaaDoorRows
import Derived.Test.YtapfkgenachpgaaDoorCards
import Derived.Test.YtapfkgenachpgaaDoorTie
import Derived.SevenTiedAt
import Derived.WalkKit
import Derived.ProofKit
import Derived.OpenShut
import Derived.Below
import Derived.ChangeSame
import Derived.ChangeMaps5
import Derived.Lib.Strings
import Derived.Test.YtapfkgenachpgaaDoorWbs
set_option maxRecDepth 100000
namespace Go.Proofs.YtapfkgenachpgaaDoor.wireBack
open Go.ChangeShapes Go.WideShapes Go.ChangeAt Go.RowKit
open Go.Ev Go.Proofs.YtapfkgenachpgaaDoor.fa Go.Wbp Go.Proofs.YtapfkgenachpgaaDoor.wb
open Go.Proofs.YtapfkgenachpgaaDoor.wn (mixed)
set_option linter.unusedVariables false
set_option linter.unusedSimpArgs false
theorem own:ownKnob Tryd.prog.godebug=none:=by kernel_rfl
noncomputable def ing:Ing:={m:=0,G:=[],T:=.e,mh:=asMh Tryd.prog 45 74 76 46 40,inv:=OwnInv 0 isErr}
theorem hooks (F:List Fact):Hooks Tryd.prog (cxOf ing F):=
 ⟨fun f args v h=>by simp only [ing,cxOf,noHook,reduceCtorEq] at h,fun f args hp v hp' h=>as_mem (X:=ing) rfl rfl as_ok is_ok (fun _ h=>h) F f args hp v hp' h,fun f k h=>by simp only [ing,cxOf,reduceCtorEq] at h,fun k b h=>by simp only [ing,cxOf,List.not_mem_nil] at h⟩
theorem works_run:isTrue ((evD Tryd.prog (cxOf ing) true 1000 40).1 [] 8 [] ⟨[],[]⟩)=true:=by kernel_rfl
theorem works_own (w:World) (O:Obj) (hO:isErr O) (hw:w.heap[0]? =some O):Calls Tryd.prog 8 #[] w fun e w'=>e=.returned (.bool true)∧Below w.heap.size w w':=by
 have hY:FzOk (errRow O) w:=by
  obtain ⟨C,t,fr,rfl,hC⟩:=hO
  exact ⟨C,t,fr,hw,fun m j hm hj=>absurd hj (Nat.not_lt_zero j),fun o ho=>by cases ho;exact hw⟩
 exact closed_own (Y:=errRow O) ⟨rfl,rfl,rfl,rfl,rfl,rfl⟩ (fun σ he=>own_inv (r:=0) hO (by rw [he];rfl)) (hm:=mixed) (hh:=hooks) (h:=works_run) (w:=w) (hY:=hY)
theorem true_mem0 {P:Program} {X:Ing} {fs:List Nat} {blk:Nat} {OK:Obj→Prop}
  (h: ∀f,f∈fs→ ∀(w:World) (O:Obj),OK O→w.heap[blk]? =some O→Calls P f #[] w fun e w'=>e=.returned (.bool true)∧Below w.heap.size w w')
  (hinv: ∀σ,X.inv σ→OwnInv blk OK σ) (F:List Fact) (look:SDef→Option AVal) (f:FuncId) (args:List AVal) (hp:Hp) (v:AVal) (hp':Hp) (hm:trueMh fs look f args hp=some (v,hp')):CallP P (cxOf X F) f args hp (.val v) hp':=by
 unfold trueMh at hm
 split at hm
 ·split at hm
  ·rename_i hf
   cases hm
   obtain ⟨f',hf1,hf2⟩:=List.any_eq_true.1 hf
   have:=Nat.eq_of_beq_eq_true hf2
   subst this
   refine ⟨Touch.refl _,fun g w args' hH hl=> ?_⟩
   obtain ⟨l⟩:=args'
   cases hl
   obtain ⟨O,hO1,hO2⟩:=own_of hH (hinv _ hH.sig.ok.2.inv)
   refine (h f hf1 w O hO1 hO2).mono ?_
   rintro e w' ⟨rfl,hB⟩
   obtain ⟨g1,g2⟩:=hH.below hB
   exact ⟨g,⟨_,rfl,.bool _⟩,g1,g2⟩
  ·cases hm
 ·cases hm
theorem Stage.segC {P:Program} {tab:TabF} {n:Nat} {W0:Fra} {Z:Exit→Act→World→Prop} {c1 c2:List Code} {S S2:Shape} {q q2:Nat} {ins ins2:List (Option IntKind)} {J J2:Sig→Prop} {X:Ing} {Wt:Sw}
  (hm:P.follows .mixedOrders=true) (lt:okLT X.m X.G X.T=true) (ok:okG X.G X.m=true) (hook: ∀F,Hooks P (cxOf X F)) (n0:X.n=0) (id:idOk S X.m=true)
  (reck:okSw (fun F=>runL P (cxOf X) true X.fu (evD P (cxOf X) true X.fu 40).1 (evD P (cxOf X) true X.fu 40).2 c1 F (tmOf S n) ⟨S.heap,[]⟩) Wt []=true) (tb:X.tab=tab) (kt:okKt X=true)
  (aX:X.m=q∧X.ins=ins) (hJ: ∀σ τ,Agree q σ τ→J σ→J τ) (hr: ∀τ,Eqs τ q X.G→τ.tab=tab→J τ→RowsOk τ X.rows∧CutsOk τ X.cuts) (hinv: ∀τ,J τ→X.inv τ)
  (next:Stage P tab n W0 Z c2 S2 q2 ins2 J2)
  (o: ∀τ,Eqs τ q X.G→τ.tab=tab→InsOk τ q ins→J τ→segsW τ (fun x s σ2=>(x=.normal∧s=S2∧InsOk σ2 q2 ins2∧J2 σ2∧σ2.tab=tab)∨(x≠.normal∧EndZ tab n W0 Z x s σ2)) Wt []) (hp: ∀i,W0.pin i≠none→pinW i Wt=true:=by exact fun _ h=>absurd rfl h):
  Stage P tab n W0 Z (c1++c2) S q ins J:=by
 intro a w σ hA hi hj ht
 obtain ⟨rfl,rfl⟩:=aX
 subst tb
 have ag:=agree_solve X.G X.m σ
 have hi2:InsOk (solve X.G X.m σ) X.m X.ins:=by
  intro i k hi' hk
  rw [←(ag.val i hi').1];exact hi i k hi' hk
 have hj2:=hJ _ _ ag hj
 have ht2:(solve X.G X.m σ).tab=X.tab:=by rw [←ag.tab];exact ht
 have ob:=o _ (eqs_solve ok) ht2 hi2 hj2
 have hrc:=hr _ (eqs_solve ok) ht2 hj2
 rw [chainK_append]
 refine segL hm lt ok hook n0 id reck hA hi ob ?_ hrc.1 hrc.2 (hinv _ hj2) kt hp
 rintro e a' w' x s2 σ2 hx hq hA2
 rcases hq with ⟨rfl,rfl,gi,gj,gt⟩|⟨hne,hz⟩
 ·cases e<;>simp only [SExRel] at hx
  exact next a' w' σ2 hA2 gi gj gt
 ·have:=hz e a' w' hx hA2
  cases e with
  |normal=>cases x<;>simp only [SExRel] at hx;exact absurd rfl hne
  |_=>exact this
def wbAG:List SDef:=[.low [.symi .i64 1,.int .i64 30]]
def wbAT:LT:=.n (.e) 107604365 3 (.low [.symi .i64 1,.int .i64 30]) (.e)
def wbAW:Sw:=.run (.leaf .normal wbA1 [(0,0)] [(0,.symi .u16 0),(2,.syms 2)] [(1,.symi .i64 3)])
def wbAKd:KdT:=.n (.n (.n .e none .e) (some .i64) .e) (some .u16) (.n .e none .e)
noncomputable def wbAX:Ing:={m:=3,ins:=wbKA,G:=wbAG,T:=wbAT,tab:=wnTab,lsts:=wbLst,kb:=4,kt:=wbAKd,rows:=[⟨.symi .i64 3,[]⟩,⟨.symi .i64 1,[]⟩],cuts:=[(1,.symi .i64 3,0)],mh:=trueMh [8],inv:=OwnInv 0 isErr}
theorem wbA_lt:okLT 3 wbAG wbAT=true:=by kernel_rfl
theorem wbA_ok:okG wbAG 3=true:=by kernel_rfl
theorem wbA_hooks (F:List Fact):Hooks Tryd.prog (cxOf wbAX F) where
 val:=fun f args v h=>by simp only [wbAX,cxOf,noHook,reduceCtorEq] at h
 mem:=fun f args hp v hp' h=>by
  replace h:trueMh [8] (symS (baseOf wbAX F)) f args hp=some (v,hp'):=h
  exact true_mem0 (X:=wbAX) (fs:=[8]) (fun f hf w O h1 h2=>by
    obtain rfl:=List.mem_singleton.1 hf
    exact works_own w O h1 h2) (fun _ h=>h) F _ f args hp v hp' h
 ovl:=fun f k h=>by simp only [wbAX,cxOf,reduceCtorEq] at h
 atm:=fun k b h=>by simp only [wbAX,cxOf,List.not_mem_nil] at h
theorem wbA_reck:okSw (fun F=>runL Tryd.prog (cxOf wbAX) true wbAX.fu (evD Tryd.prog (cxOf wbAX) true wbAX.fu 40).1 (evD Tryd.prog (cxOf wbAX) true wbAX.fu 40).2 ((flatC (bodyOf Tryd.f6)).take 7) F (tmOf wbS0 165) ⟨wbS0.heap,[]⟩) wbAW []=true:=by kernel_rfl
def wbA2G:List SDef:=[]
def wbA2T:LT:=.e
def wbA2W:Sw:=.run (.leaf .normal wbS1 [(1000000,0),(0,0)] [(2,.symi .u16 0),(3,.syms 2),(4,.int .i64 0),(6,.int .i64 1),(0,.int .i64 0),(5,.str ⟨#[]⟩),(4,.int .i64 0),(7,.str ⟨#[0,0,0,0,0,0,0,0]⟩),(6,.int .i64 1)] [(1,.symi .i64 1)])
def wbA2Kd:KdT:=.n (.n .e (some .i64) .e) (some .u16) (.n .e none .e)
noncomputable def wbA2X:Ing:={m:=3,ins:=wbKA,G:=wbA2G,T:=wbA2T,tab:=wnTab,lsts:=wbLst,kb:=3,kt:=wbA2Kd,rows:=[⟨.symi .i64 1,[]⟩]}
theorem wbA2_lt:okLT 3 wbA2G wbA2T=true:=by kernel_rfl
theorem wbA2_ok:okG wbA2G 3=true:=by kernel_rfl
theorem wbA2_seg:SegOk Tryd.prog wnTab 165 ([]) wbA2 wbA2X wbA2W where
 lt:=wbA2_lt
 ok:=wbA2_ok
 hook:=fun F=>no_hooks rfl F
 n0:=rfl
 id:=by kernel_rfl
 reck:=by kernel_rfl
 tab:=rfl
 cuts:=rfl
 kt:=by kernel_rfl
def cutY (X:Fz):Fz:={X with len:=min X.len 30}
def EE (X:Fz) (O:Obj):Nat→Option Fz:=fun i=>if i=0 then some (cutY X) else if i=1 then some X else if i=2 then some (errRow O) else none
theorem EE_inv {X:Fz} {O:Obj} (hO:isErr O) {σ:Sig} (h:σ.ext=EE X O):OwnInv 0 isErr σ:=own_inv (r:=2) hO (by rw [h];rfl)
theorem EE_high {X:Fz} {O:Obj} {i:Nat} (h:1000≤i):EE X O i=none:=by
 unfold EE
 rw [if_neg (by omega),if_neg (by omega),if_neg (by omega)]
theorem cut_fz {W:World} {X:Fz} (h:0<X.len→FzOk X W) (h0:0<(cutY X).len):FzOk (cutY X) W:=by
 have hle:(cutY X).len≤X.len:=Nat.min_le_left _ _
 obtain ⟨C,e,fr,c1,c2,c3⟩:=h (by omega)
 exact ⟨C,e,fr,c1,fun m j hm hj=>c2 m j (by omega) hj,c3⟩
theorem yk {W:World} {v:Value} {X:Fz} (O:Obj) (hX:RowVS W clT v X):Yk (EE X O) (cutY X):=
 ⟨⟨hX.z,fun m hm=>hX.els m (Nat.lt_of_lt_of_le hm (Nat.min_le_left _ _))⟩,Nat.min_le_right _ _,fun Z hZ=>by
  have hZ:some (cutY X)=some Z:=hZ
  cases hZ;rfl⟩
theorem chain {W:World} {E:Nat→Option Fz} {Y:Fz} (hY:Yk E Y) (hO: ∀σ:Sig,σ.ext=E→OwnInv 0 isErr σ):
  Stage Tryd.prog wnTab 165 W (WZ W) ((flatC (bodyOf Tryd.f6)).drop 7) wbS1 8 wbK1 (fun σ=>RowE E Y σ∧ ∃i,J1 Y i σ):=by
 have hF:Stage Tryd.prog wnTab 165 W (WZ W) ((flatC (bodyOf Tryd.f6)).drop 17) wbS4 9 wbK4 (fun σ=>RowE E Y σ∧ ∃n i,J4 Y n i σ):=by
  rw [show (flatC (bodyOf Tryd.f6)).drop 17=.block 4 (.loop (loopAt 17 (bodyOf Tryd.f6)))::(flatC (bodyOf Tryd.f6)).drop 18 from rfl]
  exact Stage.rowLoopS hY.els rfl (by decide) (by kernel_rfl) (fun σ τ ag ⟨n,i,h⟩=>⟨n,i,h.agree ag⟩) (fun k=>stF hY (stG hY hO) k)
 have hD:Stage Tryd.prog wnTab 165 W (WZ W) ((flatC (bodyOf Tryd.f6)).drop 10) wbS3 9 wbK3 (fun σ=>RowE E Y σ∧ ∃i,J3 Y i σ):=by
  rw [show (flatC (bodyOf Tryd.f6)).drop 10=.block 2 (.loop (loopAt 10 (bodyOf Tryd.f6)))::(flatC (bodyOf Tryd.f6)).drop 11 from rfl]
  exact Stage.rowLoopS hY.els rfl (by decide) (by kernel_rfl) (fun σ τ ag ⟨i,h⟩=>⟨i,h.agree ag⟩) (fun k=>stD hY (stE hY hF) k)
 rw [show (flatC (bodyOf Tryd.f6)).drop 7=.block 0 (.loop (loopAt 7 (bodyOf Tryd.f6)))::(flatC (bodyOf Tryd.f6)).drop 8 from rfl]
 exact Stage.rowLoopS hY.els rfl (by decide) (by kernel_rfl) (fun σ τ ag ⟨i,h⟩=>⟨i,h.agree ag⟩) (fun k=>stB hY (stC hY hD) k)
structure J0 (E:Nat→Option Fz) (Y:Fz) (σ:Sig):Prop where
 ext:σ.ext=E
 len:σ.ival 1=Y.len
 s:(σ.sval 2).size≤9223372036854775807
theorem J0.agree {E:Nat→Option Fz} {Y:Fz} {σ τ:Sig} (ag:Agree 3 σ τ) (h:J0 E Y σ):J0 E Y τ:=
 ⟨by rw [←ag.ext];exact h.ext,by rw [←(ag.val 1 (by decide)).1];exact h.len,by rw [←(ag.val 2 (by decide)).2.2];exact h.s⟩
theorem stA2 {W:World} {E:Nat→Option Fz} {Y:Fz} (hY:Yk E Y) (hO: ∀σ:Sig,σ.ext=E→OwnInv 0 isErr σ):Stage Tryd.prog wnTab 165 W (WZ W) ((flatC (bodyOf Tryd.f6)).drop 7) wbA2 3 wbKA (J0 E Y):=by
 rw [show (flatC (bodyOf Tryd.f6)).drop 7=[]++(flatC (bodyOf Tryd.f6)).drop 7 from rfl]
 refine Stage.seg (q2:=8) (ins2:=wbK1) (S2:=wbS1) (J2:=fun σ=>RowE E Y σ∧ ∃i,J1 Y i σ) mixed wbA2_seg ⟨rfl,rfl⟩ (fun σ τ ag h=>h.agree ag) (fun τ h=> ?_) (chain hY hO) (fun τ e ht hi hj=> ?_)
 ·intro i r Z hr hZ
  have hr0:i=0:=by
   cases i with
   |zero=>rfl
   |succ i=>simp [wbA2X] at hr
  subst hr0
  rw [h.ext] at hZ
  have:=hY.ext Z hZ
  subst this
  simp only [wbA2X,List.getElem?_cons_zero,Option.some.injEq] at hr
  subst hr
  exact ⟨by show AVal.int .i64 _=_;rw [h.len],fun p hp=>by cases hp⟩
 ·refine segsPw_segs ?_
  exact .inl ⟨rfl,rfl,insOk_kt (X:=wbA2X) e hi (by kernel_rfl) (by kernel_rfl),⟨⟨extS hj.ext,hj.len,Int.le_refl 0,Int.natCast_nonneg _⟩,0,rfl,rfl,rfl,rfl,rfl,hj.s⟩,tabS ht⟩
theorem stA1 {W:World} {E:Nat→Option Fz} {Y:Fz} (hY:Yk E Y) (hO: ∀σ:Sig,σ.ext=E→OwnInv 0 isErr σ) (hh: ∀i,1000≤i→E i=none):Stage Tryd.prog wnTab 165 W (WZ W) ((flatC (bodyOf Tryd.f6)).drop 7) wbA1 3 wbKA (J0 E Y):=by
 intro a w σ hA hi hj ht
 refine stA2 hY hO a w σ (At.relist (fun i h0=>by rw [hj.ext];exact hh i h0) hA fun p hp=> ?_) hi hj ht
 simp only [List.mem_cons,List.not_mem_nil,or_false] at hp
 rcases hp with rfl|rfl|rfl|rfl|rfl|rfl
 ·exact .inl (by simp)
 ·exact .inl (by simp)
 ·exact .inl (by simp)
 ·exact .inl (by simp)
 ·exact .inr ⟨8,by simp,rfl⟩
 ·exact .inl (by simp)
theorem walk (W:World) (hL:laidMetH Tryd.prog laid W) (v0:Value) (X:Fz) (hX:RowVS W clT v0 X) (n1:Int) (i1:InR [.i .u16] [n1]) (s2:ByteArray) (z2:s2.size≤9223372036854775807):
  Calls Tryd.prog 6 #[v0,encC (.i .u16) n1,.string s2] W fun e W'=>e=.returned (.bool true)∧Below W.heap.size W W':=by
 obtain ⟨O,hO,hYO⟩:=err_of_cell (handle_of_laid hL)
 let σ0:Sig:=⟨fun i=>if i=1 then (X.len:Int) else n1,fun _=>false,fun _=>s2,wnTab,EE X O⟩
 have hn:IntKind.u16.wrap n1=n1:=i1.1
 have hl:=hX.len
 refine calls_of_stageG (σ0:=σ0) (tab:=wnTab) (n:=165) (q:=3) (ins:=wbKA) (args:=[.row 1,.symi .u16 0,.syms 2]) (J:=fun σ=>σ.ext=EE X O∧σ.ival 1=X.len∧(σ.sval 2).size≤9223372036854775807) Tryd.func6 rfl rfl rfl (.cons _ _ _ _ (hX.rel _ 1 rfl) (.cons _ _ _ _ ?_ (.cons _ _ _ _ (.syms 2) .nil))) (by simp) ?_ ?_ ⟨rfl,rfl,z2⟩ ?_ (fun i Y h0 h=>by rw [show σ0.ext i=none from EE_high h0] at h;cases h)
 ·have:encC (.i .u16) n1=.int .u16 n1:=by simp [encC,hn]
  rw [this]
  exact .symi .u16 0
 ·intro i Y h hlen
  have h:EE X O i=some Y:=h
  unfold EE at h
  split at h
  ·cases h;exact cut_fz hX.ok hlen
  ·split at h
   ·cases h;exact hX.ok hlen
   ·split at h
    ·cases h;exact hYO
    ·cases h
 ·intro i k hi hk
  have:i=0∨i=1∨i=2:=by omega
  rcases this with rfl|rfl|rfl
  ·have hk:IntKind.u16=k:=Option.some.inj hk
   subst hk
   exact hn
  ·have hk:IntKind.i64=k:=Option.some.inj hk
   subst hk
   show IntKind.i64.wrap (X.len:Int)=X.len
   rw [wr_i64];omega
  ·cases hk
 rw [show flatC (bodyOf Tryd.f6)=(flatC (bodyOf Tryd.f6)).take 7++(flatC (bodyOf Tryd.f6)).drop 7 from rfl]
 have h3: ∀τ:Sig,Eqs τ 3 wbAX.G→τ.ival 1=X.len→τ.ival 3=((cutY X).len:Int):=by
  intro τ e hj
  have h3:τ.ival 3=(if 30<τ.ival 1 then 30 else τ.ival 1):=eqI (e.at 0 _ rfl rfl) rfl
  rw [h3,hj]
  show _=((min X.len 30:Nat):Int)
  split<;>omega
 refine Stage.segC (q2:=3) (ins2:=wbKA) (S2:=wbA1) (J2:=J0 (EE X O) (cutY X)) (X:=wbAX) mixed wbA_lt wbA_ok wbA_hooks rfl (by kernel_rfl) wbA_reck rfl (by kernel_rfl) ⟨rfl,rfl⟩ (fun σ τ ag h=>⟨by rw [←ag.ext];exact h.1,by rw [←(ag.val 1 (by decide)).1];exact h.2.1,by rw [←(ag.val 2 (by decide)).2.2];exact h.2.2⟩) (fun τ e ht hj=> ?_) (fun τ h=>EE_inv hO h.1)
  (stA1 (yk O hX) (fun σ h=>EE_inv hO h) (fun i h=>EE_high h)) ?_
 ·have h3:=h3 τ e hj.2.1
  refine ⟨fun i r Y hr hY=> ?_,fun p hp Y hY=> ?_⟩
  ·rw [hj.1] at hY
   have:i=0∨i=1:=by
    have:=(List.getElem?_eq_some_iff.1 hr).1
    simp [wbAX] at this
    omega
   rcases this with rfl|rfl
   ·have hY:some (cutY X)=some Y:=hY
    cases hY
    have hr:some (⟨.symi .i64 3,[]⟩:RowS)=some r:=hr
    cases hr
    exact ⟨by show AVal.int .i64 _=_;rw [h3],fun p hp=>by cases hp⟩
   ·have hY:some X=some Y:=hY
    cases hY
    have hr:some (⟨.symi .i64 1,[]⟩:RowS)=some r:=hr
    cases hr
    exact ⟨by show AVal.int .i64 _=_;rw [hj.2.1],fun p hp=>by cases hp⟩
  ·obtain rfl:=List.mem_singleton.1 hp
   rw [hj.1] at hY
   have hY:some X=some Y:=hY
   cases hY
   exact ⟨cutY X,by rw [hj.1];rfl,rfl,rfl,Nat.min_le_left _ _,by show AVal.int .i64 _=_;rw [h3]⟩
 ·intro τ e ht hi hj
  have h3:=h3 τ e hj.2.1
  have hle:(cutY X).len≤30:=Nat.min_le_right _ _
  refine segsPw_segs (.inl ⟨rfl,rfl,?_,⟨extS hj.1,h3,hj.2.2⟩,tabS ht⟩)
  intro i k hlt hk
  have:i=0∨i=1∨i=2:=by omega
  rcases this with rfl|rfl|rfl
  ·exact hi 0 k (by decide) hk
  ·have hk:IntKind.i64=k:=Option.some.inj hk
   subst hk
   show IntKind.i64.wrap (τ.ival 3)=τ.ival 3
   rw [wr_i64];omega
  ·cases hk
section
variable {H : Type} {enc : TypeId × Value → H} {P : Program}
theorem post_of_below {f:Func} {s:ChangeSpec} {apart fresh handsOn again:Bool} {W W':World} {args:Array Value} {v:Value} {ds gs:List (DataW H)} {before pa pv:List MemPlace}
  (hW:DataW.Whole enc P f.params.toList s.vars apart W args.toList ds gs before)
  (hres: ∀(b:Nat) (sp:Nat→Bool) (hd:Bool),DataW.TrodAll enc P W' b sp hd f.resultTypes.toList (v.resultList f.resultTypes.size) (s.fn H (ds++gs)).results [])
  (hargs: ∀sp:Nat→Bool,(∀p∈before,sp p.block=true)→DataW.TrodAll enc P W' 0 sp true f.params.toList args.toList (s.fn H (ds++gs)).args pa)
  (hvars: ∀sp:Nat→Bool,(∀p∈before,sp p.block=true)→DataW.TrodVars enc P W' sp s.vars (s.fn H (ds++gs)).vars pv)
  (hps:before=pa++pv) (hb:Below W.heap.size W W')
  (hok: ∀(j:Nat) (t:TypeId) (r:Value),f.resultTypes[j]? =some t→(v.resultList f.resultTypes.size)[j]? =some r→Value.okWide P W' .any 0 t r):
  s.post enc P f apart fresh handsOn again W args v W':=by
 have hlt: ∀p∈before,p.block<W.heap.size:=fun p hp=>hW.lt p hp
 have hold: ∀p∈before,(fun b=>decide (b<W.heap.size)) p.block=true:=fun p hp=>by simpa using hlt p hp
 refine ⟨ds,gs,before,[],pa,pv,hW,hres _ _ _,hargs _ hold,hvars _ hold,World.keptBut_mono (fun p hp=>⟨hp,?_⟩) (hb.frame (· ∈before)),fun _=> ?_⟩
 ·rw [hps,List.mem_append] at hp
  exact Or.inr hp
 ·obtain ⟨_,_,_,_,_,hz,hn⟩:=hW
  refine ⟨hok,_,_,([]++pa)++pv,⟨[]++pa,pv,trodAll_append (hargs _ (fun _ _=>rfl)) (hres _ _ _),hvars _ (fun _ _=>rfl),rfl,?_,?_⟩,?_⟩
  ·intro b off hp
   have hin:MemPlace.cell b off∈before:=by rw [hps];simpa using hp
   rw [hb.frozen (hlt _ hin)]
   exact hz b off hin
  ·intro ha
   have:=hn ha
   rw [hps] at this
   simpa using this
  ·intro p hp _
   rw [hps]
   simpa using hp
end
theorem size60:Nat.beq (Tryd.prog.cellsOf 60) clT.length=true:=by kernel_rfl
theorem flat60:flatT Tryd.prog 60=some clT:=by kernel_rfl
theorem agg57:Ev.isAgg Tryd.prog 57=false:=by kernel_rfl
theorem flat57:flat Tryd.prog 4 57=some [.i .u16]:=by kernel_rfl
theorem lifted (os:Os) (started:os.Started) (H:Type) (enc:TypeId×Value→H):
  ReturnsInHanded {} Tryd.checked os 6 .any (fun w args=>(Rows.wireBackSpec.pre enc Tryd.prog Tryd.f6 [] false w args∧laidMetH Tryd.prog laid w)∧sizedMet enc Tryd.prog Tryd.f6 (OpenSpec.ofChange Rows.wireBackSpec) false w args) (Rows.wireBackSpec.post enc Tryd.prog Tryd.f6 false true false false):=by
 refine returnsInHanded_of_change_and (C:=Tryd.checked) (X:=fun w _=>laidMetH Tryd.prog laid w) (fun _ _ _ hh h=>h.of_heap hh) own started (by kernel_rfl) Tryd.func6
  (ChangeSpec.witness_at (enc:=enc) (C:=Tryd.checked) (os:=os) (X:=fun w _=>laidMetH Tryd.prog laid w) false (laidWorld os) #[.slice none 0 0,.int .u16 0,.string .empty] 8 rfl (by kernel_rfl) (by kernel_rfl) (by kernel_rfl) (by kernel_rfl) (by kernel_rfl) (laidWorld_met os _)) ?_
 intro W base args ds gs before hval0 hW _ _ hL _
 have hval: ∀(j:Nat) t v,Tryd.f6.params[j]? =some t→args[j]? =some v→Value.okWide Tryd.prog W .any base t v:=hval0
 have hW':=hW
 obtain ⟨p,q,hA0,hV,rfl,hfz,hnd⟩:=hW
 have hA:DataW.TrodAll enc Tryd.prog W 0 (fun _=>true) true Tryd.f6.params.toList args.toList ds p:=hA0
 rw [Tryd.params6] at hA hval
 obtain ⟨v0,vs0,d0,ds0,p0,q0,hargs,rfl,rfl,h0,r0⟩:=trodAll_cons hA
 obtain ⟨v1,vs1,d1,ds1,p1,q1,rfl,rfl,rfl,h1,r1⟩:=trodAll_cons r0
 obtain ⟨v2,vs2,d2,ds2,p2,q2,rfl,rfl,rfl,h2,r2⟩:=trodAll_cons r1
 obtain ⟨rfl,rfl,rfl⟩:=trodAll_nil r2
 obtain rfl:args= #[v0,v1,v2]:=by cases args;simp_all
 obtain ⟨rfl,rfl⟩:=trodVars_none hV
 obtain ⟨X0,R0⟩:=open_rowsS (cl:=clT) Tryd.underlying56 flat60 size60 rfl (hval 0 56 v0 rfl rfl) h0
 obtain ⟨n1,i1,rfl,rfl⟩:=open_one flat57 agg57 (hval 1 57 v1 rfl rfl) h1
 obtain ⟨s2,rfl,rfl,rfl,z2⟩:=Go.ChangeMaps.open_string Tryd.underlying9 (hval 2 9 v2 rfl rfl) h2
 clear hA0 hval0
 simp only [List.append_nil] at hW'
 refine (walk W hL v0 X0 R0.row n1 i1 s2 z2).mono fun e W' ⟨he,hg⟩=> ?_
 subst he
 exact ⟨_,rfl,post_of_below (pa:=p0++([]++([]++([])))) (pv:=[]) hW' (fun _ _ _=>(trodAll_cons_mk (shut_bool Tryd.underlying4 _) trodAll_mk0)) (fun sp hsp=>(trodAll_cons_mk (R0.again W' hg sp (fun z hz=>hsp z (by simp [hz]))) (trodAll_cons_mk (shut_flat flat57 h1) (trodAll_cons_mk (Go.ChangeMaps.shut_string Tryd.underlying9 z2) trodAll_mk0)))) (fun _ _=>rfl) (by simp)
  hg (ok_one (by kernel_rfl) rfl (okWide_bool_mk Tryd.underlying4 _))⟩
theorem over:Rows.wireBackRow.holds Tryd.pinned (OpenSpec.ofChange Rows.wireBackSpec):=
 OpenClaim.holds_of_wide 6 Tryd.f6 rfl rfl rfl rfl rfl rfl rfl ⟨rfl,rfl,rfl,rfl,rfl⟩ rfl rfl rfl rfl rfl (by kernel_rfl) Tryd.func6 (by kernel_rfl)
  (of_decide_eq_true (by kernel_rfl)) (by unfold Func.isWrapper;first|(rw [if_pos (by decide+kernel)];kernel_rfl)|(rw [if_neg (by decide+kernel)];exact ⟨rfl,rfl⟩))
  (fun os started H enc _=>lifted os started H enc)
theorem proved:Rows.WireBackCardSaid:=
 Claim7.holds_tied_plain_at .later [] [.handle] true (true, "c2838ca91c28a9fb7908c478833805ac40200ffe986e5b7931e25f0c134e5a5f") true
  over (fun _ h=>by cases h) (by kernel_rfl) (fun _ h=>by cases h) wireBack_row_tie rfl ⟨rfl,rfl⟩ (by kernel_rfl) rfl
  (fun f fn hf hfn=>by
   obtain rfl:f=6:=Option.some.inj ((show Tryd.prog.funcNamed "plover/ploverlaw01.WireBack" =some 6 by kernel_rfl).symm.trans hf)|>.symm
   obtain rfl:fn=Tryd.f6:=(Option.some.inj (Tryd.func6.symm.trans hfn)).symm
   exact ⟨by kernel_rfl,fun j t ht=>by
    rw [Tryd.params6] at ht
    rcases j with _|_|_|j
    ·obtain rfl:t=56:=by simpa using ht.symm
     exact (show Tryd.prog.wantsStandIn 56=false by kernel_rfl)
    ·obtain rfl:t=57:=by simpa using ht.symm
     exact (show Tryd.prog.wantsStandIn 57=false by kernel_rfl)
    ·obtain rfl:t=9:=by simpa using ht.symm
     exact (show Tryd.prog.wantsStandIn 9=false by kernel_rfl)
    ·simp at ht⟩)
  (by kernel_rfl)
#print axioms proved
end Go.Proofs.YtapfkgenachpgaaDoor.wireBack
