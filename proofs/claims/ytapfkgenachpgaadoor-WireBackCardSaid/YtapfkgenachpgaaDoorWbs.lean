/-
 WireBack's stages: the thing that is cut; numbers of any bytes.
 No conditions.
-/
import Derived.Test.YtapfkgenachpgaaDoorWbo
set_option maxRecDepth 100000
namespace Go.Proofs.YtapfkgenachpgaaDoor.wb
open Go.Ev Go.RowKit Go.Wbp
open Go.Proofs.YtapfkgenachpgaaDoor.fa
open Go.Proofs.YtapfkgenachpgaaDoor.wn (mixed sf48 wnTbl)
set_option linter.unusedVariables false
set_option linter.unusedSimpArgs false
def wbHG:List SDef:=[.sop .len [.syms 0],
 .bin .leq (.int .i64 0) (.symi .i64 1),
 .bin .leq (.symi .i64 1) (.symi .i64 4),
 .bin .leq (.symi .i64 4) (.int .i64 1000000),
 .fn 130 .i64 [.syms 0,.symi .i64 1],
 .bin .leq (.int .i64 0) (.symi .i64 2),
 .bin .leq (.symi .i64 2) (.int .i64 1000000),
 .bin .lss (.symi .i64 1) (.symi .i64 4),
 .bin .sub (.symi .i64 4) (.symi .i64 1),
 .bin .gtr (.symi .i64 12) (.int .i64 0),
 .fn 128 .u64 [.syms 0,.symi .i64 1],
 .fn 129 .i64 [.syms 0,.symi .i64 1],
 .bin .add (.symi .i64 1) (.symi .i64 15),
 .sop (.fs 192) [.symi .u64 14],
 .sop .cat [.syms 3,.syms 17],
 .fn 193 .i64 [.symi .u64 14],
 .bin .add (.symi .i64 2) (.symi .i64 19)]
def wbHT:LT:=.n (.n (.n (.n (.n (.e) 7086 4 (.sop .len [.syms 0]) (.e)) 138272231 13 (.bin .gtr (.symi .i64 12) (.int .i64 0)) (.e)) 190721116 17 (.sop (.fs 192) [.symi .u64 14]) (.n (.e) 283297957 20 (.bin .add (.symi .i64 2) (.symi .i64 19)) (.e))) 343383805 5 (.bin .leq (.int .i64 0) (.symi .i64 1)) (.n (.n (.e) 400703210 11 (.bin .lss (.symi .i64 1) (.symi .i64 4)) (.e)) 400703217 6 (.bin .leq (.symi .i64 1) (.symi .i64 4)) (.n (.e) 466664402 18 (.sop .cat [.syms 3,.syms 17]) (.e)))) 686737383 9 (.bin .leq (.int .i64 0) (.symi .i64 2)) (.n (.n (.n (.n (.e) 747385128 12 (.bin .sub (.symi .i64 4) (.symi .i64 1)) (.e)) 760276475 19 (.fn 193 .i64 [.symi .u64 14]) (.e)) 839931768 14 (.fn 128 .u64 [.syms 0,.symi .i64 1]) (.n (.e) 839931811 15 (.fn 129 .i64 [.syms 0,.symi .i64 1]) (.e))) 839931854 8 (.fn 130 .i64 [.syms 0,.symi .i64 1]) (.n (.n (.e) 844886979 10 (.bin .leq (.symi .i64 2) (.int .i64 1000000)) (.e)) 956366996 16 (.bin .add (.symi .i64 1) (.symi .i64 15)) (.n (.e) 1046887585 7 (.bin .leq (.symi .i64 4) (.int .i64 1000000)) (.e))))
def wbHW:Sw:=.node 5 (.node 6 (.node 7 (.node 9 (.node 10 (.node 11 (.pick 8 0 (.node 13 (.run (.leaf .normal wbS5 [(0,0),(2,0)] [(0,.syms 0),(2,.symi .i64 20),(0,.syms 0),(1,.symi .i64 16),(3,.syms 18),(2,.symi .i64 20)] [])) (.dead)) (.pick 8 3 (.node 13 (.run (.leaf (.exit 6) wbS6 [(0,0),(1,0)] [(0,.syms 0),(2,.symi .i64 2),(0,.syms 0),(1,.symi .i64 16),(3,.syms 3),(2,.symi .i64 2)] [])) (.dead)) (.pick 8 5 (.node 13 (.run (.leaf (.exit 6) wbS6 [(0,0),(1,0)] [(0,.syms 0),(2,.symi .i64 2),(0,.syms 0),(1,.symi .i64 16),(3,.syms 3),(2,.symi .i64 2)] [])) (.dead)) (.dead)))) (.node 13 (.dead) (.run (.leaf (.exit 6) wbS6 [(0,0),(1,0)] [(0,.syms 0),(2,.symi .i64 2),(0,.syms 0),(1,.symi .i64 1),(3,.syms 3),(2,.symi .i64 2)] [])))) (.dead)) (.dead)) (.dead)) (.dead)) (.dead)
def wbHKd:KdT:=.n (.n (.n (.n (.n .e (some .i64) .e) none .e) none (.n (.n .e (some .i64) .e) none .e)) (some .i64) (.n (.n (.n .e none .e) none .e) none (.n .e none .e))) none (.n (.n (.n (.n .e (some .i64) .e) (some .i64) .e) none (.n (.n .e (some .i64) .e) (some .i64) .e)) (some .i64) (.n (.n (.n .e none .e) none .e) none (.n .e (some .u64) .e)))
noncomputable def wbHY:Ing:={m:=4,ins:=wbK5,G:=wbHG,T:=wbHT,tab:=wnTab,lsts:=wbLst,kb:=21,kt:=wbHKd,hook:=tblHook (tabOf wnFs) wnTbl}
noncomputable def wbHX:Ing:={m:=4,ins:=wbK5,G:=wbHG,T:=wbHT,tab:=wnTab,lsts:=wbLst,kb:=21,kt:=wbHKd,hook:=tblHook (tabOf wnFs) wnTbl,mh:=symMf (kdX wbHY) [sf9,sf48]}
theorem wbH_lt:okLT 4 wbHG wbHT=true:=by kernel_rfl
theorem wbH_ok:okG wbHG 4=true:=by kernel_rfl
theorem wbH_hooks (F:List Fact):Hooks Tryd.prog (cxOf wbHX F) where
 val:=fun f args v h hp=>wn.wn_hooks (X:=wbHX) rfl rfl wbH_lt F f args v h hp
 mem:=fun f args hp v hp' h=>by
  replace h:(symMf (kdX wbHY) [sf9,sf48]) (symS (baseOf wbHX F)) f args hp=some (v,hp'):=h
  exact mem_symF (X:=wbHX) (tbl:=[sf9,sf48]) (inv:=fun _=>True) (fun e he=>by
   simp only [List.mem_cons,List.not_mem_nil,or_false] at he
   rcases he with rfl|rfl
   ·exact p9.c9
   ·exact wn.wn48_contract) wbH_lt rfl (fun _ _ _ _=>trivial) F f args hp v hp' h
 ovl:=fun f k h=>by simp only [wbHX,cxOf,reduceCtorEq] at h
 atm:=fun k b h=>by simp only [wbHX,cxOf,List.not_mem_nil] at h
theorem wbH_seg:SegOk Tryd.prog wnTab 165 ([loopAt 23 (bodyOf Tryd.f6)]) wbS5 wbHX wbHW where
 lt:=wbH_lt
 ok:=wbH_ok
 hook:=wbH_hooks
 n0:=rfl
 id:=by kernel_rfl
 reck:=by kernel_rfl
 tab:=rfl
 cuts:=rfl
 kt:=by kernel_rfl
def wbIG:List SDef:=[.bin .lss (.int .i64 0) (.symi .i64 2),
 .sop .sub [.syms 0,.int .i64 0,.symi .i64 1],
 .bin .eql (.syms 5) (.str ⟨#[]⟩),
 .sop .len [.syms 0],
 .bin .leq (.int .i64 0) (.symi .i64 1),
 .bin .leq (.symi .i64 1) (.symi .i64 7),
 .bin .eql (.syms 5) (.syms 3)]
def wbIT:LT:=.n (.n (.n (.e) 7086 7 (.sop .len [.syms 0]) (.e)) 343383805 8 (.bin .leq (.int .i64 0) (.symi .i64 1)) (.n (.e) 357022124 9 (.bin .leq (.symi .i64 1) (.symi .i64 7)) (.e))) 462469578 10 (.bin .eql (.syms 5) (.syms 3)) (.n (.n (.e) 505210013 6 (.bin .eql (.syms 5) (.str ⟨#[]⟩)) (.e)) 505412884 5 (.sop .sub [.syms 0,.int .i64 0,.symi .i64 1]) (.n (.e) 686737376 4 (.bin .lss (.int .i64 0) (.symi .i64 2)) (.e)))
def wbIW:Sw:=.node 4 (.node 8 (.node 9 (.node 10 (.run (.leaf .ret wbSE [] [] [])) (.dead)) (.dead)) (.dead)) (.node 6 (.node 8 (.node 9 (.run (.leaf .ret wbSE [] [] [])) (.dead)) (.dead)) (.dead))
def wbIKd:KdT:=.n (.n (.n (.n .e none .e) none .e) (some .i64) (.n (.n .e none .e) none .e)) none (.n (.n (.n .e none .e) none .e) (some .i64) (.n (.n .e none .e) none .e))
noncomputable def wbIX:Ing:={m:=4,ins:=wbK5,G:=wbIG,T:=wbIT,tab:=wnTab,lsts:=wbLst,kb:=11,kt:=wbIKd}
theorem wbI_lt:okLT 4 wbIG wbIT=true:=by kernel_rfl
theorem wbI_ok:okG wbIG 4=true:=by kernel_rfl
theorem wbI_seg:SegOk Tryd.prog wnTab 165 ((flatC (bodyOf Tryd.f6)).drop 24) wbS6 wbIX wbIW where
 lt:=wbI_lt
 ok:=wbI_ok
 hook:=fun F=>no_hooks rfl F
 n0:=rfl
 id:=by kernel_rfl
 reck:=by kernel_rfl
 tab:=rfl
 cuts:=rfl
 kt:=by kernel_rfl
theorem ext_cat {S:ByteArray} {a:Nat} {l:List Int} (hl: ∀x∈l,0≤x∧x<256) (h:Has S a l):S.extract 0 (a+l.length)=S.extract 0 a++bs l:=by
 have h1:=has_bs_extract hl h
 have h2:=h.2.1
 rw [show ((a:Int)).toNat=a by omega,show ((a:Int)+(l.length:Int)).toNat=a+l.length by omega] at h1
 rw [←h1]
 apply ByteArray.ext
 simp only [ByteArray.data_append,ByteArray.data_extract]
 apply Array.ext'
 simp only [Array.toList_append,Array.toList_extract,List.extract_eq_take_drop,Nat.sub_zero,List.drop_zero]
 rw [Nat.add_sub_cancel_left]
 exact List.take_add
def J5 (σ:Sig):Prop:= ∃a:Nat,σ.ival 1=a∧σ.ival 2=a∧a≤(σ.sval 0).size∧(σ.sval 0).size≤100∧σ.sval 3=(σ.sval 0).extract 0 a
theorem J5.agree {σ τ:Sig} (ag:Agree 4 σ τ) (h:J5 σ):J5 τ:=by
 obtain ⟨a,h1,h2,h3,h4,h5⟩:=h
 exact ⟨a,by rw [←(ag.val 1 (by decide)).1];exact h1,by rw [←(ag.val 2 (by decide)).1];exact h2,by rw [←(ag.val 0 (by decide)).2.2];exact h3,by rw [←(ag.val 0 (by decide)).2.2];exact h4,by rw [←(ag.val 3 (by decide)).2.2,←(ag.val 0 (by decide)).2.2];exact h5⟩
theorem endI {W:World} {σ:Sig}:EndZ wnTab 165 W (WZ W) .ret wbSE σ:=by
 intro en a w hxe hA
 exact at_end (r:=6) rfl hA (by simp [wbSE]) (.inl hxe)
theorem stI {W:World}:Stage Tryd.prog wnTab 165 W (WZ W) ((flatC (bodyOf Tryd.f6)).drop 24) wbS6 4 wbK5 J5:=by
 refine Stage.last mixed wbI_seg ⟨rfl,rfl⟩ (fun σ τ ag h=>h.agree ag) (fun τ h=>rows_nil) (fun τ e ht hi hj=> ?_)
 obtain ⟨a,h1,h2,h3,h4,h5⟩:=hj
 refine segsPw_segs ?_
 have b4:τ.bval 4=decide ((0:Int)<τ.ival 2):=eqB (e.at 0 _ rfl rfl) rfl
 have s5:τ.sval 5=(τ.sval 0).extract (0:Int).toNat (τ.ival 1:Int).toNat:=eqSub (e.at 1 _ rfl rfl) rfl rfl
 have b6:τ.bval 6=((τ.sval 5).toList==(ByteArray.empty).toList):=eqB (e.at 2 _ rfl rfl) rfl
 have i7:τ.ival 7=((τ.sval 0).size:Nat):=eqLen (e.at 3 _ rfl rfl)
 have b8:τ.bval 8=decide ((0:Int)≤τ.ival 1):=eqB (e.at 4 _ rfl rfl) rfl
 have b9:τ.bval 9=decide (τ.ival 1≤τ.ival 7):=eqB (e.at 5 _ rfl rfl) rfl
 have b10:τ.bval 10=((τ.sval 5).toList==(τ.sval 3).toList):=eqB (e.at 6 _ rfl rfl) rfl
 have tr: ∀{P:Prop} {b:Bool} [Decidable P],b=decide P→b=false→P→False:=fun hb hf hp=>by rw [hb,decide_eq_false_iff_not] at hf;exact hf hp
 have trT: ∀{P:Prop} {b:Bool} [Decidable P],b=decide P→b=true→ ¬P→False:=fun hb hf hp=>by rw [hb,decide_eq_true_eq] at hf;exact hp hf
 have trN: ∀{x y:Int} {b:Bool},b=(!(x==y))→b=true→x=y→False:=fun hb hf hp=>by rw [hb,hp] at hf;simp at hf
 have e5:τ.sval 5=τ.sval 3:=by
  rw [s5,h5,h1]
  rfl
 refine ⟨fun _=>⟨fun _=>⟨fun _=>⟨fun _=>endI,fun f=>by rw [b10,e5] at f;simp at f⟩,fun f=>tr b9 f (by omega)⟩,fun f=>tr b8 f (by omega)⟩,fun f4=>⟨fun _=>⟨fun _=>⟨fun _=>endI,fun f=>tr b9 f (by omega)⟩,fun f=>tr b8 f (by omega)⟩,fun f=> ?_⟩⟩
 rw [b4,decide_eq_false_iff_not] at f4
 have ha:a=0:=by omega
 have:τ.sval 5=.empty:=by
  rw [e5,h5,ha]
  exact (ext_of (by rw [ByteArray.size_extract];show 0=0;rfl) (fun j hj=>absurd hj (by rw [ByteArray.size_extract];omega)))
 rw [b6,this] at f
 simp at f
set_option maxHeartbeats 1000000 in
theorem stH {W:World}:Stage Tryd.prog wnTab 165 W (WZ W) ((flatC (bodyOf Tryd.f6)).drop 23) wbS5 4 wbK5 J5:=by
 rw [show (flatC (bodyOf Tryd.f6)).drop 23=.block 6 (.loop (loopAt 23 (bodyOf Tryd.f6)))::(flatC (bodyOf Tryd.f6)).drop 24 from rfl]
 refine Stage.loop (μ:=fun σ=>(100-σ.ival 1).toNat) mixed wbH_seg ⟨rfl,rfl⟩ (fun σ τ ag h=>h.agree ag) (fun σ τ ag=>by rw [(ag.val 1 (by decide)).1]) (fun τ h=>rows_nil) stI (fun τ e ht hi hj=> ?_)
 obtain ⟨a,h1,h2,h3,h4,h5⟩:=hj
 refine segsPw_segs ?_
 have i4:τ.ival 4=((τ.sval 0).size:Nat):=eqLen (e.at 0 _ rfl rfl)
 have b5:τ.bval 5=decide ((0:Int)≤τ.ival 1):=eqB (e.at 1 _ rfl rfl) rfl
 have b6:τ.bval 6=decide (τ.ival 1≤τ.ival 4):=eqB (e.at 2 _ rfl rfl) rfl
 have b7:τ.bval 7=decide (τ.ival 4≤1000000):=eqB (e.at 3 _ rfl rfl) rfl
 have i8:τ.ival 8=IntKind.i64.wrap (τ.tab 130 [encB (τ.sval 0),τ.ival 1]):=eqFn (e.at 4 _ rfl rfl)
 have b9:τ.bval 9=decide ((0:Int)≤τ.ival 2):=eqB (e.at 5 _ rfl rfl) rfl
 have b10:τ.bval 10=decide (τ.ival 2≤1000000):=eqB (e.at 6 _ rfl rfl) rfl
 have b11:τ.bval 11=decide (τ.ival 1<τ.ival 4):=eqB (e.at 7 _ rfl rfl) rfl
 have i12:τ.ival 12=IntKind.i64.wrap (τ.ival 4-τ.ival 1):=eqI (e.at 8 _ rfl rfl) rfl
 have b13:τ.bval 13=decide (τ.ival 12>0):=eqB (e.at 9 _ rfl rfl) rfl
 have i14:τ.ival 14=IntKind.u64.wrap (τ.tab 128 [encB (τ.sval 0),τ.ival 1]):=eqFn (e.at 10 _ rfl rfl)
 have i15:τ.ival 15=IntKind.i64.wrap (τ.tab 129 [encB (τ.sval 0),τ.ival 1]):=eqFn (e.at 11 _ rfl rfl)
 have i16:τ.ival 16=IntKind.i64.wrap (τ.ival 1+τ.ival 15):=eqI (e.at 12 _ rfl rfl) rfl
 have tr: ∀{P:Prop} {b:Bool} [Decidable P],b=decide P→b=false→P→False:=fun hb hf hp=>by rw [hb,decide_eq_false_iff_not] at hf;exact hf hp
 have trT: ∀{P:Prop} {b:Bool} [Decidable P],b=decide P→b=true→ ¬P→False:=fun hb hf hp=>by rw [hb,decide_eq_true_eq] at hf;exact hp hf
 have trN: ∀{x y:Int} {b:Bool},b=(!(x==y))→b=true→x=y→False:=fun hb hf hp=>by rw [hb,hp] at hf;simp at hf
 have hn:=numL_in (τ.sval 0) a
 rw [ht,show (130:Nat)=128+2 by rfl,wn.tab_num _ _ 2 (by decide),h1,wr_i64] at i8
 rw [ht,show (128:Nat)=128+0 by rfl,wn.tab_num _ _ 0 (by decide),h1,wr_u64] at i14
 rw [ht,show (129:Nat)=128+1 by rfl,wn.tab_num _ _ 1 (by decide),h1,wr_i64] at i15
 rw [wr_i64] at i12 i16
 have out1:τ.ival 8≠0→J5 (asgS τ ([(0,.syms 0),(2,.symi .i64 2),(0,.syms 0),(1,.symi .i64 16),(3,.syms 3),(2,.symi .i64 2)]++[])):=fun hc=>
  ⟨a,by show τ.ival 16=_;omega,h2,h3,h4,h5⟩
 refine ⟨fun _=>⟨fun _=>⟨fun _=>⟨fun _=>⟨fun _=>⟨fun f11=>⟨fun f8=>⟨fun _=> ?_,fun f=>tr b13 f (by rw [b11,decide_eq_true_eq] at f11;omega)⟩,fun n8=>⟨fun f8=>⟨fun _=> ?_,fun f=>tr b13 f (by rw [b11,decide_eq_true_eq] at f11;omega)⟩,fun n83=>⟨fun f8=>⟨fun _=> ?_,fun f=>tr b13 f (by rw [b11,decide_eq_true_eq] at f11;omega)⟩,fun n85=>by omega⟩⟩⟩,fun f11=>⟨fun f=>trT b13 f (by rw [b11,decide_eq_false_iff_not] at f11;omega),fun _=> ?_⟩⟩,fun f=>tr b10 f (by omega)⟩,fun f=>tr b9 f (by omega)⟩,fun f=>tr b7 f (by omega)⟩,fun f=>tr b6 f (by omega)⟩,fun f=>tr b5 f (by omega)⟩
 ·obtain ⟨q1,q2⟩:=num_back (S:=τ.sval 0) (a:=a) (by omega) (by omega)
  have e14:τ.ival 14=(numL (τ.sval 0) a).getD 0 0:=by omega
  rw [←e14] at q1 q2
  have hl:=pbL_len (τ.ival 14)
  have hb:=q1.2.1
  have s17:τ.sval 17=decS (τ.tab 192 [τ.ival 14]):=eqFs (e.at 13 _ rfl rfl)
  have s18:τ.sval 18=τ.sval 3++τ.sval 17:=eqCat (e.at 14 _ rfl rfl) rfl rfl
  have i19:τ.ival 19=IntKind.i64.wrap (τ.tab 193 [τ.ival 14]):=eqFn (e.at 15 _ rfl rfl)
  have i20:τ.ival 20=IntKind.i64.wrap (τ.ival 2+τ.ival 19):=eqI (e.at 16 _ rfl rfl) rfl
  rw [ht,tab_pb] at s17
  rw [ht,tab_pl,wr_i64] at i19
  rw [wr_i64] at i20
  have e18:τ.sval 18=(τ.sval 0).extract 0 (a+(pbL (τ.ival 14)).length):=by rw [s18,s17,h5,ext_cat (pbL_in _) q1]
  refine .inl ⟨rfl,rfl,insOk_kt (X:=wbHX) e hi (by kernel_rfl) (by kernel_rfl),⟨a+(pbL (τ.ival 14)).length,?_,?_,?_,h4,e18⟩,tabS ht,?_⟩
  ·show τ.ival 16=_
   omega
  ·show τ.ival 20=_
   omega
  ·show a+(pbL (τ.ival 14)).length≤(τ.sval 0).size
   omega
  ·show (100-τ.ival 16).toNat<(100-τ.ival 1).toNat
   omega
 ·exact .inr (.inl ⟨rfl,rfl,insOk_kt (X:=wbHX) e hi (by kernel_rfl) (by kernel_rfl),out1 n8,tabS ht⟩)
 ·exact .inr (.inl ⟨rfl,rfl,insOk_kt (X:=wbHX) e hi (by kernel_rfl) (by kernel_rfl),out1 n8,tabS ht⟩)
 ·exact .inr (.inl ⟨rfl,rfl,insOk_kt (X:=wbHX) e hi (by kernel_rfl) (by kernel_rfl),⟨a,h1,h2,h3,h4,h5⟩,tabS ht⟩)
theorem K4.agree {Y:Fz} {σ τ:Sig} (ag:Agree 9 σ τ) (h:K4 Y σ):K4 Y τ:=let ⟨n,i,h1,h2⟩:=h;⟨n,i,h1.agree ag,h2⟩
set_option maxHeartbeats 1000000 in
theorem stG {W:World} {E:Nat→Option Fz} {Y:Fz} (hY:Yk E Y) (hO: ∀σ:Sig,σ.ext=E→OwnInv 0 isErr σ):Stage Tryd.prog wnTab 165 W (WZ W) ((flatC (bodyOf Tryd.f6)).drop 18) wbS4 9 wbK4 (fun σ=>RowE E Y σ∧K4 Y σ):=by
 refine Stage.elS hY.els rfl (by kernel_rfl) (fun σ τ ag h=>h.agree ag) ?_
 rw [show (flatC (bodyOf Tryd.f6)).drop 18=((flatC (bodyOf Tryd.f6)).drop 18).take 5++(flatC (bodyOf Tryd.f6)).drop 23 from rfl]
 refine Stage.segI (q2:=4) (ins2:=wbK5) (S2:=wbS5) (J2:=J5) mixed wbG_seg ⟨rfl,rfl⟩ (fun σ τ ag h=>⟨h.1.agree ag,h.2.agree (ag.less (by decide))⟩) (fun τ h=>h.1.rows hY.els hY.ext (by decide)) (fun τ h=>hO τ (h.1.hd (by decide)).ext) stH (fun τ e ht hi hj=> ?_)
 obtain ⟨hrow,n,i,hj,hx⟩:=hj
 have hr:=hrow.hd (by decide)
 refine segsPw_segs ?_
 have hi0:=hj.i0
 have hn2:=hj.n2
 have hn6:=hj.n6
 have ha8:=hj.a8
 have hle:=hj.le
 have hhn:=hj.hn
 have hs3:=hj.s3
 have hlen:=hr.len
 have hhi:=hr.hi
 have h30:=hY.len
 have hcn:=hY.cat Y.len (Nat.le_refl _)
 have b12:τ.bval 12=decide (τ.ival 0<τ.ival 1):=eqB (e.at 0 _ rfl rfl) rfl
 have b13:τ.bval 13= !(τ.tab 321 [τ.ival 9,τ.ival 10,encB (τ.sval 11),encB (τ.sval 5),τ.ival 8]==0):=eqFnb (e.at 1 _ rfl rfl)
 have b14:τ.bval 14=decide ((0:Int)≤τ.ival 0):=eqB (e.at 2 _ rfl rfl) rfl
 have b16:τ.bval 16=decide (τ.ival 0<τ.ival 6):=eqB (e.at 4 _ rfl rfl) rfl
 have b19:τ.bval 19= !(τ.bval 18):=eqB (e.at 7 _ rfl rfl) rfl
 have b20:τ.bval 20= !((τ.ival 8:Int)==τ.ival 17):=eqB (e.at 8 _ rfl rfl) rfl
 have i21:τ.ival 21=((τ.sval 3).size:Nat):=eqLen (e.at 9 _ rfl rfl)
 have i22:τ.ival 22=(if 100<τ.ival 21 then 100 else τ.ival 21):=eqI (e.at 10 _ rfl rfl) rfl
 have b23:τ.bval 23=decide ((0:Int)≤τ.ival 22):=eqB (e.at 11 _ rfl rfl) rfl
 have b24:τ.bval 24=decide (τ.ival 22≤τ.ival 21):=eqB (e.at 12 _ rfl rfl) rfl
 have s25:τ.sval 25=(τ.sval 3).extract (0:Int).toNat (τ.ival 22:Int).toNat:=eqSub (e.at 13 _ rfl rfl) rfl rfl
 have tr: ∀{P:Prop} {b:Bool} [Decidable P],b=decide P→b=false→P→False:=fun hb hf hp=>by rw [hb,decide_eq_false_iff_not] at hf;exact hf hp
 have trT: ∀{P:Prop} {b:Bool} [Decidable P],b=decide P→b=true→ ¬P→False:=fun hb hf hp=>by rw [hb,decide_eq_true_eq] at hf;exact hp hf
 have trN: ∀{x y:Int} {b:Bool},b=(!(x==y))→b=true→x=y→False:=fun hb hf hp=>by rw [hb,hp] at hf;simp at hf
 have z25:(τ.sval 25).size≤100:=by
  rw [s25,ByteArray.size_extract]
  split at i22<;>omega
 have l22:0≤τ.ival 22∧τ.ival 22≤τ.ival 21:=by split at i22<;>omega
 have fin:J5 (asgS τ ([(0,.syms 25),(2,.int .i64 0),(0,.syms 25),(1,.int .i64 0),(3,.str ⟨#[]⟩),(2,.int .i64 0)]++[])):=
  ⟨0,rfl,rfl,Nat.zero_le _,z25,(ext_of (by rw [ByteArray.size_extract];rfl) (fun j hj=>absurd hj (Nat.not_lt_zero j)))⟩
 refine ⟨fun f12=> ?_,fun f12=>⟨fun _=>⟨fun _=> .inl ⟨rfl,rfl,insOk_kt (X:=wbGX) e hi (by kernel_rfl) (by kernel_rfl),fin,tabS ht⟩,fun f=>tr b24 f l22.2⟩,fun f=>tr b23 f l22.1⟩⟩
 rw [b12,decide_eq_true_eq] at f12
 have hlt:i<Y.len:=by omega
 have hx:=hx hlt
 have hth:=thing (by decide) hrow hi0 hlt
 have hcs:=catL_succ Y i
 have q13:τ.bval 13=true:=by
  rw [b13,ht,tab_sh,hth,hj.s5,ha8]
  exact ⟨by rw [cut_size (by rw [bs_size];exact hhn)];omega,cut_cut (by rw [bs_size];exact hhn) (catL_has Y hlt) (by omega) (by omega)⟩
 have i17:τ.ival 17=((catL Y i).length:Int):=
  placeAt hY hj.s7 (by omega) (eqCellP (m:=i) (e.at 5 _ rfl rfl) (show den τ (.symi .i64 0)=_ by rw [←hi0];rfl))
 have b18:τ.bval 18=((τ.ival 8==τ.ival 17)&&true):=eqB (e.at 6 _ rfl rfl) rfl
 have e18:τ.bval 18=true:=by rw [b18,ha8,i17];simp
 refine ⟨fun _=>⟨fun _=>⟨fun _=>⟨fun f=>by rw [b19,e18] at f;simp at f,fun _=>⟨fun f=>trN b20 f (by omega),fun _=>⟨fun _=>⟨fun _=> .inl ⟨rfl,rfl,insOk_kt (X:=wbGX) e hi (by kernel_rfl) (by kernel_rfl),fin,tabS ht⟩,fun f=>tr b24 f l22.2⟩,fun f=>tr b23 f l22.1⟩⟩⟩,fun f=>tr b16 f (by omega)⟩,fun f=>tr b14 f (by omega)⟩,fun f=>by rw [q13] at f;cases f⟩
end Go.Proofs.YtapfkgenachpgaaDoor.wb
