/-
 WireBack's stages: the second loop reads.
 No conditions.
-/
import Derived.Test.YtapfkgenachpgaaDoorWbl
set_option maxRecDepth 100000
namespace Go.Proofs.YtapfkgenachpgaaDoor.wb
open Go.Ev Go.RowKit Go.Wbp
open Go.Proofs.YtapfkgenachpgaaDoor.wn (mixed sf48 wnTbl)
set_option linter.unusedVariables false
set_option linter.unusedSimpArgs false
def wbCG:List SDef:=[.bin .lss (.int .i64 0) (.symi .i64 4)]
def wbCT:LT:=.n (.e) 299702705 8 (.bin .lss (.int .i64 0) (.symi .i64 4)) (.e)
def wbCW:Sw:=.run (.node 8 (.leaf .normal wbS3 [(0,0),(1,0),(2,0)] [(2,.symi .u16 2),(3,.syms 3),(4,.symi .i64 4),(6,.symi .i64 6),(0,.int .i64 0),(5,.syms 5),(4,.symi .i64 4),(7,.syms 7),(6,.symi .i64 6),(5,.syms 5),(8,.int .i64 0)] [(1,.symi .i64 1)]) (.leafE .normal wbS3 [(0,0),(1,0),(2,0)] [(2,.symi .u16 2),(3,.syms 3),(4,.symi .i64 4),(6,.symi .i64 6),(0,.int .i64 0),(5,.syms 5),(4,.symi .i64 4),(7,.syms 7),(6,.symi .i64 6),(5,.str ⟨#[]⟩),(8,.int .i64 0)] [(1,.symi .i64 1)]))
def wbCKd:KdT:=.n (.n (.n (.n .e none .e) none .e) (some .i64) (.n .e none .e)) (some .i64) (.n (.n (.n .e none .e) (some .i64) .e) (some .u16) (.n .e (some .i64) .e))
noncomputable def wbCX:Ing:={m:=8,ins:=wbK1,G:=wbCG,T:=wbCT,tab:=wnTab,lsts:=wbLst,kb:=9,kt:=wbCKd,rows:=[⟨.symi .i64 1,[]⟩]}
theorem wbC_lt:okLT 8 wbCG wbCT=true:=by kernel_rfl
theorem wbC_ok:okG wbCG 8=true:=by kernel_rfl
theorem wbC_seg:SegOk Tryd.prog wnTab 165 (((flatC (bodyOf Tryd.f6)).drop 8).take 2) wbS1 wbCX wbCW where
 lt:=wbC_lt
 ok:=wbC_ok
 hook:=fun F=>no_hooks rfl F
 n0:=rfl
 id:=by kernel_rfl
 reck:=by kernel_rfl
 tab:=rfl
 cuts:=rfl
 kt:=by kernel_rfl
def wbDG:List SDef:=[.fnb 320 [.symi .u8 9,.symi .u64 10,.syms 11,.syms 5,.symi .i64 8],
 .bin .lss (.symi .i64 0) (.symi .i64 1),
 .bin .leq (.int .i64 0) (.symi .i64 0),
 .bin .lss (.symi .i64 0) (.symi .i64 6),
 .sop (.cell [.some .i64] 0) [.syms 7,.symi .i64 0],
 .bin .neq (.symi .i64 8) (.symi .i64 16),
 .fn 257 .i64 [.symi .u8 9,.symi .u64 10,.syms 11],
 .bin .add (.symi .i64 8) (.symi .i64 18),
 .bin .add (.symi .i64 0) (.int .i64 1)]
def wbDT:LT:=.n (.n (.n (.n (.e) 30227 14 (.bin .leq (.int .i64 0) (.symi .i64 0)) (.e)) 60352 20 (.bin .add (.symi .i64 0) (.int .i64 1)) (.e)) 95479361 16 (.sop (.cell [.some .i64] 0) [.syms 7,.symi .i64 0]) (.n (.e) 343384000 13 (.bin .lss (.symi .i64 0) (.symi .i64 1)) (.e))) 545946197 19 (.bin .add (.symi .i64 8) (.symi .i64 18)) (.n (.n (.n (.e) 654336295 12 (.fnb 320 [.symi .u8 9,.symi .u64 10,.syms 11,.syms 5,.symi .i64 8]) (.e)) 717527844 18 (.fn 257 .i64 [.symi .u8 9,.symi .u64 10,.syms 11]) (.e)) 932980952 17 (.bin .neq (.symi .i64 8) (.symi .i64 16)) (.n (.e) 986410063 15 (.bin .lss (.symi .i64 0) (.symi .i64 6)) (.e)))
def wbDW:Sw:=.node 13 (.node 12 (.node 14 (.node 15 (.node 17 (.dead) (.run (.leaf .normal wbS3 [(0,0),(1,0),(2,0)] [(2,.symi .u16 2),(3,.syms 3),(4,.symi .i64 4),(6,.symi .i64 6),(0,.symi .i64 20),(5,.syms 5),(4,.symi .i64 4),(7,.syms 7),(6,.symi .i64 6),(5,.syms 5),(8,.symi .i64 19)] [(1,.symi .i64 1)]))) (.dead)) (.dead)) (.dead)) (.run (.leaf (.exit 2) wbS3 [(0,0),(1,0),(2,0)] [(2,.symi .u16 2),(3,.syms 3),(4,.symi .i64 4),(6,.symi .i64 6),(0,.symi .i64 0),(5,.syms 5),(4,.symi .i64 4),(7,.syms 7),(6,.symi .i64 6),(5,.syms 5),(8,.symi .i64 8)] [(1,.symi .i64 1)]))
def wbDKd:KdT:=.n (.n (.n (.n (.n .e none .e) none .e) none (.n (.n .e (some .i64) .e) none .e)) (some .i64) (.n (.n (.n .e none .e) (some .u8) .e) none (.n .e none .e))) (some .i64) (.n (.n (.n (.n .e (some .i64) .e) (some .i64) .e) (some .i64) (.n (.n .e (some .i64) .e) none .e)) (some .u16) (.n (.n (.n .e (some .i64) .e) (some .u64) .e) (some .i64) (.n .e none .e)))
noncomputable def wbDY:Ing:={m:=12,ins:=(wbK3++wbEl),G:=wbDG,T:=wbDT,tab:=wnTab,lsts:=wbLst,kb:=21,kt:=wbDKd,rows:=[⟨.symi .i64 1,[(.symi .i64 0,elT)]⟩]}
noncomputable def wbDX:Ing:={m:=12,ins:=(wbK3++wbEl),G:=wbDG,T:=wbDT,tab:=wnTab,lsts:=wbLst,kb:=21,kt:=wbDKd,rows:=[⟨.symi .i64 1,[(.symi .i64 0,elT)]⟩],mh:=symMf (kdX wbDY) [sf26]}
theorem wbD_lt:okLT 12 wbDG wbDT=true:=by kernel_rfl
theorem wbD_ok:okG wbDG 12=true:=by kernel_rfl
theorem wbD_hooks (F:List Fact):Hooks Tryd.prog (cxOf wbDX F) where
 val:=fun f args v h=>by simp only [wbDX,cxOf,noHook,reduceCtorEq] at h
 mem:=fun f args hp v hp' h=>by
  replace h:(symMf (kdX wbDY) [sf26]) (symS (baseOf wbDX F)) f args hp=some (v,hp'):=h
  exact mem_symF (X:=wbDX) (tbl:=[sf26]) (inv:=fun _=>True) (fun e he=>by
   simp only [List.mem_cons,List.not_mem_nil,or_false] at he
   rcases he with rfl
   ·exact c26) wbD_lt rfl (fun _ _ _ _=>trivial) F f args hp v hp' h
 ovl:=fun f k h=>by simp only [wbDX,cxOf,reduceCtorEq] at h
 atm:=fun k b h=>by simp only [wbDX,cxOf,List.not_mem_nil] at h
theorem wbD_seg:SegOk Tryd.prog wnTab 165 ([loopAt 10 (bodyOf Tryd.f6)]) wbS3 wbDX wbDW where
 lt:=wbD_lt
 ok:=wbD_ok
 hook:=wbD_hooks
 n0:=rfl
 id:=by kernel_rfl
 reck:=by kernel_rfl
 tab:=rfl
 cuts:=rfl
 kt:=by kernel_rfl
def wbEG:List SDef:=[.sop .len [.syms 5],
 .bin .sub (.symi .i64 9) (.symi .i64 8),
 .bin .gtr (.symi .i64 10) (.int .i64 0),
 .bin .neq (.symi .i64 10) (.int .i64 0),
 .conv .i64 (.symi .u16 2),
 .bin .add (.symi .i64 4) (.int .i64 1),
 .bin .rem (.symi .i64 13) (.symi .i64 14),
 .bin .leq (.int .i64 0) (.symi .i64 15),
 .bin .leq (.symi .i64 15) (.symi .i64 4),
 .bin .lss (.int .i64 0) (.symi .i64 15),
 .sop .sub [.syms 5,.int .i64 0,.symi .i64 15]]
def wbET:LT:=.n (.n (.n (.n (.e) 206000950 13 (.conv .i64 (.symi .u16 2)) (.e)) 404061564 14 (.bin .add (.symi .i64 4) (.int .i64 1)) (.e)) 434636208 10 (.bin .sub (.symi .i64 9) (.symi .i64 8)) (.n (.n (.e) 740965632 17 (.bin .leq (.symi .i64 15) (.symi .i64 4)) (.e)) 751275255 15 (.bin .rem (.symi .i64 13) (.symi .i64 14)) (.e))) 823540322 19 (.sop .sub [.syms 5,.int .i64 0,.symi .i64 15]) (.n (.n (.n (.e) 835037981 9 (.sop .len [.syms 5]) (.e)) 855366582 18 (.bin .lss (.int .i64 0) (.symi .i64 15)) (.e)) 855366589 16 (.bin .leq (.int .i64 0) (.symi .i64 15)) (.n (.n (.e) 1010013431 12 (.bin .neq (.symi .i64 10) (.int .i64 0)) (.e)) 1010013452 11 (.bin .gtr (.symi .i64 10) (.int .i64 0)) (.e)))
def wbEW:Sw:=.node 11 (.dead) (.node 12 (.dead) (.node 16 (.node 17 (.run (.pick 14 0 (.dead) (.node 18 (.leaf .normal wbS4 [(1,0),(3,0)] [(3,.syms 3),(6,.symi .i64 6),(2,.symi .i64 15),(0,.int .i64 0),(0,.int .i64 0),(7,.syms 7),(6,.symi .i64 6),(5,.syms 19),(8,.int .i64 0)] [(1,.symi .i64 1),(4,.syms 3)]) (.leaf .normal wbS4 [(1,0),(3,0)] [(3,.syms 3),(6,.symi .i64 6),(2,.symi .i64 15),(0,.int .i64 0),(0,.int .i64 0),(7,.syms 7),(6,.symi .i64 6),(5,.str ⟨#[]⟩),(8,.int .i64 0)] [(1,.symi .i64 1),(4,.syms 3)])))) (.dead)) (.dead)))
def wbEKd:KdT:=.n (.n (.n (.n (.n .e none .e) none .e) none (.n (.n .e none .e) none .e)) (some .i64) (.n (.n (.n .e none .e) none .e) none (.n .e (some .i64) .e))) (some .i64) (.n (.n (.n (.n .e none .e) (some .i64) .e) (some .i64) (.n .e none .e)) (some .u16) (.n (.n (.n .e none .e) (some .i64) .e) (some .i64) (.n .e (some .i64) .e)))
noncomputable def wbEX:Ing:={m:=9,ins:=wbK3,G:=wbEG,T:=wbET,tab:=wnTab,lsts:=wbLst,kb:=20,kt:=wbEKd,rows:=[⟨.symi .i64 1,[]⟩]}
theorem wbE_lt:okLT 9 wbEG wbET=true:=by kernel_rfl
theorem wbE_ok:okG wbEG 9=true:=by kernel_rfl
theorem wbE_seg:SegOk Tryd.prog wnTab 165 (((flatC (bodyOf Tryd.f6)).drop 11).take 6) wbS3 wbEX wbEW where
 lt:=wbE_lt
 ok:=wbE_ok
 hook:=fun F=>no_hooks rfl F
 n0:=rfl
 id:=by kernel_rfl
 reck:=by kernel_rfl
 tab:=rfl
 cuts:=rfl
 kt:=by kernel_rfl
structure J3 (Y:Fz) (i:Nat) (σ:Sig):Prop where
 i0:σ.ival 0=i
 n4:σ.ival 4=((catL Y Y.len).length:Int)
 s5:σ.sval 5=bs (catL Y Y.len)
 n6:σ.ival 6=(Y.len:Int)+1
 s7:σ.sval 7=posB Y Y.len
 s3:(σ.sval 3).size≤9223372036854775807
 a8:σ.ival 8=((catL Y i).length:Int)
theorem J3.agree {Y:Fz} {i:Nat} {σ τ:Sig} (ag:Agree 9 σ τ) (h:J3 Y i σ):J3 Y i τ:=
 ⟨by rw [←(ag.val 0 (by decide)).1];exact h.i0,by rw [←(ag.val 4 (by decide)).1];exact h.n4,by rw [←(ag.val 5 (by decide)).2.2];exact h.s5,by rw [←(ag.val 6 (by decide)).1];exact h.n6,by rw [←(ag.val 7 (by decide)).2.2];exact h.s7,by rw [←(ag.val 3 (by decide)).2.2];exact h.s3,by rw [←(ag.val 8 (by decide)).1];exact h.a8⟩
theorem rowsN {E:Nat→Option Fz} {Y:Fz} (hY:Yk E Y) {τ:Sig} (h:RowE E Y τ):RowsOk τ [⟨.symi .i64 1,[]⟩]:=by
 intro i r Z hr hZ
 have hr0:i=0:=by
  cases i with
  |zero=>rfl
  |succ i=>simp at hr
 subst hr0
 rw [h.ext] at hZ
 have:=hY.ext Z hZ
 subst this
 simp only [List.getElem?_cons_zero,Option.some.injEq] at hr
 subst hr
 exact ⟨by show AVal.int .i64 _=_;rw [h.len],fun p hp=>by cases hp⟩
set_option maxHeartbeats 1000000 in
theorem stC {W:World} {E:Nat→Option Fz} {Y:Fz} (hY:Yk E Y) (hD:Stage Tryd.prog wnTab 165 W (WZ W) ((flatC (bodyOf Tryd.f6)).drop 10) wbS3 9 wbK3 (fun σ=>RowE E Y σ∧ ∃i,J3 Y i σ)):
  Stage Tryd.prog wnTab 165 W (WZ W) ((flatC (bodyOf Tryd.f6)).drop 8) wbS1 8 wbK1 (fun σ=>RowE E Y σ∧J1 Y Y.len σ):=by
 rw [show (flatC (bodyOf Tryd.f6)).drop 8=((flatC (bodyOf Tryd.f6)).drop 8).take 2++(flatC (bodyOf Tryd.f6)).drop 10 from rfl]
 refine Stage.seg (q2:=9) (ins2:=wbK3) (S2:=wbS3) (J2:=fun σ=>RowE E Y σ∧ ∃i,J3 Y i σ) mixed wbC_seg ⟨rfl,rfl⟩ (fun σ τ ag h=>⟨h.1.agree (by decide) ag,h.2.agree ag⟩) (fun τ h=>rowsN hY h.1) hD (fun τ e ht hi hj=> ?_)
 obtain ⟨hr,hj⟩:=hj
 refine segsPw_segs ?_
 have b8:τ.bval 8=decide ((0:Int)<τ.ival 4):=eqB (e.at 0 _ rfl rfl) rfl
 have hn4:=hj.n4
 have fin: ∀a,den τ a=den τ (.syms 5)→J3 Y 0 (asgS τ ([(2,.symi .u16 2),(3,.syms 3),(4,.symi .i64 4),(6,.symi .i64 6),(0,.int .i64 0),(5,.syms 5),(4,.symi .i64 4),(7,.syms 7),(6,.symi .i64 6),(5,a),(8,.int .i64 0)]++[(1,.symi .i64 1)])):=fun a _=>
  ⟨rfl,hj.n4,hj.s5,hj.n6,hj.s7,hj.s3,rfl⟩
 refine ⟨fun f8=> ?_,fun f8=> ?_⟩
 ·exact .inl ⟨rfl,rfl,insOk_kt (X:=wbCX) e hi (by kernel_rfl) (by kernel_rfl),⟨⟨extS hr.ext,hr.len,Int.le_refl 0,Int.natCast_nonneg _⟩,0,fin (.syms 5) rfl⟩,tabS ht⟩
 ·have h0:τ.sval 5=.empty:=by
   rw [b8,decide_eq_false_iff_not] at f8
   have:catL Y Y.len=[]:=List.eq_nil_of_length_eq_zero (by omega)
   rw [hj.s5,this]
   rfl
  have hd:den τ (.str ⟨#[]⟩)=den τ (.syms 5):=by
   show AVal.str .empty=AVal.str (τ.sval 5)
   rw [h0]
  refine ⟨EqsL_of fun p hp y hy=> ?_,.inl ⟨rfl,rfl,insOk_kt (X:=wbCX) e hi (by kernel_rfl) (by kernel_rfl),⟨⟨extS hr.ext,hr.len,Int.le_refl 0,Int.natCast_nonneg _⟩,0,fin (.str ⟨#[]⟩) hd⟩,tabS ht⟩⟩
  simp only [List.mem_cons,List.not_mem_nil,or_false] at hp
  rcases hp with rfl|rfl|rfl|rfl|rfl|rfl|rfl|rfl|rfl|rfl|rfl
  all_goals first
   |(cases (show some _=some y from hy);rfl)
   |(cases (show some _=some y from hy);exact hd)
abbrev LD (W:World) (E:Nat→Option Fz) (Y:Fz) (k:Nat):Exit→Act→World→Prop:=LoopZ Tryd.prog 2 ((flatC (bodyOf Tryd.f6)).drop 11) (WZ W) (InvF wnTab 165 W (fun _:Unit=>wbS3) 9 wbK3 (fun _ σ=>RowE E Y σ∧ ∃i,J3 Y i σ) (fun σ=>((Y.len:Int)-σ.ival 0).toNat)) k
set_option maxHeartbeats 1000000 in
theorem stD {W:World} {E:Nat→Option Fz} {Y:Fz} (hY:Yk E Y) (hE:Stage Tryd.prog wnTab 165 W (WZ W) ((flatC (bodyOf Tryd.f6)).drop 11) wbS3 9 wbK3 (fun σ=>RowE E Y σ∧J3 Y Y.len σ)) (k:Nat):
  Stage Tryd.prog wnTab 165 W (LD W E Y k) [loopAt 10 (bodyOf Tryd.f6)] wbS3 (9+clT.length) (wbK3++clT.map kindS) (fun τ=>RowSEl 9 E clT Y τ∧(∃i,J3 Y i τ)∧((Y.len:Int)-τ.ival 0).toNat=k):=by
 refine Stage.last mixed wbD_seg ⟨rfl,rfl⟩ (fun σ τ ag h=>⟨h.1.agree ag,(let ⟨i,hi⟩:=h.2.1;⟨i,hi.agree (ag.less (by decide))⟩),by rw [←(ag.val 0 (by decide)).1];exact h.2.2⟩) (fun τ h=>h.1.rows hY.els hY.ext (by decide)) (fun τ e ht hi hj=> ?_)
 obtain ⟨hrow,⟨i,hj⟩,hk⟩:=hj
 have hr:=hrow.hd (by decide)
 refine segsPw_segs ?_
 have hi0:=hj.i0
 have hn4:=hj.n4
 have hn6:=hj.n6
 have ha8:=hj.a8
 have hlen:=hr.len
 have hhi:=hr.hi
 have h30:=hY.len
 have b12:τ.bval 12= !(τ.tab 320 [τ.ival 9,τ.ival 10,encB (τ.sval 11),encB (τ.sval 5),τ.ival 8]==0):=eqFnb (e.at 0 _ rfl rfl)
 have b13:τ.bval 13=decide (τ.ival 0<τ.ival 1):=eqB (e.at 1 _ rfl rfl) rfl
 have b14:τ.bval 14=decide ((0:Int)≤τ.ival 0):=eqB (e.at 2 _ rfl rfl) rfl
 have b15:τ.bval 15=decide (τ.ival 0<τ.ival 6):=eqB (e.at 3 _ rfl rfl) rfl
 have b17:τ.bval 17= !((τ.ival 8:Int)==τ.ival 16):=eqB (e.at 5 _ rfl rfl) rfl
 have tr: ∀{P:Prop} {b:Bool} [Decidable P],b=decide P→b=false→P→False:=fun hb hf hp=>by rw [hb,decide_eq_false_iff_not] at hf;exact hf hp
 have trT: ∀{P:Prop} {b:Bool} [Decidable P],b=decide P→b=true→ ¬P→False:=fun hb hf hp=>by rw [hb,decide_eq_true_eq] at hf;exact hp hf
 have trN: ∀{x y:Int} {b:Bool},b=(!(x==y))→b=true→x=y→False:=fun hb hf hp=>by rw [hb,hp] at hf;simp at hf
 refine ⟨fun f13=> ?_,fun f13=> ?_⟩
 ·rw [b13,decide_eq_true_eq] at f13
  have hlt:i<Y.len:=by omega
  have hth:=thing (by decide) hrow hi0 hlt
  have ht1:=thL_len (τ.ival 9) (τ.ival 10) (τ.sval 11)
  have hcs:=catL_succ Y i
  have hc1:=hY.cat (i+1) (by omega)
  have hcn:=hY.cat Y.len (Nat.le_refl _)
  have q12:τ.bval 12=true:=by
   rw [b12,ht,tab_rd,hth,hj.s5,ha8]
   exact ⟨by rw [bs_size];omega,catL_has Y hlt⟩
  have i16:τ.ival 16=((catL Y i).length:Int):=by
   have h:=eqCellP (m:=i) (e.at 4 _ rfl rfl) (show den τ (.symi .i64 0)=_ by rw [←hi0];rfl)
   have h:rowAtD [some .i64] (τ.sval 7) i 0=.int .i64 (τ.ival 16):=h
   rw [hj.s7,posB_at Y (fun m hm=>by have:=hY.cat m hm;omega) (by omega),AVal.int.injEq] at h
   exact h.2.symm
  have i18:τ.ival 18=IntKind.i64.wrap (τ.tab 257 [τ.ival 9,τ.ival 10,encB (τ.sval 11)]):=eqFn (e.at 6 _ rfl rfl)
  have i19:τ.ival 19=IntKind.i64.wrap (τ.ival 8+τ.ival 18):=eqI (e.at 7 _ rfl rfl) rfl
  have i20:τ.ival 20=IntKind.i64.wrap (τ.ival 0+1):=eqI (e.at 8 _ rfl rfl) rfl
  rw [ht,tab_tl,hth,wr_i64] at i18
  rw [hth] at ht1
  rw [wr_i64] at i19 i20
  refine ⟨fun _=>⟨fun _=>⟨fun _=>⟨fun f17=>trN b17 f17 (by omega),fun _=> ?_⟩,fun f=>tr b15 f (by omega)⟩,fun f=>tr b14 f (by omega)⟩,fun f=>by rw [q12] at f;cases f⟩
  refine EndZ.loopF () rfl (insOk_kt (X:=wbDX) e hi (by kernel_rfl) (by kernel_rfl)) ⟨⟨extS hr.ext,hr.len,?_,?_⟩,i+1,?_,hj.n4,hj.s5,hj.n6,hj.s7,hj.s3,?_⟩ (tabS ht) ?_
  ·show 0≤τ.ival 20
   omega
  ·show τ.ival 20≤_
   omega
  ·show τ.ival 20=_
   omega
  ·show τ.ival 19=_
   omega
  ·show ((Y.len:Int)-τ.ival 20).toNat<k
   omega
 ·rw [b13,decide_eq_false_iff_not] at f13
  have hn:i=Y.len:=by omega
  subst hn
  exact EndZ.out (by simp) (EndZ.blk hE (.inr rfl) (insOk_kt (X:=wbDX) e hi (by kernel_rfl) (by kernel_rfl)) ⟨⟨extS hr.ext,hr.len,hr.lo,hr.hi⟩,hj.i0,hj.n4,hj.s5,hj.n6,hj.s7,hj.s3,hj.a8⟩ (tabS ht))
end Go.Proofs.YtapfkgenachpgaaDoor.wb
