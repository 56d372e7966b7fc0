/-
 WireBack's stages: the first loop lays.
 No conditions.
-/
import Derived.Test.YtapfkgenachpgaaDoorWb26c
import Derived.Test.YtapfkgenachpgaaDoorWb25
import Derived.Test.YtapfkgenachpgaaDoorWbr
namespace Go.Proofs.YtapfkgenachpgaaDoor.wb
open Go.Ev Go.RowKit Go.Wbp
open Go.Proofs.YtapfkgenachpgaaDoor.wn (mixed sf48 wnTbl)
set_option linter.unusedVariables false
set_option linter.unusedSimpArgs false
set_option maxRecDepth 100000 in
def wbBG:List SDef:=[.bin .leq (.int .i64 0) (.symi .i64 4),
 .bin .leq (.symi .i64 4) (.int .i64 1000000),
 .bin .lss (.symi .i64 0) (.symi .i64 1),
 .bin .leq (.int .i64 0) (.symi .i64 0),
 .sop (.fs 256) [.symi .u8 8,.symi .u64 9,.syms 10],
 .sop .cat [.syms 5,.syms 15],
 .fn 257 .i64 [.symi .u8 8,.symi .u64 9,.syms 10],
 .bin .add (.symi .i64 4) (.symi .i64 17),
 .sop (.row [.some .i64]) [.symi .i64 18],
 .sop .cat [.syms 7,.syms 19],
 .bin .add (.symi .i64 6) (.int .i64 1),
 .bin .leq (.int .i64 0) (.symi .i64 21),
 .bin .leq (.symi .i64 21) (.int .i64 17592186044416),
 .bin .add (.symi .i64 0) (.int .i64 1)]
set_option maxRecDepth 100000 in
def wbBT:LT:=.n (.n (.n (.n (.e) 30227 14 (.bin .leq (.int .i64 0) (.symi .i64 0)) (.e)) 60352 24 (.bin .add (.symi .i64 0) (.int .i64 1)) (.n (.e) 109970105 16 (.sop .cat [.syms 5,.syms 15]) (.e))) 299702712 11 (.bin .leq (.int .i64 0) (.symi .i64 4)) (.n (.n (.e) 343384000 13 (.bin .lss (.symi .i64 0) (.symi .i64 1)) (.e)) 376864788 15 (.sop (.fs 256) [.symi .u8 8,.symi .u64 9,.syms 10]) (.n (.e) 552618368 17 (.fn 257 .i64 [.symi .u8 8,.symi .u64 9,.syms 10]) (.e)))) 606062170 21 (.bin .add (.symi .i64 6) (.int .i64 1)) (.n (.n (.n (.e) 735438285 23 (.bin .leq (.symi .i64 21) (.int .i64 17592186044416)) (.e)) 751653946 20 (.sop .cat [.syms 7,.syms 19]) (.n (.e) 768004403 22 (.bin .leq (.int .i64 0) (.symi .i64 21)) (.e))) 858531118 19 (.sop (.row [.some .i64]) [.symi .i64 18]) (.n (.n (.e) 872333234 18 (.bin .add (.symi .i64 4) (.symi .i64 17)) (.e)) 1046887585 12 (.bin .leq (.symi .i64 4) (.int .i64 1000000)) (.e)))
set_option maxRecDepth 100000 in
def wbBW:Sw:=.node 11 (.node 12 (.node 14 (.run (.node 13 (.node 22 (.node 23 (.leaf .normal wbS1 [(2,0),(4,0)] [(2,.symi .u16 2),(3,.syms 3),(4,.symi .i64 18),(6,.symi .i64 21),(0,.symi .i64 24),(5,.syms 16),(4,.symi .i64 18),(7,.syms 20),(6,.symi .i64 21)] [(1,.symi .i64 1)]) (.dead)) (.dead)) (.leaf (.exit 0) wbS1 [(0,0),(1,0)] [(2,.symi .u16 2),(3,.syms 3),(4,.symi .i64 4),(6,.symi .i64 6),(0,.symi .i64 0),(5,.syms 5),(4,.symi .i64 4),(7,.syms 7),(6,.symi .i64 6)] [(1,.symi .i64 1)]))) (.dead)) (.dead)) (.dead)
def wbBKd:KdT:=.n (.n (.n (.n (.n .e none .e) none (.n .e none .e)) none (.n (.n .e none .e) none .e)) (some .i64) (.n (.n (.n .e (some .i64) .e) (some .u64) .e) none (.n (.n .e (some .i64) .e) none .e))) (some .i64) (.n (.n (.n (.n .e none .e) (some .u8) (.n .e (some .i64) .e)) (some .i64) (.n (.n .e none .e) none .e)) (some .u16) (.n (.n (.n .e (some .i64) .e) none .e) (some .i64) (.n (.n .e none .e) none .e)))
noncomputable def wbBY:Ing:={m:=11,ins:=(wbK1++wbEl),G:=wbBG,T:=wbBT,tab:=wnTab,lsts:=wbLst,kb:=25,kt:=wbBKd,rows:=[⟨.symi .i64 1,[(.symi .i64 0,[.symi .u8 8,.symi .u64 9,.syms 10])]⟩]}
noncomputable def wbBX:Ing:={m:=11,ins:=(wbK1++wbEl),G:=wbBG,T:=wbBT,tab:=wnTab,lsts:=wbLst,kb:=25,kt:=wbBKd,rows:=[⟨.symi .i64 1,[(.symi .i64 0,[.symi .u8 8,.symi .u64 9,.syms 10])]⟩],mh:=symMf (kdX wbBY) [sf25]}
theorem wbB_lt:okLT 11 wbBG wbBT=true:=by kernel_rfl
theorem wbB_ok:okG wbBG 11=true:=by kernel_rfl
theorem wbB_hooks (F:List Fact):Hooks Tryd.prog (cxOf wbBX F) where
 val:=fun f args v h=>by simp only [wbBX,cxOf,noHook,reduceCtorEq] at h
 mem:=fun f args hp v hp' h=>by
  replace h:(symMf (kdX wbBY) [sf25]) (symS (baseOf wbBX F)) f args hp=some (v,hp'):=h
  exact mem_symF (X:=wbBX) (tbl:=[sf25]) (inv:=fun _=>True) (fun e he=>by
   simp only [List.mem_cons,List.not_mem_nil,or_false] at he
   rcases he with rfl
   ·exact c25) wbB_lt rfl (fun _ _ _ _=>trivial) F f args hp v hp' h
 ovl:=fun f k h=>by simp only [wbBX,cxOf,reduceCtorEq] at h
 atm:=fun k b h=>by simp only [wbBX,cxOf,List.not_mem_nil] at h
theorem wbB_seg:SegOk Tryd.prog wnTab 165 ([loopAt 7 (bodyOf Tryd.f6)]) wbS1 wbBX wbBW where
 lt:=wbB_lt
 ok:=wbB_ok
 hook:=wbB_hooks
 n0:=rfl
 id:=by kernel_rfl
 reck:=by kernel_rfl
 tab:=rfl
 cuts:=rfl
 kt:=by kernel_rfl
abbrev WZ (W:World):Exit→Act→World→Prop:=bodyPost Tryd.prog Tryd.f6 fun e W'=>e=.returned (.bool true)∧Below W.heap.size W W'
structure Yk (E:Nat→Option Fz) (Y:Fz):Prop where
 els:RowElS clT Y
 len:Y.len≤30
 ext: ∀Z,E 0=some Z→Z=Y
theorem Yk.cat {E:Nat→Option Fz} {Y:Fz} (h:Yk E Y) (i:Nat) (hi:i≤Y.len):(catL Y i).length≤3210:=by
 have:=catL_len Y i
 have:=h.len
 omega
structure J1 (Y:Fz) (i:Nat) (σ:Sig):Prop where
 i0:σ.ival 0=i
 n4:σ.ival 4=((catL Y i).length:Int)
 s5:σ.sval 5=bs (catL Y i)
 n6:σ.ival 6=(i:Int)+1
 s7:σ.sval 7=posB Y i
 s3:(σ.sval 3).size≤9223372036854775807
theorem J1.agree {Y:Fz} {i:Nat} {σ τ:Sig} (ag:Agree 8 σ τ) (h:J1 Y i σ):J1 Y i τ:=
 ⟨by rw [←(ag.val 0 (by decide)).1];exact h.i0,by rw [←(ag.val 4 (by decide)).1];exact h.n4,by rw [←(ag.val 5 (by decide)).2.2];exact h.s5,by rw [←(ag.val 6 (by decide)).1];exact h.n6,by rw [←(ag.val 7 (by decide)).2.2];exact h.s7,by rw [←(ag.val 3 (by decide)).2.2];exact h.s3⟩
theorem thing {E:Nat→Option Fz} {Y:Fz} {q:Nat} (h2q:2≤q) {τ:Sig} (h:RowSEl q E clT Y τ) {i:Nat} (hi:τ.ival 0=i) (hlt:i<Y.len):thL (τ.ival q) (τ.ival (q+1)) (τ.sval (q+2))=tL Y i:=by
 obtain ⟨a,_,_⟩:=h.at h2q hi hlt (j:=0) (by decide)
 obtain ⟨b,_,_⟩:=h.at h2q hi hlt (j:=1) (by decide)
 obtain ⟨_,_,c⟩:=h.at h2q hi hlt (j:=2) (by decide)
 rw [Nat.add_zero] at a
 rw [a,b,c]
 rfl
abbrev LB (W:World) (E:Nat→Option Fz) (Y:Fz) (k:Nat):Exit→Act→World→Prop:=LoopZ Tryd.prog 0 ((flatC (bodyOf Tryd.f6)).drop 8) (WZ W) (InvF wnTab 165 W (fun _:Unit=>wbS1) 8 wbK1 (fun _ σ=>RowE E Y σ∧ ∃i,J1 Y i σ) (fun σ=>((Y.len:Int)-σ.ival 0).toNat)) k
set_option maxHeartbeats 1000000 in
theorem stB {W:World} {E:Nat→Option Fz} {Y:Fz} (hY:Yk E Y) (hC:Stage Tryd.prog wnTab 165 W (WZ W) ((flatC (bodyOf Tryd.f6)).drop 8) wbS1 8 wbK1 (fun σ=>RowE E Y σ∧J1 Y Y.len σ)) (k:Nat):
  Stage Tryd.prog wnTab 165 W (LB W E Y k) [loopAt 7 (bodyOf Tryd.f6)] wbS1 (8+clT.length) (wbK1++clT.map kindS) (fun τ=>RowSEl 8 E clT Y τ∧(∃i,J1 Y i τ)∧((Y.len:Int)-τ.ival 0).toNat=k):=by
 refine Stage.last mixed wbB_seg ⟨rfl,rfl⟩ (fun σ τ ag h=>⟨h.1.agree ag,(let ⟨i,hi⟩:=h.2.1;⟨i,hi.agree (ag.less (by decide))⟩),by rw [←(ag.val 0 (by decide)).1];exact h.2.2⟩) (fun τ h=>h.1.rows hY.els hY.ext (by decide)) (fun τ e ht hi hj=> ?_)
 obtain ⟨hrow,⟨i,hj⟩,hk⟩:=hj
 have hr:=hrow.hd (by decide)
 refine segsPw_segs ?_
 have hi0:=hj.i0
 have hn4:=hj.n4
 have hn6:=hj.n6
 have hlen:=hr.len
 have hhi:=hr.hi
 have h30:=hY.len
 have hc:=hY.cat i (by omega)
 have b11:τ.bval 11=decide ((0:Int)≤τ.ival 4):=eqB (e.at 0 _ rfl rfl) rfl
 have b12:τ.bval 12=decide (τ.ival 4≤1000000):=eqB (e.at 1 _ rfl rfl) rfl
 have b13:τ.bval 13=decide (τ.ival 0<τ.ival 1):=eqB (e.at 2 _ rfl rfl) rfl
 have b14:τ.bval 14=decide ((0:Int)≤τ.ival 0):=eqB (e.at 3 _ rfl rfl) rfl
 have tr: ∀{P:Prop} {b:Bool} [Decidable P],b=decide P→b=false→P→False:=fun hb hf hp=>by rw [hb,decide_eq_false_iff_not] at hf;exact hf hp
 refine ⟨fun _=>⟨fun _=>⟨fun _=>⟨fun f13=> ?_,fun f13=> ?_⟩,fun f=>tr b14 f (by omega)⟩,fun f=>tr b12 f (by omega)⟩,fun f=>tr b11 f (by omega)⟩
 ·rw [b13,decide_eq_true_eq] at f13
  have hlt:i<Y.len:=by omega
  have hth:=thing (by decide) hrow hi0 hlt
  have ht1:=thL_len (τ.ival 8) (τ.ival 9) (τ.sval 10)
  have hcs:=catL_succ Y i
  have hc1:=hY.cat (i+1) (by omega)
  have s15:τ.sval 15=decS (τ.tab 256 [τ.ival 8,τ.ival 9,encB (τ.sval 10)]):=eqFs (e.at 4 _ rfl rfl)
  have s16:τ.sval 16=τ.sval 5++τ.sval 15:=eqCat (e.at 5 _ rfl rfl) rfl rfl
  have i17:τ.ival 17=IntKind.i64.wrap (τ.tab 257 [τ.ival 8,τ.ival 9,encB (τ.sval 10)]):=eqFn (e.at 6 _ rfl rfl)
  have i18:τ.ival 18=IntKind.i64.wrap (τ.ival 4+τ.ival 17):=eqI (e.at 7 _ rfl rfl) rfl
  have s20:τ.sval 20=τ.sval 7++τ.sval 19:=eqCat (e.at 9 _ rfl rfl) rfl rfl
  have i21:τ.ival 21=IntKind.i64.wrap (τ.ival 6+1):=eqI (e.at 10 _ rfl rfl) rfl
  have b22:τ.bval 22=decide ((0:Int)≤τ.ival 21):=eqB (e.at 11 _ rfl rfl) rfl
  have b23:τ.bval 23=decide (τ.ival 21≤17592186044416):=eqB (e.at 12 _ rfl rfl) rfl
  have i24:τ.ival 24=IntKind.i64.wrap (τ.ival 0+1):=eqI (e.at 13 _ rfl rfl) rfl
  rw [ht,tab_th,hth] at s15
  rw [ht,tab_tl,hth,wr_i64] at i17
  rw [hth] at ht1
  rw [wr_i64] at i18 i21 i24
  have e18:τ.ival 18=((catL Y (i+1)).length:Int):=by omega
  have s19:τ.sval 19=posR (catL Y (i+1)).length:=by
   have h:τ.sval 19=_:=eqRow (e.at 8 _ rfl rfl)
   rw [h]
   show (⟨(rowB [some .i64] [.int .i64 (τ.ival 18)]).toArray⟩:ByteArray)=_
   rw [e18]
   rfl
  have e16:τ.sval 16=bs (catL Y (i+1)):=by
   rw [s16,s15,hj.s5,bs_append]
   rfl
  have e20:τ.sval 20=posB Y (i+1):=by
   rw [s20,s19,hj.s7]
   rfl
  refine ⟨fun _=>⟨fun _=> ?_,fun f=>tr b23 f (by omega)⟩,fun f=>tr b22 f (by omega)⟩
  refine EndZ.loopF () rfl (insOk_kt (X:=wbBX) e hi (by kernel_rfl) (by kernel_rfl)) ⟨⟨extS hr.ext,hr.len,?_,?_⟩,i+1,?_,?_,e16,?_,e20,hj.s3⟩ (tabS ht) ?_
  ·show 0≤τ.ival 24
   omega
  ·show τ.ival 24≤_
   omega
  ·show τ.ival 24=_
   omega
  ·show τ.ival 18=_
   exact e18
  ·show τ.ival 21=_
   omega
  ·show ((Y.len:Int)-τ.ival 24).toNat<k
   omega
 ·rw [b13,decide_eq_false_iff_not] at f13
  have hn:i=Y.len:=by omega
  subst hn
  exact EndZ.out (by simp) (EndZ.blk hC (.inr rfl) (insOk_kt (X:=wbBX) e hi (by kernel_rfl) (by kernel_rfl)) ⟨⟨extS hr.ext,hr.len,hr.lo,hr.hi⟩,hj.i0,hj.n4,hj.s5,hj.n6,hj.s7,hj.s3⟩ (tabS ht))
end Go.Proofs.YtapfkgenachpgaaDoor.wb
