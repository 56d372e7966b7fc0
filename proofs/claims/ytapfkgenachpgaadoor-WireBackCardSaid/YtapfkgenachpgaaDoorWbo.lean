/-
 WireBack's stages: the row that is cut.
 No conditions.
-/
import Derived.Test.YtapfkgenachpgaaDoorWbm
import Derived.Test.YtapfkgenachpgaaDoorFa
set_option maxRecDepth 100000
namespace Go.Proofs.YtapfkgenachpgaaDoor.wb
open Go.Ev Go.RowKit Go.Wbp
open Go.Proofs.YtapfkgenachpgaaDoor.fa
open Go.Proofs.YtapfkgenachpgaaDoor.wn (mixed sf48 wnTbl)
set_option linter.unusedVariables false
set_option linter.unusedSimpArgs false
def wbFG:List SDef:=[.bin .lss (.symi .i64 0) (.symi .i64 1),
 .bin .add (.symi .i64 0) (.int .i64 1),
 .sop (.cell [.some .i64] 0) [.syms 7,.symi .i64 13],
 .bin .leq (.symi .i64 14) (.symi .i64 2),
 .fnb 320 [.symi .u8 9,.symi .u64 10,.syms 11,.syms 5,.symi .i64 8],
 .bin .leq (.int .i64 0) (.symi .i64 13),
 .bin .lss (.symi .i64 13) (.symi .i64 6),
 .bin .leq (.int .i64 0) (.symi .i64 0),
 .fn 257 .i64 [.symi .u8 9,.symi .u64 10,.syms 11],
 .bin .add (.symi .i64 8) (.symi .i64 20)]
def wbFT:LT:=.n (.n (.n (.n (.e) 30227 19 (.bin .leq (.int .i64 0) (.symi .i64 0)) (.e)) 60352 13 (.bin .add (.symi .i64 0) (.int .i64 1)) (.e)) 151930348 18 (.bin .lss (.symi .i64 13) (.symi .i64 6)) (.n (.n (.e) 158911526 21 (.bin .add (.symi .i64 8) (.symi .i64 20)) (.e)) 168659433 17 (.bin .leq (.int .i64 0) (.symi .i64 13)) (.e))) 343384000 12 (.bin .lss (.symi .i64 0) (.symi .i64 1)) (.n (.n (.n (.e) 654336295 16 (.fnb 320 [.symi .u8 9,.symi .u64 10,.syms 11,.syms 5,.symi .i64 8]) (.e)) 717527844 20 (.fn 257 .i64 [.symi .u8 9,.symi .u64 10,.syms 11]) (.e)) 824687990 14 (.sop (.cell [.some .i64] 0) [.syms 7,.symi .i64 13]) (.n (.e) 1027000000 15 (.bin .leq (.symi .i64 14) (.symi .i64 2)) (.e)))
def wbFW:Sw:=.node 12 (.node 15 (.node 16 (.node 17 (.node 18 (.node 19 (.run (.leaf .normal wbS4 [(0,0),(1,0)] [(3,.syms 3),(6,.symi .i64 6),(2,.symi .i64 2),(0,.symi .i64 13),(0,.symi .i64 13),(7,.syms 7),(6,.symi .i64 6),(5,.syms 5),(8,.symi .i64 21)] [(1,.symi .i64 1),(4,.syms 4)])) (.dead)) (.dead)) (.dead)) (.dead)) (.node 17 (.node 18 (.run (.leaf (.exit 4) wbS4 [(0,0),(1,0)] [(3,.syms 3),(6,.symi .i64 6),(2,.symi .i64 2),(0,.symi .i64 0),(0,.symi .i64 0),(7,.syms 7),(6,.symi .i64 6),(5,.syms 5),(8,.symi .i64 8)] [(1,.symi .i64 1),(4,.syms 4)])) (.dead)) (.dead))) (.run (.leaf (.exit 4) wbS4 [(0,0),(1,0)] [(3,.syms 3),(6,.symi .i64 6),(2,.symi .i64 2),(0,.symi .i64 0),(0,.symi .i64 0),(7,.syms 7),(6,.symi .i64 6),(5,.syms 5),(8,.symi .i64 8)] [(1,.symi .i64 1),(4,.syms 4)]))
def wbFKd:KdT:=.n (.n (.n (.n (.n .e none .e) none .e) none (.n (.n .e none .e) none .e)) (some .i64) (.n (.n (.n .e none .e) (some .u8) .e) none (.n (.n .e (some .i64) .e) (some .i64) .e))) (some .i64) (.n (.n (.n (.n .e none .e) (some .i64) .e) none (.n (.n .e (some .i64) .e) none .e)) (some .i64) (.n (.n (.n .e none .e) (some .u64) .e) (some .i64) (.n .e (some .i64) .e)))
noncomputable def wbFY:Ing:={m:=12,ins:=(wbK4++wbEl),G:=wbFG,T:=wbFT,tab:=wnTab,lsts:=wbLst,kb:=22,kt:=wbFKd,rows:=[⟨.symi .i64 1,[(.symi .i64 0,elT)]⟩]}
noncomputable def wbFX:Ing:={m:=12,ins:=(wbK4++wbEl),G:=wbFG,T:=wbFT,tab:=wnTab,lsts:=wbLst,kb:=22,kt:=wbFKd,rows:=[⟨.symi .i64 1,[(.symi .i64 0,elT)]⟩],mh:=symMf (kdX wbFY) [sf26]}
theorem wbF_lt:okLT 12 wbFG wbFT=true:=by kernel_rfl
theorem wbF_ok:okG wbFG 12=true:=by kernel_rfl
theorem wbF_hooks (F:List Fact):Hooks Tryd.prog (cxOf wbFX F) where
 val:=fun f args v h=>by simp only [wbFX,cxOf,noHook,reduceCtorEq] at h
 mem:=fun f args hp v hp' h=>by
  replace h:(symMf (kdX wbFY) [sf26]) (symS (baseOf wbFX F)) f args hp=some (v,hp'):=h
  exact mem_symF (X:=wbFX) (tbl:=[sf26]) (inv:=fun _=>True) (fun e he=>by
   simp only [List.mem_cons,List.not_mem_nil,or_false] at he
   rcases he with rfl
   ·exact c26) wbF_lt rfl (fun _ _ _ _=>trivial) F f args hp v hp' h
 ovl:=fun f k h=>by simp only [wbFX,cxOf,reduceCtorEq] at h
 atm:=fun k b h=>by simp only [wbFX,cxOf,List.not_mem_nil] at h
theorem wbF_seg:SegOk Tryd.prog wnTab 165 ([loopAt 17 (bodyOf Tryd.f6)]) wbS4 wbFX wbFW where
 lt:=wbF_lt
 ok:=wbF_ok
 hook:=wbF_hooks
 n0:=rfl
 id:=by kernel_rfl
 reck:=by kernel_rfl
 tab:=rfl
 cuts:=rfl
 kt:=by kernel_rfl
def wbGG:List SDef:=[.bin .lss (.symi .i64 0) (.symi .i64 1),
 .fnb 321 [.symi .u8 9,.symi .u64 10,.syms 11,.syms 5,.symi .i64 8],
 .bin .leq (.int .i64 0) (.symi .i64 0),
 .fnb 322 [.symi .u8 9,.symi .u64 10,.syms 11],
 .bin .lss (.symi .i64 0) (.symi .i64 6),
 .sop (.cell [.some .i64] 0) [.syms 7,.symi .i64 0],
 .all [(.symi .i64 8,.symi .i64 17)],
 .un .not (.symb 18),
 .bin .neq (.symi .i64 8) (.symi .i64 17),
 .sop .len [.syms 3],
 .low [.symi .i64 21,.int .i64 100],
 .bin .leq (.int .i64 0) (.symi .i64 22),
 .bin .leq (.symi .i64 22) (.symi .i64 21),
 .sop .sub [.syms 3,.int .i64 0,.symi .i64 22]]
def wbGT:LT:=.n (.n (.n (.n (.e) 30227 14 (.bin .leq (.int .i64 0) (.symi .i64 0)) (.e)) 37616154 23 (.bin .leq (.int .i64 0) (.symi .i64 22)) (.n (.e) 40529956 18 (.all [(.symi .i64 8,.symi .i64 17)]) (.e))) 95479361 17 (.sop (.cell [.some .i64] 0) [.syms 7,.symi .i64 0]) (.n (.n (.e) 101288081 22 (.low [.symi .i64 21,.int .i64 100]) (.e)) 202592703 20 (.bin .neq (.symi .i64 8) (.symi .i64 17)) (.n (.e) 343384000 12 (.bin .lss (.symi .i64 0) (.symi .i64 1)) (.e)))) 501025623 21 (.sop .len [.syms 3]) (.n (.n (.n (.e) 561877676 15 (.fnb 322 [.symi .u8 9,.symi .u64 10,.syms 11]) (.e)) 654336348 13 (.fnb 321 [.symi .u8 9,.symi .u64 10,.syms 11,.syms 5,.symi .i64 8]) (.n (.e) 744318893 19 (.un .not (.symb 18)) (.e))) 767947149 25 (.sop .sub [.syms 3,.int .i64 0,.symi .i64 22]) (.n (.n (.e) 842527617 24 (.bin .leq (.symi .i64 22) (.symi .i64 21)) (.e)) 986410063 16 (.bin .lss (.symi .i64 0) (.symi .i64 6)) (.e)))
def wbGW:Sw:=.node 12 (.node 13 (.node 14 (.run (.node 16 (.node 19 (.dead) (.node 20 (.dead) (.node 23 (.node 24 (.leaf .normal wbS5 [(3,0),(1000001,0)] [(0,.syms 25),(2,.int .i64 0),(0,.syms 25),(1,.int .i64 0),(3,.str ⟨#[]⟩),(2,.int .i64 0)] []) (.dead)) (.dead)))) (.dead))) (.dead)) (.dead)) (.node 23 (.node 24 (.run (.leaf .normal wbS5 [(2,0),(1000001,0)] [(0,.syms 25),(2,.int .i64 0),(0,.syms 25),(1,.int .i64 0),(3,.str ⟨#[]⟩),(2,.int .i64 0)] [])) (.dead)) (.dead))
def wbGKd:KdT:=.n (.n (.n (.n (.n .e none .e) none (.n .e none .e)) none (.n (.n .e none .e) none .e)) (some .i64) (.n (.n (.n .e (some .i64) .e) (some .u8) (.n .e none .e)) none (.n (.n .e none .e) none .e))) (some .i64) (.n (.n (.n (.n .e none .e) (some .i64) (.n .e none .e)) none (.n (.n .e none .e) none .e)) (some .i64) (.n (.n (.n .e none .e) (some .u64) .e) (some .i64) (.n (.n .e none .e) none .e)))
noncomputable def wbGY:Ing:={m:=12,ins:=(wbK4++wbEl),G:=wbGG,T:=wbGT,tab:=wnTab,lsts:=wbLst,kb:=26,kt:=wbGKd,rows:=[⟨.symi .i64 1,[(.symi .i64 0,elT)]⟩],inv:=OwnInv 0 isErr}
noncomputable def wbGX:Ing:={wbGY with mh:=orMh (asMh Tryd.prog 45 74 76 46 40) (symMf (kdX wbGY) [sf26c])}
theorem wbG_lt:okLT 12 wbGG wbGT=true:=by kernel_rfl
theorem wbG_ok:okG wbGG 12=true:=by kernel_rfl
theorem wbG_hooks (F:List Fact):Hooks Tryd.prog (cxOf wbGX F) where
 val:=fun f args v h=>by simp only [wbGX,wbGY,cxOf,noHook,reduceCtorEq] at h
 mem:=fun f args hp v hp' h=>by
  replace h:orMh (asMh Tryd.prog 45 74 76 46 40) (symMf (kdX wbGY) [sf26c]) (symS (baseOf wbGX F)) f args hp=some (v,hp'):=h
  unfold orMh at h
  split at h
  ·rename_i r hr
   cases h
   exact as_mem0 (X:=wbGX) wbG_lt as_ok is_ok (fun _ h=>h) F f args hp v hp' hr
  ·exact mem_symF (X:=wbGX) (tbl:=[sf26c]) (inv:=fun _=>True) (fun e he=>by
    simp only [List.mem_cons,List.not_mem_nil,or_false] at he
    rcases he with rfl
    exact c26c) wbG_lt rfl (fun _ _ _ _=>trivial) F f args hp v hp' h
 ovl:=fun f k h=>by simp only [wbGX,wbGY,cxOf,reduceCtorEq] at h
 atm:=fun k b h=>by simp only [wbGX,wbGY,cxOf,List.not_mem_nil] at h
theorem wbG_seg:SegOkI Tryd.prog wnTab 165 (((flatC (bodyOf Tryd.f6)).drop 18).take 5) wbS4 wbGX wbGW where
 lt:=wbG_lt
 ok:=wbG_ok
 hook:=wbG_hooks
 n0:=rfl
 id:=by kernel_rfl
 reck:=by kernel_rfl
 tab:=rfl
 cuts:=rfl
 kt:=by kernel_rfl
structure J4 (Y:Fz) (n i:Nat) (σ:Sig):Prop where
 i0:σ.ival 0=i
 n2:σ.ival 2=n
 hn:n≤(catL Y Y.len).length
 s5:σ.sval 5=(bs (catL Y Y.len)).extract 0 n
 n6:σ.ival 6=(Y.len:Int)+1
 s7:σ.sval 7=posB Y Y.len
 s3:(σ.sval 3).size≤9223372036854775807
 a8:σ.ival 8=((catL Y i).length:Int)
 le:(catL Y i).length≤n
theorem J4.agree {Y:Fz} {n i:Nat} {σ τ:Sig} (ag:Agree 9 σ τ) (h:J4 Y n i σ):J4 Y n i τ:=
 ⟨by rw [←(ag.val 0 (by decide)).1];exact h.i0,by rw [←(ag.val 2 (by decide)).1];exact h.n2,h.hn,by rw [←(ag.val 5 (by decide)).2.2];exact h.s5,by rw [←(ag.val 6 (by decide)).1];exact h.n6,by rw [←(ag.val 7 (by decide)).2.2];exact h.s7,by rw [←(ag.val 3 (by decide)).2.2];exact h.s3,by rw [←(ag.val 8 (by decide)).1];exact h.a8,h.le⟩
def K4 (Y:Fz) (σ:Sig):Prop:= ∃n i,J4 Y n i σ∧(i<Y.len→n<(catL Y (i+1)).length)
set_option maxHeartbeats 1000000 in
theorem stE {W:World} {E:Nat→Option Fz} {Y:Fz} (hY:Yk E Y) (hF:Stage Tryd.prog wnTab 165 W (WZ W) ((flatC (bodyOf Tryd.f6)).drop 17) wbS4 9 wbK4 (fun σ=>RowE E Y σ∧ ∃n i,J4 Y n i σ)):
  Stage Tryd.prog wnTab 165 W (WZ W) ((flatC (bodyOf Tryd.f6)).drop 11) wbS3 9 wbK3 (fun σ=>RowE E Y σ∧J3 Y Y.len σ):=by
 rw [show (flatC (bodyOf Tryd.f6)).drop 11=((flatC (bodyOf Tryd.f6)).drop 11).take 6++(flatC (bodyOf Tryd.f6)).drop 17 from rfl]
 refine Stage.seg (q2:=9) (ins2:=wbK4) (S2:=wbS4) (J2:=fun σ=>RowE E Y σ∧ ∃n i,J4 Y n i σ) mixed wbE_seg ⟨rfl,rfl⟩ (fun σ τ ag h=>⟨h.1.agree (by decide) ag,h.2.agree ag⟩) (fun τ h=>rowsN hY h.1) hF (fun τ e ht hi hj=> ?_)
 obtain ⟨hr,hj⟩:=hj
 refine segsPw_segs ?_
 have hn4:=hj.n4
 have ha8:=hj.a8
 have hcn:=hY.cat Y.len (Nat.le_refl _)
 have w2:=hi 2 .u16 (by decide) rfl
 rw [wr_u16] at w2
 have i9:τ.ival 9=((τ.sval 5).size:Nat):=eqLen (e.at 0 _ rfl rfl)
 have i10:τ.ival 10=IntKind.i64.wrap (τ.ival 9-τ.ival 8):=eqI (e.at 1 _ rfl rfl) rfl
 have b11:τ.bval 11=decide (τ.ival 10>0):=eqB (e.at 2 _ rfl rfl) rfl
 have b12:τ.bval 12= !((τ.ival 10:Int)==0):=eqB (e.at 3 _ rfl rfl) rfl
 have i13:τ.ival 13=IntKind.i64.wrap (τ.ival 2):=eqI (e.at 4 _ rfl rfl) rfl
 have i14:τ.ival 14=IntKind.i64.wrap (τ.ival 4+1):=eqI (e.at 5 _ rfl rfl) rfl
 have b16:τ.bval 16=decide ((0:Int)≤τ.ival 15):=eqB (e.at 7 _ rfl rfl) rfl
 have b17:τ.bval 17=decide (τ.ival 15≤τ.ival 4):=eqB (e.at 8 _ rfl rfl) rfl
 have b18:τ.bval 18=decide ((0:Int)<τ.ival 15):=eqB (e.at 9 _ rfl rfl) rfl
 have s19:τ.sval 19=(τ.sval 5).extract (0:Int).toNat (τ.ival 15:Int).toNat:=eqSub (e.at 10 _ rfl rfl) rfl rfl
 have tr: ∀{P:Prop} {b:Bool} [Decidable P],b=decide P→b=false→P→False:=fun hb hf hp=>by rw [hb,decide_eq_false_iff_not] at hf;exact hf hp
 have trT: ∀{P:Prop} {b:Bool} [Decidable P],b=decide P→b=true→ ¬P→False:=fun hb hf hp=>by rw [hb,decide_eq_true_eq] at hf;exact hp hf
 have trN: ∀{x y:Int} {b:Bool},b=(!(x==y))→b=true→x=y→False:=fun hb hf hp=>by rw [hb,hp] at hf;simp at hf
 rw [hj.s5,bs_size] at i9
 rw [wr_i64] at i10 i13 i14
 have e14:τ.ival 14=((catL Y Y.len).length:Int)+1:=by omega
 have i15:τ.ival 15=(τ.ival 13).tmod (τ.ival 14):=by
  have h:evalS τ (.bin .rem (.symi .i64 13) (.symi .i64 14))=some (.int .i64 (τ.ival 15)):=e 6 _ rfl (fun j hj=>by
   have hj:some 14=some j:=hj
   cases hj
   omega)
  simp only [evalS,den,binS,intA,if_true] at h
  rw [if_neg (by omega)] at h
  simp only [Option.some.injEq,AVal.int.injEq,true_and] at h
  exact h.symm
 rw [tmod_pos _ (by omega),e14] at i15
 have m0:=Int.emod_nonneg (τ.ival 13) (b:=((catL Y Y.len).length:Int)+1) (by omega)
 have m1:=Int.emod_lt_of_pos (τ.ival 13) (b:=((catL Y Y.len).length:Int)+1) (by omega)
 rw [←i15] at m0 m1
 obtain ⟨n,hn⟩: ∃n:Nat,τ.ival 15=n:=⟨(τ.ival 15).toNat,by omega⟩
 have fin: ∀a,den τ a=.str ((bs (catL Y Y.len)).extract 0 n)→sOf (valS τ a)=sOf (den τ a)→J4 Y n 0 (asgS τ ([(3,.syms 3),(6,.symi .i64 6),(2,.symi .i64 15),(0,.int .i64 0),(0,.int .i64 0),(7,.syms 7),(6,.symi .i64 6),(5,a),(8,.int .i64 0)]++[(1,.symi .i64 1),(4,.syms 3)])):=fun a ha hv=>
  ⟨rfl,hn,by omega,by show sOf (valS τ a)=_;rw [hv,ha];rfl,hj.n6,hj.s7,hj.s3,rfl,Nat.zero_le _⟩
 have ins: ∀a,InsOk (asgS τ ([(3,.syms 3),(6,.symi .i64 6),(2,.symi .i64 15),(0,.int .i64 0),(0,.int .i64 0),(7,.syms 7),(6,.symi .i64 6),(5,a),(8,.int .i64 0)]++[(1,.symi .i64 1),(4,.syms 3)])) 9 wbK4:=by
  intro a i k hlt hk
  have:i=0∨i=1∨i=2∨i=3∨i=4∨i=5∨i=6∨i=7∨i=8:=by omega
  rcases this with rfl|rfl|rfl|rfl|rfl|rfl|rfl|rfl|rfl
  ·have hk:IntKind.i64=k:=Option.some.inj hk
   subst hk
   rfl
  ·exact hi 1 k (by decide) hk
  ·have hk:IntKind.i64=k:=Option.some.inj hk
   subst hk
   show IntKind.i64.wrap (τ.ival 15)=τ.ival 15
   rw [wr_i64];omega
  ·cases hk
  ·cases hk
  ·cases hk
  ·exact hi 6 k (by decide) hk
  ·cases hk
  ·have hk:IntKind.i64=k:=Option.some.inj hk
   subst hk
   rfl
 refine ⟨fun f=>trT b11 f (by omega),fun _=>⟨fun f=>by rw [b12] at f;simp at f;omega,fun _=>⟨fun _=>⟨fun _=>⟨fun f=>by omega,fun _=>⟨fun f18=> ?_,fun f18=> ?_⟩⟩,fun f=>tr b17 f (by omega)⟩,fun f=>tr b16 f (by omega)⟩⟩⟩
 ·refine .inl ⟨rfl,rfl,ins _,⟨⟨extS hr.ext,hr.len,Int.le_refl 0,Int.natCast_nonneg _⟩,n,0,fin (.syms 19) ?_ rfl⟩,tabS ht⟩
  show AVal.str (τ.sval 19)=_
  rw [s19,hj.s5,hn]
  rfl
 ·refine .inl ⟨rfl,rfl,ins _,⟨⟨extS hr.ext,hr.len,Int.le_refl 0,Int.natCast_nonneg _⟩,n,0,fin (.str ⟨#[]⟩) ?_ rfl⟩,tabS ht⟩
  rw [b18,decide_eq_false_iff_not] at f18
  obtain rfl:n=0:=by omega
  show AVal.str .empty=_
  congr 1
  exact (ext_of (by rw [ByteArray.size_extract];show 0=_;omega) (fun j hj=>absurd hj (Nat.not_lt_zero j)))
abbrev LF (W:World) (E:Nat→Option Fz) (Y:Fz) (k:Nat):Exit→Act→World→Prop:=LoopZ Tryd.prog 4 ((flatC (bodyOf Tryd.f6)).drop 18) (WZ W) (InvF wnTab 165 W (fun _:Unit=>wbS4) 9 wbK4 (fun _ σ=>RowE E Y σ∧ ∃n i,J4 Y n i σ) (fun σ=>((Y.len:Int)-σ.ival 0).toNat)) k
theorem placeAt {E:Nat→Option Fz} {Y:Fz} (hY:Yk E Y) {τ:Sig} {m x:Nat} (h7:τ.sval 7=posB Y Y.len) (hm:m≤Y.len) (h:rowAtD [some .i64] (τ.sval 7) m 0=.int .i64 (τ.ival x)):τ.ival x=((catL Y m).length:Int):=by
 rw [h7,posB_at Y (fun m hm=>by have:=hY.cat m hm;omega) hm,AVal.int.injEq] at h
 exact h.2.symm
set_option maxHeartbeats 1000000 in
theorem stF {W:World} {E:Nat→Option Fz} {Y:Fz} (hY:Yk E Y) (hG:Stage Tryd.prog wnTab 165 W (WZ W) ((flatC (bodyOf Tryd.f6)).drop 18) wbS4 9 wbK4 (fun σ=>RowE E Y σ∧K4 Y σ)) (k:Nat):
  Stage Tryd.prog wnTab 165 W (LF W E Y k) [loopAt 17 (bodyOf Tryd.f6)] wbS4 (9+clT.length) (wbK4++clT.map kindS) (fun τ=>RowSEl 9 E clT Y τ∧(∃n i,J4 Y n i τ)∧((Y.len:Int)-τ.ival 0).toNat=k):=by
 refine Stage.last mixed wbF_seg ⟨rfl,rfl⟩ (fun σ τ ag h=>⟨h.1.agree ag,(let ⟨n,i,hi⟩:=h.2.1;⟨n,i,hi.agree (ag.less (by decide))⟩),by rw [←(ag.val 0 (by decide)).1];exact h.2.2⟩) (fun τ h=>h.1.rows hY.els hY.ext (by decide)) (fun τ e ht hi hj=> ?_)
 obtain ⟨hrow,⟨n,i,hj⟩,hk⟩:=hj
 have hr:=hrow.hd (by decide)
 refine segsPw_segs ?_
 have hi0:=hj.i0
 have hn2:=hj.n2
 have hn6:=hj.n6
 have ha8:=hj.a8
 have hle:=hj.le
 have hhn:=hj.hn
 have hlen:=hr.len
 have hhi:=hr.hi
 have h30:=hY.len
 have hcn:=hY.cat Y.len (Nat.le_refl _)
 have b12:τ.bval 12=decide (τ.ival 0<τ.ival 1):=eqB (e.at 0 _ rfl rfl) rfl
 have i13:τ.ival 13=IntKind.i64.wrap (τ.ival 0+1):=eqI (e.at 1 _ rfl rfl) rfl
 have b15:τ.bval 15=decide (τ.ival 14≤τ.ival 2):=eqB (e.at 3 _ rfl rfl) rfl
 have b16:τ.bval 16= !(τ.tab 320 [τ.ival 9,τ.ival 10,encB (τ.sval 11),encB (τ.sval 5),τ.ival 8]==0):=eqFnb (e.at 4 _ rfl rfl)
 have b17:τ.bval 17=decide ((0:Int)≤τ.ival 13):=eqB (e.at 5 _ rfl rfl) rfl
 have b18:τ.bval 18=decide (τ.ival 13<τ.ival 6):=eqB (e.at 6 _ rfl rfl) rfl
 have b19:τ.bval 19=decide ((0:Int)≤τ.ival 0):=eqB (e.at 7 _ rfl rfl) rfl
 have tr: ∀{P:Prop} {b:Bool} [Decidable P],b=decide P→b=false→P→False:=fun hb hf hp=>by rw [hb,decide_eq_false_iff_not] at hf;exact hf hp
 have trT: ∀{P:Prop} {b:Bool} [Decidable P],b=decide P→b=true→ ¬P→False:=fun hb hf hp=>by rw [hb,decide_eq_true_eq] at hf;exact hp hf
 have trN: ∀{x y:Int} {b:Bool},b=(!(x==y))→b=true→x=y→False:=fun hb hf hp=>by rw [hb,hp] at hf;simp at hf
 rw [wr_i64] at i13
 have e13:τ.ival 13=((i+1:Nat):Int):=by omega
 have i14:i+1≤Y.len→τ.ival 14=((catL Y (i+1)).length:Int):=fun hh=>
  placeAt hY hj.s7 hh (eqCellP (m:=i+1) (e.at 2 _ rfl rfl) (show den τ (.symi .i64 13)=_ by rw [←e13];rfl))
 have outs:(i<Y.len→n<(catL Y (i+1)).length)→EndZ wnTab 165 W (LF W E Y k) (.exit 4) wbS4 (asgS τ ([(3,.syms 3),(6,.symi .i64 6),(2,.symi .i64 2),(0,.symi .i64 0),(0,.symi .i64 0),(7,.syms 7),(6,.symi .i64 6),(5,.syms 5),(8,.symi .i64 8)]++[(1,.symi .i64 1),(4,.syms 4)])):=fun hx=>
  EndZ.out (by simp) (EndZ.blk hG (.inr rfl) (insOk_kt (X:=wbFX) e hi (by kernel_rfl) (by kernel_rfl)) ⟨⟨extS hr.ext,hr.len,hr.lo,hr.hi⟩,n,i,⟨hj.i0,hj.n2,hj.hn,hj.s5,hj.n6,hj.s7,hj.s3,hj.a8,hj.le⟩,hx⟩ (tabS ht))
 refine ⟨fun f12=>⟨fun f15=> ?_,fun f15=> ?_⟩,fun f12=> ?_⟩
 ·rw [b12,decide_eq_true_eq] at f12
  rw [b15,decide_eq_true_eq] at f15
  have hlt:i<Y.len:=by omega
  have i14:=i14 (by omega)
  have hth:=thing (by decide) hrow hi0 hlt
  have ht1:=thL_len (τ.ival 9) (τ.ival 10) (τ.sval 11)
  have hcs:=catL_succ Y i
  have hc1:=hY.cat (i+1) (by omega)
  have q16:τ.bval 16=true:=by
   rw [b16,ht,tab_rd,hth,hj.s5,ha8]
   exact ⟨by rw [cut_size (by rw [bs_size];exact hhn)];omega,has_cut (by rw [bs_size];exact hhn) (catL_has Y hlt) (by omega)⟩
  have i20:τ.ival 20=IntKind.i64.wrap (τ.tab 257 [τ.ival 9,τ.ival 10,encB (τ.sval 11)]):=eqFn (e.at 8 _ rfl rfl)
  have i21:τ.ival 21=IntKind.i64.wrap (τ.ival 8+τ.ival 20):=eqI (e.at 9 _ rfl rfl) rfl
  rw [ht,tab_tl,hth,wr_i64] at i20
  rw [hth] at ht1
  rw [wr_i64] at i21
  refine ⟨fun _=>⟨fun _=>⟨fun _=>⟨fun _=> ?_,fun f=>tr b19 f (by omega)⟩,fun f=>tr b18 f (by omega)⟩,fun f=>tr b17 f (by omega)⟩,fun f=>by rw [q16] at f;cases f⟩
  refine EndZ.loopF () rfl (insOk_kt (X:=wbFX) e hi (by kernel_rfl) (by kernel_rfl)) ⟨⟨extS hr.ext,hr.len,?_,?_⟩,n,i+1,e13,hj.n2,hj.hn,hj.s5,hj.n6,hj.s7,hj.s3,?_,by omega⟩ (tabS ht) ?_
  ·show 0≤τ.ival 13
   omega
  ·show τ.ival 13≤_
   omega
  ·show τ.ival 21=_
   omega
  ·show ((Y.len:Int)-τ.ival 13).toNat<k
   omega
 ·rw [b12,decide_eq_true_eq] at f12
  rw [b15,decide_eq_false_iff_not] at f15
  have i14:=i14 (by omega)
  refine ⟨fun _=>⟨fun _=>outs fun _=>by omega,fun f=>tr b18 f (by omega)⟩,fun f=>tr b17 f (by omega)⟩
 ·rw [b12,decide_eq_false_iff_not] at f12
  exact outs fun h=>by omega
end Go.Proofs.YtapfkgenachpgaaDoor.wb
