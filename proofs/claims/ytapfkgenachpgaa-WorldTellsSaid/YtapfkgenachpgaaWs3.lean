/-
 Contracts of the world's functions: Same, the search, Set.
 No conditions.
-/
import Derived.Test.YtapfkgenachpgaaWs2
import Derived.Test.YtapfkgenachpgaaWps
import Derived.WalkKit
namespace Go.Proofs.Ytapfkgenachpgaa.wc
open Go.Ev Go.RowKit Go.Wpl Go.Wt
set_option linter.unusedVariables false
set_option linter.unusedSimpArgs false
set_option maxRecDepth 100000 in
def ws25G:List SDef:=[.fnb 202 [.syms 0],
 .fn 250 .i64 [.syms 0,.symi .i64 2,.symi .i64 3,.symi .u8 4],
 .fnb 251 [.syms 0,.symi .i64 2,.symi .i64 3],
 .fnb 204 [.syms 0,.symi .i64 6],
 .fnb 207 [.syms 0],
 .fn 200 .i64 [.syms 0],
 .fn 201 .i64 [.syms 0],
 .bin .neq (.symi .i64 11) (.int .i64 0),
 .fn 255 .i64 [.symi .i64 2,.symi .i64 3,.symi .u8 4],
 .fn 256 .i64 [.symi .i64 2,.symi .i64 3,.symi .u8 4],
 .bin .neq (.symi .i64 14) (.int .i64 0),
 .bin .leq (.int .i64 0) (.symi .i64 6),
 .bin .lss (.symi .i64 6) (.symi .i64 1),
 .sop (.upd [.some .i64,.some .i64,.some .u8] 0) [.syms 0,.symi .i64 6,.symi .i64 2,.symi .i64 3,.symi .u8 4],
 .sop (.fs 254) [.syms 0,.symi .i64 6,.symi .i64 2,.symi .i64 3,.symi .u8 4],
 .bin .add (.symi .i64 1) (.int .i64 1)]
set_option maxRecDepth 100000 in
def ws25T:LT:=.n (.n (.n (.n (.n (.e) 14149 10 (.fn 200 .i64 [.syms 0]) (.e)) 14192 11 (.fn 201 .i64 [.syms 0]) (.e)) 16519 5 (.fnb 202 [.syms 0]) (.n (.e) 16784 9 (.fnb 207 [.syms 0]) (.e))) 37271907 12 (.bin .neq (.symi .i64 11) (.int .i64 0)) (.n (.n (.e) 101060655 20 (.bin .add (.symi .i64 1) (.int .i64 1)) (.e)) 340272816 15 (.bin .neq (.symi .i64 14) (.int .i64 0)) (.n (.e) 618774949 13 (.fn 255 .i64 [.symi .i64 2,.symi .i64 3,.symi .u8 4]) (.e)))) 618774992 14 (.fn 256 .i64 [.symi .i64 2,.symi .i64 3,.symi .u8 4]) (.n (.n (.n (.e) 786171201 8 (.fnb 204 [.syms 0,.symi .i64 6]) (.e)) 817529218 7 (.fnb 251 [.syms 0,.symi .i64 2,.symi .i64 3]) (.n (.e) 928083226 6 (.fn 250 .i64 [.syms 0,.symi .i64 2,.symi .i64 3,.symi .u8 4]) (.e))) 945327096 18 (.sop (.upd [.some .i64,.some .i64,.some .u8] 0) [.syms 0,.symi .i64 6,.symi .i64 2,.symi .i64 3,.symi .u8 4]) (.n (.n (.e) 945581095 19 (.sop (.fs 254) [.syms 0,.symi .i64 6,.symi .i64 2,.symi .i64 3,.symi .u8 4]) (.e)) 949385818 17 (.bin .lss (.symi .i64 6) (.symi .i64 1)) (.n (.e) 986409868 16 (.bin .leq (.int .i64 0) (.symi .i64 6)) (.e))))
set_option maxRecDepth 100000 in
def ws25W:Sw:=.node 5 (.node 8 (.node 9 (.node 12 (.dead) (.node 15 (.dead) (.node 16 (.run (.node 7 (.node 17 (.leaf .ret w25Se [(0,0),(4,0)] [(1,.symi .i64 1),(5,.symi .i64 1),(0,.syms 0),(1,.symi .i64 1),(6,.syms 18),(5,.symi .i64 1)] []) (.dead)) (.leaf .ret w25Se [(0,0),(7,0)] [(1,.symi .i64 1),(5,.symi .i64 20),(0,.syms 0),(1,.symi .i64 1),(6,.syms 19),(5,.symi .i64 20)] []))) (.dead)))) (.dead)) (.dead)) (.dead)
def ws25Kd:KdT:=.n (.n (.n (.n (.n .e none .e) none .e) (some .i64) (.n (.n .e none .e) (some .i64) .e)) (some .i64) (.n (.n (.n .e none .e) none .e) none (.n .e (some .i64) .e))) none (.n (.n (.n (.n .e none .e) none .e) (some .u8) (.n (.n .e (some .i64) .e) none .e)) (some .i64) (.n (.n (.n .e none .e) (some .i64) .e) (some .i64) (.n .e (some .i64) .e)))
def ws25Y:Ing:={m:=5,ins:=w52K,G:=ws25G,T:=ws25T,tab:=wTab,lsts:=wL,kb:=21,kt:=ws25Kd}
def ws25X:Ing:={m:=5,ins:=w52K,G:=ws25G,T:=ws25T,tab:=wTab,lsts:=wL,kb:=21,kt:=ws25Kd,mh:=symMf (kdX ws25Y) [sf26,sf26b,sf51,sf52,sf54]}
theorem ws25_lt:okLT 5 ws25G ws25T=true:=by kernel_rfl
theorem ws25_ok:okG ws25G 5=true:=by kernel_rfl
theorem ws25_hooks (F:List Fact):Hooks Try.prog (cxOf ws25X F) where
 val:=fun f args v h=>by simp only [ws25X,cxOf,noHook,reduceCtorEq] at h
 mem:=fun f args hp v hp' h=>by
  replace h:(symMf (kdX ws25Y) [sf26,sf26b,sf51,sf52,sf54]) (symS (baseOf ws25X F)) f args hp=some (v,hp'):=h
  exact mem_symF (X:=ws25X) (tbl:=[sf26,sf26b,sf51,sf52,sf54]) (inv:=fun _=>True) (fun e he=>by
   simp only [List.mem_cons,List.not_mem_nil,or_false] at he
   rcases he with rfl|rfl|rfl|rfl|rfl
   ·exact c26
   ·exact c26b
   ·exact c51
   ·exact c52
   ·exact c54) ws25_lt rfl (fun _ _ _ _=>trivial) F f args hp v hp' h
 ovl:=fun f k h=>by simp only [ws25X,cxOf,reduceCtorEq] at h
 atm:=fun k b h=>by simp only [ws25X,cxOf,List.not_mem_nil] at h
theorem ws25_seg:SegOk Try.prog wTab 50 (flatC (bodyOf Try.f25)) w25S0 ws25X ws25W where
 lt:=ws25_lt
 ok:=ws25_ok
 hook:=ws25_hooks
 n0:=rfl
 id:=by kernel_rfl
 reck:=by kernel_rfl
 tab:=rfl
 cuts:=rfl
 kt:=by kernel_rfl
theorem not_back {a b:E3} (h:Wpl.ahead a b=true):Wpl.ahead b a=false:=by
 rw [Bool.eq_false_iff];intro k;rw [ahead_iff] at h k;omega
theorem split_at {l:List E3} {x:E3} (h:Script l): ∃A B,l=A++B∧A=l.filter (fun a=>Wpl.ahead a x)∧(∀a,a∈A→Wpl.ahead a x=true)∧(∀b,b∈B→Wpl.ahead b x=false)∧B.Pairwise (fun a b=>Wpl.ahead a b=true)∧set l x=A++x::B.filter (fun a=>Wpl.ahead x a):=by
 refine ⟨l.filter (fun a=>Wpl.ahead a x),l.filter (fun a=> !Wpl.ahead a x),set_around h.2,rfl,fun a ha=>(List.mem_filter.1 ha).2,fun b hb=>by simpa using (List.mem_filter.1 hb).2,h.2.filter _,?_⟩
 have e:l.filter (fun a=>Wpl.ahead x a)=(l.filter fun a=> !Wpl.ahead a x).filter (fun a=>Wpl.ahead x a):=by
  rw [List.filter_filter]
  refine List.filter_congr fun a _=> ?_
  cases h1:Wpl.ahead x a with
  |false=>simp
  |true=>rw [not_back h1];rfl
 show l.filter (fun a=>Wpl.ahead a x)++x::l.filter (fun a=>Wpl.ahead x a)=_
 rw [e]
theorem set_cases {l:List E3} {x:E3} (h:Script l):((l.any fun a=>decide (a.t=x.t∧a.k=x.k))=true→(set l x).length=l.length∧(l.filter fun a=>Wpl.ahead a x).length<l.length∧set l x=l.set (l.filter fun a=>Wpl.ahead a x).length x)∧
  ((l.any fun a=>decide (a.t=x.t∧a.k=x.k))=false→set l x=l.take (l.filter fun a=>Wpl.ahead a x).length++x::l.drop (l.filter fun a=>Wpl.ahead a x).length):=by
 obtain ⟨A,B,e1,e2,e3,e4,e5,e6⟩:=split_at (x:=x) h
 rw [←e2]
 constructor
 ·intro hany
  rw [List.any_eq_true] at hany
  obtain ⟨z,hz,hk⟩:=hany
  simp only [decide_eq_true_eq] at hk
  have hzB:z∈B:=by
   rw [e1] at hz
   rcases List.mem_append.1 hz with h1|h1
   ·have:=e3 z h1
    rw [ahead_iff] at this;omega
   ·exact h1
  cases B with
  |nil=>cases hzB
  |cons y B'=>
   have hy:y.t=x.t∧y.k=x.k:=by
    rcases List.mem_cons.1 hzB with rfl|h1
    ·exact hk
    ·have a1:=(List.pairwise_cons.1 e5).1 z h1
     have a2:=e4 y (by simp)
     rw [ahead_iff] at a1
     have:Wpl.ahead y x=true:=by rw [ahead_iff];omega
     rw [this] at a2;cases a2
   have f:(y::B').filter (fun a=>Wpl.ahead x a)=B':=by
    have h0:Wpl.ahead x y=false:=by rw [Bool.eq_false_iff];intro k;rw [ahead_iff] at k;omega
    rw [List.filter_cons,h0]
    simp only [Bool.false_eq_true,if_false]
    rw [List.filter_eq_self]
    intro b hb
    have a1:=(List.pairwise_cons.1 e5).1 b hb
    rw [ahead_iff] at a1⊢;omega
   rw [f] at e6
   refine ⟨?_,?_,?_⟩
   ·rw [e6,e1];simp
   ·rw [e1];simp
   ·rw [e6,e1];simp
 ·intro hany
  have f:B.filter (fun a=>Wpl.ahead x a)=B:=by
   rw [List.filter_eq_self]
   intro b hb
   have a1:=e4 b hb
   rw [Bool.eq_false_iff] at hany
   have: ¬(b.t=x.t∧b.k=x.k):=fun hk=>hany (by rw [List.any_eq_true];exact ⟨b,by rw [e1];exact List.mem_append_right _ hb,by simpa using hk⟩)
   rw [Bool.eq_false_iff] at a1
   by_cases h1:Wpl.ahead x b=true
   ·exact h1
   ·exfalso
    rw [Ne,ahead_iff] at a1
    rw [ahead_iff] at h1
    omega
  rw [e6,f,e1]
  simp
theorem eqUpd {σ:Sig} {i a m b c d:Nat} (h:evalS σ (.sop (.upd cl3 0) [.syms a,.symi .i64 m,.symi .i64 b,.symi .i64 c,.symi .u8 d])=some (den σ (.syms i))):σ.sval i=⟨(updR cl3 (σ.sval a).data.toList (σ.ival m).toNat [.int .i64 (σ.ival b),.int .i64 (σ.ival c),.int .u8 (σ.ival d)]).toArray⟩:=by
 simp only [evalS,List.map,den,sopA,Option.some.injEq,AVal.str.injEq] at h
 exact h.symm
def L25:Asg:=[(5,.symi .i64 5),(0,.syms 0),(1,.symi .i64 1),(6,.syms 6),(5,.symi .i64 5)]
theorem tab205 (a b c:Int):wTab 205 [a,b,c]=b01 (decide (okIn ⟨a,b,c⟩)):=rfl
set_option maxHeartbeats 1000000 in
theorem c25:SymFOk Try.prog wTab (fun _=>True) sf25:=
 symF_of_stage Try.func25 rfl (n:=50) rfl (by decide) (by decide) rfl rfl (by kernel_rfl) (fun g w hg _ hE hI hpc hH=>by
  obtain ⟨N,hN,hC⟩:=lst_ok (i:=0) hH rfl
  have hp:=pc202 hg rfl hC (hpc _ (by simp [sf25]))
  have hq:(AVal.bool (!(g.sig.tab 205 [g.sig.ival 2,g.sig.ival 3,g.sig.ival 4]==0)))=.bool true:=Option.some.inj (hpc (.fnb 205 [.symi .i64 2,.symi .i64 3,.symi .u8 4]) (by simp [sf25]))
  have hCp:=hC
  generalize hSS:g.sig.sval 0=S at hC hp
  obtain ⟨hScr,hNb⟩:=hp
  generalize hx:(⟨g.sig.ival 2,g.sig.ival 3,g.sig.ival 4⟩:E3)=x
  have x2:g.sig.ival 2=x.t:=by rw [←hx]
  have x3:g.sig.ival 3=x.k:=by rw [←hx]
  have x4:g.sig.ival 4=x.v:=by rw [←hx]
  rw [hg,tab205,b01_ne,AVal.bool.injEq,decide_eq_true_eq,hx] at hq
  have hdec:decL (encB S)=lstE S N:=decL_of hC
  have hll:=lstE_len S N
  obtain ⟨sc1,sc2⟩:=set_cases (x:=x) hScr
  generalize hpp:(((lstE S N).filter fun a=>Wpl.ahead a x).length)=p at sc1 sc2
  have hpN:p≤N:=by
   rw [←hpp]
   have:=List.length_filter_le (fun a=>Wpl.ahead a x) (lstE S N)
   omega
  have r5:g.sig.ival 5=IntKind.i64.wrap ((set (lstE S N) x).length:Int):=by
   have h:g.sig.ival 5=IntKind.i64.wrap (g.sig.tab 253 [encB (g.sig.sval 0),g.sig.ival 2,g.sig.ival 3,g.sig.ival 4]):=eqFn (hE.at 0 _ rfl rfl)
   have e:wTab 253 [encB S,x.t,x.k,x.v]=((set (decL (encB S)) ⟨x.t,x.k,x.v⟩).length:Int):=rfl
   rw [h,hg,hSS,x2,x3,x4,e,hdec]
  have r6:g.sig.sval 6=setS S (lstE S N) x:=by
   have h:g.sig.sval 6=decS (g.sig.tab 252 [encB (g.sig.sval 0),g.sig.ival 2,g.sig.ival 3,g.sig.ival 4]):=eqFs (hE.at 1 _ rfl rfl)
   have e:wTab 252 [encB S,x.t,x.k,x.v]=encB (setS (decS (encB S)) (decL (encB S)) ⟨x.t,x.k,x.v⟩):=rfl
   rw [h,hg,hSS,x2,x3,x4,e,decS_enc,decS_enc,hdec]
  refine Stage.last mixed ws25_seg ⟨rfl,rfl⟩ (fun σ τ (ag:Agree 5 σ τ) (h:Agree 5 g.sig σ)=>h.trans' ag) (fun τ h=>rows_nil) (fun τ e ht hi ag=> ?_) (pin0 (by kernel_rfl))
  refine segsPw_segs ?_
  have a0:τ.sval 0=S:=by rw [←(ag.val 0 (by decide)).2.2];exact hSS
  have a1:τ.ival 1=N:=by rw [←(ag.val 1 (by decide)).1];exact hN
  have a2:τ.ival 2=x.t:=by rw [←(ag.val 2 (by decide)).1];exact x2
  have a3:τ.ival 3=x.k:=by rw [←(ag.val 3 (by decide)).1];exact x3
  have a4:τ.ival 4=x.v:=by rw [←(ag.val 4 (by decide)).1];exact x4
  have b5:τ.bval 5=true:=(eqFnb (e.at 0 _ rfl rfl)).trans (bval202 ht a0 hC ⟨hScr,hNb⟩)
  have i6:τ.ival 6=p:=by
   have h:τ.ival 6=IntKind.i64.wrap (τ.tab 250 [encB (τ.sval 0),τ.ival 2,τ.ival 3,τ.ival 4]):=eqFn (e.at 1 _ rfl rfl)
   have e0:wTab 250 [encB S,x.t,x.k,x.v]=(((decL (encB S)).filter fun a=>Wpl.ahead a ⟨x.t,x.k,x.v⟩).length:Int):=rfl
   have e1:((lstE S N).filter fun a=>Wpl.ahead a ⟨x.t,x.k,x.v⟩).length=p:=hpp
   rw [ht,a0,a2,a3,a4,e0,hdec,e1,wr_i64] at h
   omega
  have b7:τ.bval 7=((lstE S N).any fun a=>decide (a.t=x.t∧a.k=x.k)):=by
   have h:τ.bval 7= !(τ.tab 251 [encB (τ.sval 0),τ.ival 2,τ.ival 3]==0):=eqFnb (e.at 2 _ rfl rfl)
   have e0:wTab 251 [encB S,x.t,x.k]=b01 ((decL (encB S)).any fun a=>decide (a.t=x.t∧a.k=x.k)):=rfl
   rw [h,ht,a0,a2,a3,e0,b01_ne,hdec]
  have b8:τ.bval 8=true:=by
   have h:τ.bval 8= !(τ.tab 204 [encB (τ.sval 0),τ.ival 6]==0):=eqFnb (e.at 3 _ rfl rfl)
   rw [h,ht,a0,i6,tab204,b01_ne,hdec,hll,decide_eq_true_eq]
   omega
  have b9:τ.bval 9=true:=(eqFnb (e.at 4 _ rfl rfl)).trans (bval207 ht a0 hC hNb)
  have i11:τ.ival 11=0:=by
   have h:τ.ival 11=IntKind.i64.wrap (τ.tab 201 [encB (τ.sval 0)]):=eqFn (e.at 6 _ rfl rfl)
   have e2:wTab 201 [encB S]=(check (decL (encB S))).2:=rfl
   rw [h,ht,a0,e2,hdec,check_zero.2 hScr];rfl
  have b12:τ.bval 12= !(τ.ival 11==0):=eqB (e.at 7 _ rfl rfl) rfl
  have i14:τ.ival 14=0:=by
   have h:τ.ival 14=IntKind.i64.wrap (τ.tab 256 [τ.ival 2,τ.ival 3,τ.ival 4]):=eqFn (e.at 9 _ rfl rfl)
   have e2:wTab 256 [x.t,x.k,x.v]=(check [x]).2:=rfl
   have e3:codeOf none x=0:=codeOf_zero.2 ⟨hq,fun q h=>by cases h⟩
   rw [h,ht,a2,a3,a4,e2,check_one,if_pos e3];rfl
  have b15:τ.bval 15= !(τ.ival 14==0):=eqB (e.at 10 _ rfl rfl) rfl
  have b16:τ.bval 16=decide ((0:Int)≤τ.ival 6):=eqB (e.at 11 _ rfl rfl) rfl
  have b17:τ.bval 17=decide (τ.ival 6<τ.ival 1):=eqB (e.at 12 _ rfl rfl) rfl
  have d16: ¬(τ.bval 16=false):=by rw [b16,decide_eq_false_iff_not];omega
  have fin: ∀(a b:Nat),τ.ival a=g.sig.ival 5→τ.sval b=g.sig.sval 6→EndZ wTab 50 (fraOf g w 1) (bodyPost Try.prog Try.f25 (MemR wTab sf25 g w)) .ret w25Se (asgS τ ([(1,.symi .i64 1),(5,.symi .i64 a),(0,.syms 0),(1,.symi .i64 1),(6,.syms b),(5,.symi .i64 a)]++[])):=by
   intro a b h5 h6
   exact endZ_mem (M:=7) (l:=L25) (vs:=[.lsl 1 3 true (.int .i64 0) (.symi .i64 5),.int .i64 0]) (by kernel_rfl) rfl rfl hH hg rfl rfl rfl (by kernel_rfl) (by kernel_rfl) ⟨congrArg (AVal.int .i64) h5,congrArg AVal.str (a0.trans hSS.symm),congrArg (AVal.int .i64) (a1.trans hN.symm),congrArg AVal.str h6,congrArg (AVal.int .i64) h5,trivial⟩ (by decide) (extS ag.ext.symm) (.inl rfl)
  refine ⟨fun _=>⟨fun _=>⟨fun _=>⟨fun f=>(by rw [b12,i11] at f;cases f),fun _=>⟨fun f=>(by rw [b15,i14] at f;cases f),fun _=>⟨fun _=>⟨fun f7=>⟨fun _=> ?_,fun f17=> ?_⟩,fun f7=> ?_⟩,fun f=>absurd f d16⟩⟩⟩,fun f=>(by rw [b9] at f;cases f)⟩,fun f=>(by rw [b8] at f;cases f)⟩,fun f=>(by rw [b5] at f;cases f)⟩
  ·rw [b7] at f7
   obtain ⟨q1,q2,q3⟩:=sc1 f7
   refine fin 1 18 ?_ ?_
   ·rw [a1,r5,q1,hll,wr_i64];omega
   ·have s18:τ.sval 18=_:=eqUpd (e.at 13 _ rfl rfl)
    rw [a0,i6,a2,a3,a4,Int.toNat_natCast] at s18
    rw [s18,r6,Wt.setS,if_pos f7,hpp]
  ·rw [b7] at f7
   obtain ⟨q1,q2,q3⟩:=sc1 f7
   rw [b17,decide_eq_false_iff_not] at f17
   rw [hll] at q2
   exfalso;omega
  ·rw [b7] at f7
   have q:=sc2 f7
   have hlen:(set (lstE S N) x).length=N+1:=by
    rw [q];simp only [List.length_append,List.length_take,List.length_cons,List.length_drop,hll];omega
   have i20:τ.ival 20=IntKind.i64.wrap (τ.ival 1+1):=eqI (e.at 15 _ rfl rfl) rfl
   refine fin 20 19 ?_ ?_
   ·rw [i20,r5,hlen,a1];rfl
   ·have h:τ.sval 19=decS (τ.tab 254 [encB (τ.sval 0),τ.ival 6,τ.ival 2,τ.ival 3,τ.ival 4]):=eqFs (e.at 14 _ rfl rfl)
    have e0:wTab 254 [encB S,(p:Int),x.t,x.k,x.v]=encB (Wt.encL ((decL (encB S)).take (p:Int).toNat++⟨x.t,x.k,x.v⟩::(decL (encB S)).drop (p:Int).toNat)):=rfl
    rw [h,ht,a0,i6,a2,a3,a4,e0,decS_enc,hdec,Int.toNat_natCast,r6,Wt.setS,if_neg (by rw [f7];simp),q])
end Go.Proofs.Ytapfkgenachpgaa.wc
