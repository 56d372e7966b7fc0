/-
 slices.Insert of one input into a list of inputs: the contract.
 No conditions.
-/
import Derived.Test.YtapfkgenachpgaaWj
namespace Go.Proofs.Ytapfkgenachpgaa.wc
open Go.Ev Go.RowKit Go.Wpl Go.Wt
set_option linter.unusedVariables false
set_option linter.unusedSimpArgs false
def sf54:SymF:={f:=54,m:=6,ins:=[none,some .i64,some .i64,some .i64,some .i64,some .u8],args:=[.lsl 0 3 true (.int .i64 0) (.symi .i64 1),.symi .i64 2,.slice 1 0 1 1 none],pre:=[lstW 0 1,.cells [.symi .i64 3,.symi .i64 4,.symi .u8 5] 64],pcs:=[.fnb 204 [.syms 0,.symi .i64 2]],G:=[.sop (.fs 254) [.syms 0,.symi .i64 2,.symi .i64 3,.symi .i64 4,.symi .u8 5],.bin .add (.symi .i64 1) (.int .i64 1)],v:=.lsl 2 3 true (.int .i64 0) (.symi .i64 7),post:=[.gone,.cells [.symi .i64 3,.symi .i64 4,.symi .u8 5] 64,lstW 6 7]}
theorem lay_snoc {w:World} {b o:Nat} {C:Array Value} {e:TypeId} {fr:Nat×Nat} {l r:List E3} {x:E3} {L:Ev.Loc} (hL:L.blk=b) (hd:L.dl=o) (hb:w.heap[b]? =some (.cells C e fr)) (hs:C.size=o+L.n) (hf:FrOkL cl3 fr C) (hle:(l.length+1+r.length)*3≤L.n)
  (h1: ∀k v,(flatE l)[k]? =some v→C[o+k]? =some v) (h2: ∀k v,(flatE [x])[k]? =some v→C[o+(l.length*3+k)]? =some v) (h3: ∀k v,(flatE r)[k]? =some v→C[o+((l.length+1)*3+k)]? =some v):LayE w L e (l++x::r):=by
 refine ⟨C,fr,by rw [hL];exact hb,by rw [hd];exact hs,hf,by simp only [List.length_append,List.length_cons];omega,fun k v hk=> ?_⟩
 rw [hd]
 have e0:flatE (l++x::r)=flatE l++(flatE [x]++flatE r):=by rw [flatE_append,←flatE_append [x] r];rfl
 rw [e0] at hk
 have hl:=flatE_len l
 have hx:(flatE [x]).length=3:=rfl
 by_cases c1:k<(flatE l).length
 ·rw [List.getElem?_append_left c1] at hk;exact h1 k v hk
 ·rw [List.getElem?_append_right (by omega)] at hk
  by_cases c2:k-(flatE l).length<(flatE [x]).length
  ·rw [List.getElem?_append_left c2] at hk
   have:=h2 _ v hk
   rw [show o+(l.length*3+(k-(flatE l).length))=o+k by omega] at this;exact this
  ·rw [List.getElem?_append_right (by omega)] at hk
   have:=h3 _ v hk
   rw [show o+((l.length+1)*3+(k-(flatE l).length-(flatE [x]).length))=o+k by omega] at this;exact this
theorem zeros_one (k:Nat): ∀v,v∈(Builtin.zeroCells win.zv.cells k).toList→v.oneCell'=true:=
 zeroCells_one (fun v hv=>by
  simp [win.zv,Value.cells] at hv
  rcases hv with rfl|rfl<;>rfl)
theorem zeros_size (k:Nat):(Builtin.zeroCells win.zv.cells k).size=k*3:=by simp [Builtin.zeroCells,Value.cells]
theorem cell_get {w:World} {b k:Nat} {C:Array Value} {e:TypeId} {fr:Nat×Nat} (hb:w.heap[b]? =some (.cells C e fr)):w.cell? ⟨b,k,none⟩=C[k]?:=by
 simp [World.cell?,hb]
theorem frozen_no {w:World} {b k:Nat} {C:Array Value} {e:TypeId} {fr:Nat×Nat} (hb:w.heap[b]? =some (.cells C e fr)) (h: ¬(fr.1≤k∧k<fr.2)):w.frozen? ⟨b,k,none⟩=false:=by
 simp only [World.frozen?,hb]
 simpa using h
theorem rowsV_flat {g:Inj} {l:List E3} (hok: ∀x,x∈l→okV x):RowsV g cl3 (Wt.encL l) l.length (flatE l):=by
 refine ⟨encL_len hok,flatE_len l,fun m j hm hj=> ?_⟩
 have hx:=lstE_get (C:=Wt.encL l) hm
 rw [lstE_enc hok] at hx
 obtain ⟨f0,f1,f2⟩:=flatE_get l m _ hx
 obtain ⟨c0,c1,c2⟩:=cell3 (Wt.encL l) m
 have hj:j<3:=hj
 show∃v,(flatE l)[m*3+j]? =some v∧_
 match j,hj with
 |0,_=>exact ⟨_,f0,by rw [c0];exact .int _ _,rfl⟩
 |1,_=>exact ⟨_,f1,by rw [c1];exact .int _ _,rfl⟩
 |2,_=>exact ⟨_,f2,by rw [c2];exact .int _ _,rfl⟩
theorem tab204 (C:ByteArray) (a:Int):wTab 204 [encB C,a]=b01 (decide (0≤a∧a≤(decL (encB C)).length∧(decL (encB C)).length≤1000000)):=rfl
theorem pc204 {σ:Sig} {i a N:Nat} {C:ByteArray} (ht:σ.tab=wTab) (hs:σ.sval i=C) (hC:C.data.toList.length=N*17) (h:evalS σ (.fnb 204 [.syms i,.symi .i64 a])=some (.bool true)): ∃k:Nat,σ.ival a=k∧k≤N∧N≤1000000:=by
 have h:(AVal.bool (!(σ.tab 204 [encB (σ.sval i),σ.ival a]==0)))=.bool true:=Option.some.inj h
 rw [ht,hs,tab204,b01_ne,decL_of hC] at h
 simp only [AVal.bool.injEq,decide_eq_true_eq,lstE_len] at h
 exact ⟨(σ.ival a).toNat,by omega,by omega,h.2.2⟩
theorem fin_in {g:Inj} {w w':World} (hH:HRel (cx0 wTab) g sf54.pre w) {L:Ev.Loc} (hL:g 0=some L) (hm: ∀i X,1000≤i→g.sig.ext i=some X→X.blk≠L.blk) {l':List E3} {cap:Nat} (hok: ∀x,x∈l'→okV x) (h6:g.sig.sval 6=Wt.encL l') (h7:g.sig.ival 7=(l'.length:Int)) (hpos:0<l'.length) (hcap:l'.length≤cap) (hc63:cap≤9223372036854775807) (hcn:cap*3≤L.n)
  (hw:Wr L.blk w w') (hlay:LayE w' L 64 l'):
  MemR wTab sf54 g w (.returned (.slice (some ⟨L.blk,L.dl,none⟩) l'.length cap)) w':=by
 have hB:BRel (upd g 2 L) w' (lstW 6 7) L:=of_lay (g:=upd g 2 L) hlay hok (congrArg AVal.str h6) (congrArg (AVal.int .i64) h7) hm
 obtain ⟨r1,r2⟩:=HRel.retip hH (b:=0) (L:=L) (L2:=L) (k':=lstW 6 7) ⟨_,rfl,by simp [sf54,lstW]⟩ hL rfl hw hB
 refine ⟨_,upd g 2 L,rfl,rfl,?_,r1,fun i hi=> ?_,fun i M hi hM=> ?_,by rw [hw.size];exact Nat.le_refl _,fun b hb hno=>hw.other b (fun he=>hno 0 L hL he.symm),hw.os,hw.tape,hw.output⟩
 ·exact .lsl 2 3 true _ _ 0 l'.length cap _ rfl (congrArg (AVal.int .i64) h7) ⟨hcap,hc63⟩ (fun _=>⟨rfl,fun h0=>by omega⟩) (fun _=>⟨L,upd_same _ _ _,by simp,by simpa using hcn⟩)
 ·have hi:i<2:=hi
  exact upd_other g L (by omega)
 ·by_cases h2:i=2
  ·subst h2
   rw [upd_same] at hM;cases hM
   exact .inr ⟨0,L,hL,rfl⟩
  ·rw [upd_other g L h2] at hM
   exact .inr ⟨i,M,hM,rfl⟩
theorem fin_new {g:Inj} {w w':World} (hH:HRel (cx0 wTab) g sf54.pre w) {l':List E3} {cap:Nat} {C:Array Value} (hok: ∀x,x∈l'→okV x) (h6:g.sig.sval 6=Wt.encL l') (h7:g.sig.ival 7=(l'.length:Int)) (hpos:0<l'.length) (hcap:l'.length≤cap) (hc63:cap≤9223372036854775807) (hcn:cap*3≤C.size)
  (hC: ∀(k:Nat) (v:Value),(flatE l')[k]? =some v→C[k]? =some v) (h1: ∀v,v∈C.toList→v.oneCell'=true) (hb:Below (w.heap.size+1) (w.drew.alloc (.cells C 64)) w'):
  MemR wTab sf54 g w (.returned (.slice (some ⟨w.heap.size,0,none⟩) l'.length cap)) w':=by
 have hz:(w.drew.alloc (.cells C 64)).heap.size=w.heap.size+1:=by simp
 obtain ⟨r1,r2⟩:=HRel.newLst hH (HRel.drop (b:=0) hH) (by simp) (c:=.syms 6) (n:=.symi .i64 7) (cl:=cl3) (e:=64) (C:=C) (S:=Wt.encL l') (N:=l'.length) (vs:=flatE l') (congrArg AVal.str h6) (congrArg (AVal.int .i64) h7) (rowsV_flat hok) hC h1
 have r3:=(r1.below (w':=w') (by rw [hz];exact hb)).1
 refine ⟨_,upd g 2 ⟨w.heap.size,0,C.size⟩,rfl,rfl,?_,r3,fun i hi=> ?_,fun i M hi hM=> ?_,?_,fun b hlt hno=> ?_,hb.os.trans rfl,hb.tape.trans rfl,hb.output.trans rfl⟩
 ·exact .lsl 2 3 true _ _ 0 l'.length cap _ rfl (congrArg (AVal.int .i64) h7) ⟨hcap,hc63⟩ (fun _=>⟨rfl,fun h0=>by omega⟩) (fun _=>⟨_,upd_same _ _ _,by simp,by simpa using hcn⟩)
 ·have hi:i<2:=hi
  exact upd_other g _ (by omega)
 ·by_cases h2:i=2
  ·subst h2
   rw [upd_same] at hM;cases hM
   exact .inl (Nat.le_refl _)
  ·rw [upd_other g _ h2] at hM
   exact .inr ⟨i,M,hM,rfl⟩
 ·have:=hb.size
  rw [hz] at this
  omega
 ·rw [hb.block b (by omega)]
  show (w.heap.push (.cells C 64))[b]? =w.heap[b]?
  rw [Array.getElem?_push_lt hlt,Array.getElem?_eq_getElem hlt]
theorem drew_wr (b:Nat) (w:World):Wr b w w.drew:=⟨rfl,fun _ _=>rfl,rfl,rfl,rfl⟩
theorem alloc_at (w:World) (C:Array Value):(w.alloc (.cells C 64)).heap[w.heap.size]? =some (.cells C 64 (0,0)):=by
 show (w.heap.push (.cells C 64))[w.heap.size]? =_
 simp
theorem wr_below {b:Nat} {w w' wA:World} {C:Array Value} (hw:Wr b w w') (hwA:Wr b w wA) (hb:b<w.heap.size) (hn:w.heap.size=b+1) (h1:w'.heap[b]? =wA.heap[b]?):Below (b+1) wA w':=
 ⟨hw.os.trans hwA.os.symm,hw.tape.trans hwA.tape.symm,hw.output.trans hwA.output.symm,by rw [hw.size,hwA.size];exact Nat.le_refl _,fun k hk=>by
  by_cases e:k=b
  ·subst e;exact h1
  ·rw [hw.other k e,hwA.other k e]⟩
theorem caple (w:World) (n:Nat) (h:n≤1000000):grownCap w (n+1) n 64≤9223372036854775807:=by
 have:=grownCap_le_maxLen w (n+1) n 64 (by unfold maxLen;omega)
 unfold maxLen at this
 omega
set_option maxHeartbeats 2000000 in
theorem c54:SymFOk Try.prog wTab (fun _=>True) sf54 where
 len:=by decide
 cpre:=rfl
 cpost:=rfl
 ok:=rfl
 call:=fun g w args' ht _ he hins hpc hH ha=>by
  obtain ⟨N,hN,hCs⟩:=lst_ok (i:=0) hH rfl
  obtain ⟨i,hi2,hiN,hNb⟩:=pc204 (a:=2) ht rfl hCs (hpc _ (by simp [sf54]))
  generalize hSS:g.sig.sval 0=S at hCs
  have hll:=lstE_len S N
  have hlok:=lstE_ok (C:=S) (N:=N)
  have hdec:decL (encB S)=lstE S N:=decL_of hCs
  generalize hl:lstE S N=l at hll hlok hdec
  have hx:okV (⟨g.sig.ival 3,g.sig.ival 4,g.sig.ival 5⟩:E3):=⟨hins 3 .i64 (by decide) rfl,hins 4 .i64 (by decide) rfl,hins 5 .u8 (by decide) rfl⟩
  generalize hxx:(⟨g.sig.ival 3,g.sig.ival 4,g.sig.ival 5⟩:E3)=x at hx
  have hxt:g.sig.ival 3=x.t:=by rw [←hxx]
  have hxk:g.sig.ival 4=x.k:=by rw [←hxx]
  have hxv:g.sig.ival 5=x.v:=by rw [←hxx]
  have hlen':(l.take i++x::l.drop i).length=N+1:=by simp only [List.length_append,List.length_take,List.length_cons,List.length_drop,hll];omega
  have hok': ∀y,y∈l.take i++x::l.drop i→okV y:=by
   intro y hy
   rcases List.mem_append.1 hy with h|h
   ·exact hlok y (List.mem_of_mem_take h)
   ·rcases List.mem_cons.1 h with rfl|h
    ·exact hx
    ·exact hlok y (List.mem_of_mem_drop h)
  have r6:g.sig.sval 6=Wt.encL (l.take i++x::l.drop i):=by
   have h:g.sig.sval 6=decS (g.sig.tab 254 [encB (g.sig.sval 0),g.sig.ival 2,g.sig.ival 3,g.sig.ival 4,g.sig.ival 5]):=eqFs (he.at 0 _ rfl rfl)
   have e:wTab 254 [encB S,(i:Int),x.t,x.k,x.v]=encB (Wt.encL ((decL (encB S)).take (i:Int).toNat++⟨x.t,x.k,x.v⟩::(decL (encB S)).drop (i:Int).toNat)):=rfl
   rw [h,ht,hSS,hi2,hxt,hxk,hxv,e,decS_enc,hdec,Int.toNat_natCast]
  have r7:g.sig.ival 7=((l.take i++x::l.drop i).length:Int):=by
   have h:g.sig.ival 7=IntKind.i64.wrap (g.sig.ival 1+1):=eqI (he.at 1 _ rfl rfl) rfl
   rw [wr_i64] at h
   rw [hlen'];omega
  obtain ⟨L1,hL1,C1,fr1,k1,k2,k3,k4,k5⟩:=hH.blk 1 _ rfl (by simp)
  have hvs: ∀j v,(flatE [x])[j]? =some v→w.cell? ⟨L1.blk,L1.dl+j,none⟩=some v:=by
   intro j v hj
   rw [cell_get k1]
   have key: ∀(a:AVal) (u:Value),([.symi .i64 3,.symi .i64 4,.symi .u8 5]:List AVal)[j]? =some a→(∀u',VRel g a u'→u'=u)→C1[L1.dl+j]? =some u:=by
    intro a u h1 h2
    obtain ⟨u',q1,q2,_⟩:=k5 j a h1
    rw [q1,h2 u' q2]
   match j,hj with
   |0,hj=>cases hj;exact key _ _ rfl (fun u' h=>by cases h;rw [hxt])
   |1,hj=>cases hj;exact key _ _ rfl (fun u' h=>by cases h;rw [hxk])
   |2,hj=>cases hj;exact key _ _ rfl (fun u' h=>by cases h;rw [hxv])
  have h1v: ∀v,v∈flatE [x]→v.oneCell'=true:=flatE_one [x]
  obtain ⟨u0,u2,rfl,v0,v2⟩: ∃u0 u2,args'= #[u0,.int .i64 (i:Int),u2]∧VRel g (.lsl 0 3 true (.int .i64 0) (.symi .i64 1)) u0∧VRel g (.slice 1 0 1 1 none) u2:=by
   generalize hal:args'.toList=al at ha
   cases ha with
   |cons _ a0 _ m0 q0 hm0=>
    cases hm0 with
    |cons _ a1 _ m1 q1 hm1=>
     cases hm1 with
     |cons _ a2 _ m2 q2 hm2=>
      cases hm2
      cases q1
      exact ⟨a0,a2,by rw [←Array.toArray_toList (xs:=args'),hal,hi2],q0,q2⟩
  cases v2 with
  |slice _ _ _ _ _ o' cap' L1' a1 a2 a3 a4=>
   rw [hL1] at a1;cases a1
   have ho':o'=0:=by rcases a2 with h|⟨h,_⟩<;>omega
   subst ho'
   cases v0 with
   |lsl _ _ _ _ _ o m cap ao d1 d2 d3 d4 d5=>
    simp only [den,AVal.int.injEq,true_and] at d1 d2
    have hmN:m=N:=by omega
    subst hmN
    have ho:o=0:=by omega
    subst ho
    have hbig:(m+1)*24≤140737488355328:=by omega
    by_cases h0:m=0
    ·--nothing lay there
     subst h0
     have hc:=(d4 rfl).2 rfl
     subst hc
     have hi0:i=0:=by omega
     subst hi0
     have hl0:l=[]:=List.eq_nil_of_length_eq_zero hll
     subst hl0
     refine Calls.mono (win.endGrow ao 0 0 L1.blk (L1.dl+0) cap' [] (flatE [x]) w (Nat.le_refl _) (by omega) hbig rfl rfl (fun _=>rfl) (fun a _ j v h=>by simp at h) hvs h1v) ?_
     rintro en w' ⟨rfl,rfl⟩
     have hg:=grownCap_ge w (0+1) 0 64
     have:=fin_new (w':=w.drew.alloc (.cells (([]:List Value).toArray++(flatE [x]).toArray++Builtin.zeroCells win.zv.cells (grownCap w (0+1) 0 64-(0+1))) 64)) hH (cap:=grownCap w (0+1) 0 64) hok' r6 r7 (by simp) hg (caple _ _ (by decide)) (by
      simp only [Array.size_append,List.size_toArray,zeros_size]
      show grownCap w (0+1) 0 64*3≤0+3+_
      omega) (fun k v hk=>by
      have hk:(flatE [x])[k]? =some v:=hk
      have hlt:=(List.getElem?_eq_some_iff.1 hk).1
      rw [Array.getElem?_append_left (by simpa using hlt)]
      simpa using hk) (fun v hv=>by
      simp only [Array.toList_append,List.mem_append] at hv
      rcases hv with (hv|hv)|hv
      ·cases hv
      ·exact h1v v (by simpa using hv)
      ·exact zeros_one _ v hv) (Below.refl _ _)
     exact this
    ·obtain ⟨L,hL,rfl,hcap⟩:=d5 (by omega)
     rcases hH.blk0 0 _ rfl (by simp [sf54,lstW]) with ⟨s',n',cl',e',hk,_,hn0⟩|⟨M,hM,hB⟩
     ·cases hk
      simp only [den,AVal.int.injEq,true_and] at hn0
      omega
     rw [hL] at hM;cases hM
     have hlay:=lay_of hB (congrArg AVal.str hSS) (congrArg (AVal.int .i64) hN) (by decide)
     have hmark:=mark_no hB (by decide)
     rw [hl] at hlay
     obtain ⟨C,fr,c1,c2,c3,c4,c5⟩:=hlay
     have hne:L1.blk≠L.blk:=fun he=>by
      have:=hH.inj 1 0 L1 L hL1 hL he ⟨_,rfl,by simp⟩ ⟨_,rfl,by simp [sf54,lstW]⟩
      cases this
     have hfl:=flatE_len l
     rw [hll] at hfl
     have hcs: ∀j v,(flatE l)[j]? =some v→w.cell? ⟨L.blk,L.dl+j,none⟩=some v:=fun j v h=>by rw [cell_get c1];exact c5 j v h
     simp only [Nat.zero_add] at hcap
     have hsp: ∀j,j<cap*3→(w.cell? ⟨L.blk,L.dl+j,none⟩).isSome=true:=fun j hj=>by
      rw [cell_get c1,Array.getElem?_eq_getElem (by omega)];rfl
     have hfz: ∀j,j<cap*3→w.frozen? ⟨L.blk,L.dl+j,none⟩=false:=fun j hj=>frozen_no c1 (c3.not _ (by omega))
     have hun:fr.1=fr.2:=c3.un.resolve_left (by decide)
     have hfe:w.frozen? ⟨L.blk,C.size,none⟩=false:=frozen_no c1 (by omega)
     have htl:(l.take i).length=i:=by rw [List.length_take,hll];omega
     have hdl:(l.drop i).length=m-i:=by rw [List.length_drop,hll]
     have hvl:(flatE [x]).length=3:=rfl
     have low: ∀k v,(flatE (l.take i))[k]? =some v→C[L.dl+k]? =some v∧k<i*3:=fun k v hk=>by
      rw [←flatE_take] at hk
      have hlt:=(List.getElem?_eq_some_iff.1 hk).1
      rw [List.length_take] at hlt
      rw [List.getElem?_take] at hk
      split at hk
      ·exact ⟨c5 k v hk,by omega⟩
      ·cases hk
     have hC1:C1.size≠0:=by
      have:(3:Nat)≤L1.n:=k4
      omega
     by_cases hroom:m+1≤cap
     ·have hsz:(m+1)*3≤cap*3:=Nat.mul_le_mul_right _ hroom
      by_cases him:i=m
      ·--at the end
       subst him
       refine Calls.mono (win.endRoom L.blk (L.dl+0*3) i cap L1.blk (L1.dl+0) cap' (flatE [x]) w hroom d3.2 hvl (fun j hj=>by rw [show L.dl+0*3+i*3+j=L.dl+(i*3+j) by omega];exact hsp _ (by omega)) (fun j hj=>by rw [show L.dl+0*3+i*3+j=L.dl+(i*3+j) by omega];exact hfz _ (by omega)) hvs h1v) ?_
       rintro en w' ⟨rfl,rfl⟩
       obtain ⟨C',q1,q2,q3,q4,q5,q6⟩:=setCells_at L.blk (flatE [x]) (L.dl+0*3+i*3) w C 64 fr c1 (by rw [hvl];omega) h1v c3.toFrOk
       have:=fin_in (w':=w.setCells L.blk (L.dl+0*3+i*3) (flatE [x])) hH hL hmark hok' r6 r7 (by omega) (by rw [hlen'];exact hroom) d3.2 hcap q4 (lay_snoc (L:=L) (l:=l.take i) (r:=l.drop i) (x:=x) rfl rfl q1 (by rw [q2];exact c2) ⟨q3,c3.un⟩ (by rw [htl,hdl];omega)
        (fun k v hk=>by obtain ⟨a1,a2⟩:=low k v hk;rw [q5 _ (by omega)];exact a1)
        (fun k v hk=>by rw [htl,show L.dl+(i*3+k)=L.dl+0*3+i*3+k by omega];exact q6 k v hk)
        (fun k v hk=>by have hlt:=(List.getElem?_eq_some_iff.1 hk).1;rw [flatE_len,hdl] at hlt;omega))
       rw [hlen'] at this
       rw [show L.dl+0*3=L.dl by omega] at this⊢
       exact this
      ·--in between
       refine Calls.mono (win.shift L.blk (L.dl+0*3) m cap i L1.blk (L1.dl+0) cap' (flatE l) (flatE [x]) w (by omega) hroom d3.2 hne hfl hvl (fun j v h=>by rw [show L.dl+0*3+j=L.dl+j by omega];exact hcs j v h) (fun j hj=>by rw [show L.dl+0*3+j=L.dl+j by omega];exact hsp j (by omega)) (fun j hj=>by rw [show L.dl+0*3+j=L.dl+j by omega];exact hfz j (by omega)) hvs (flatE_one l) h1v 64 64 C1.size C.size (by simp [World.shape?,k1]) (by simp [World.shape?,c1]) hC1 (by omega) hfe) ?_
       rintro en w' ⟨rfl,rfl⟩
       rw [flatE_drop]
       have hdf:(flatE (l.drop i)).length=(m-i)*3:=by rw [flatE_len,hdl]
       obtain ⟨C',q1,q2,q3,q4,q5,q6⟩:=setCells_at L.blk (flatE (l.drop i)) (L.dl+0*3+(i+1)*3) w.drew C 64 fr c1 (by rw [hdf];omega) (flatE_one _) c3.toFrOk
       obtain ⟨C'',s1,s2,s3,s4,s5,s6⟩:=setCells_at L.blk (flatE [x]) (L.dl+0*3+i*3) _ C' 64 fr q1 (by rw [hvl,q2];omega) h1v q3
       have:=fin_in hH hL hmark hok' r6 r7 (by omega) (by rw [hlen'];exact hroom) d3.2 hcap (((drew_wr L.blk w).trans q4).trans s4) (lay_snoc (L:=L) (l:=l.take i) (r:=l.drop i) (x:=x) rfl rfl s1 (by rw [s2,q2];exact c2) ⟨s3,c3.un⟩ (by rw [htl,hdl];omega)
        (fun k v hk=>by obtain ⟨a1,a2⟩:=low k v hk;rw [s5 _ (by omega),q5 _ (by omega)];exact a1)
        (fun k v hk=>by rw [htl,show L.dl+(i*3+k)=L.dl+0*3+i*3+k by omega];exact s6 k v hk)
        (fun k v hk=>by rw [htl,s5 _ (by rw [hvl];omega),show L.dl+((i+1)*3+k)=L.dl+0*3+(i+1)*3+k by omega];exact q6 k v hk))
       rw [hlen'] at this
       rw [show L.dl+0*3=L.dl by omega] at this⊢
       exact this
     ·have hcm:cap=m:=by omega
      subst hcm
      by_cases him:i=cap
      ·subst him
       refine Calls.mono (win.endGrow (some ⟨L.blk,L.dl+0*3,none⟩) i i L1.blk (L1.dl+0) cap' (flatE l) (flatE [x]) w (Nat.le_refl _) (by omega) hbig hfl hvl (fun h=>by cases h) (fun a ha j v h=>by cases ha;rw [Addr.add_lit,show L.dl+0*3+j=L.dl+j by omega];exact hcs j v h) hvs h1v) ?_
       rintro en w' ⟨rfl,rfl⟩
       have hg:=grownCap_ge w (i+1) i 64
       have hG63:=caple w i (by omega)
       have e1:l.take i++x::l.drop i=l++[x]:=by rw [List.take_of_length_le (by omega),List.drop_eq_nil_of_le (by omega)]
       have:=fin_new (w':=w.drew.alloc (.cells ((flatE l).toArray++(flatE [x]).toArray++Builtin.zeroCells win.zv.cells (grownCap w (i+1) i 64-(i+1))) 64)) hH (cap:=grownCap w (i+1) i 64) hok' r6 r7 (by omega) (by rw [hlen'];exact hg) hG63 (by
        simp only [Array.size_append,List.size_toArray,zeros_size,hfl,hvl]
        omega) (fun k v hk=>by
        rw [e1,flatE_append] at hk
        have hlt:=(List.getElem?_eq_some_iff.1 hk).1
        have e2:(flatE l).toArray++(flatE [x]).toArray=(flatE l++flatE [x]).toArray:=by simp
        rw [e2,Array.getElem?_append_left (by simpa using hlt)]
        simpa using hk) (fun v hv=>by
        simp only [Array.toList_append,List.mem_append] at hv
        rcases hv with (hv|hv)|hv
        ·exact flatE_one l v (by simpa using hv)
        ·exact h1v v (by simpa using hv)
        ·exact zeros_one _ v hv) (Below.refl _ _)
       rw [hlen'] at this
       exact this
      ·refine Calls.mono (win.grow L.blk (L.dl+0*3) cap cap i L1.blk (L1.dl+0) cap' (flatE l) (flatE [x]) w (by omega) (Nat.le_refl _) (by omega) hbig hfl hvl (fun j v h=>by rw [show L.dl+0*3+j=L.dl+j by omega];exact hcs j v h) hvs (flatE_one l) h1v) ?_
       rintro en w' ⟨rfl,rfl⟩
       have hg:=grownCap_ge w (cap+1) cap 64
       have hG63:=caple w cap (by omega)
       generalize grownCap w (cap+1) cap 64=G at hg hG63
       rw [flatE_take,flatE_drop]
       have hdf:(flatE (l.drop i)).length=(cap-i)*3:=by rw [flatE_len,hdl]
       have htf:(flatE (l.take i)).length=i*3:=by rw [flatE_len,htl]
       obtain ⟨ROW,hROW⟩: ∃ROW:Array Value,ROW=(flatE (l.take i)).toArray++Builtin.zeroCells win.zv.cells (cap+1-i)++Builtin.zeroCells win.zv.cells (G-(cap+1)):=⟨_,rfl⟩
       have hRs:ROW.size=G*3:=by rw [hROW];simp only [Array.size_append,List.size_toArray,zeros_size,htf];omega
       have hR1: ∀v,v∈ROW.toList→v.oneCell'=true:=fun v hv=>by
        rw [hROW] at hv
        simp only [Array.toList_append,List.mem_append] at hv
        rcases hv with (hv|hv)|hv
        ·exact flatE_one _ v (by simpa using hv)
        ·exact zeros_one _ v hv
        ·exact zeros_one _ v hv
       have hRl: ∀k v,(flatE (l.take i))[k]? =some v→ROW[k]? =some v:=fun k v hk=>by
        have hlt:=(List.getElem?_eq_some_iff.1 hk).1
        rw [hROW,Array.append_assoc,Array.getElem?_append_left (by simpa using hlt)]
        simpa using hk
       rw [←hROW]
       clear hROW
       obtain ⟨C',q1,q2,q3,q4,q5,q6⟩:=setCells_at w.heap.size (flatE [x]) (i*3) (w.alloc (.cells ROW 64)).drew ROW 64 (0,0) (alloc_at w ROW) (by rw [hvl];omega) h1v (FrOk.zero hR1)
       obtain ⟨C'',s1,s2,s3,s4,s5,s6⟩:=setCells_at w.heap.size (flatE (l.drop i)) ((i+1)*3) ((w.alloc (.cells ROW 64)).drew.setCells w.heap.size (i*3) (flatE [x])).drew C' 64 (0,0) q1 (by rw [hdf,q2];omega) (flatE_one _) q3
       have hw1:(w.alloc (.cells ROW 64)).heap.size=w.heap.size+1:=by simp
       have hbel:Below (w.heap.size+1) (w.drew.alloc (.cells C'' 64)) (((w.alloc (.cells ROW 64)).drew.setCells w.heap.size (i*3) (flatE [x])).drew.setCells w.heap.size ((i+1)*3) (flatE (l.drop i))):=by
        refine wr_below (w:=w.alloc (.cells ROW 64)) (C:=C'') ((((drew_wr _ _).trans q4).trans (drew_wr _ _)).trans s4) ⟨by simp,fun k hk=> ?_,rfl,rfl,rfl⟩ (by rw [hw1];omega) hw1 ?_
        ·show (w.heap.push (.cells C'' 64))[k]? =(w.heap.push (.cells ROW 64))[k]?
         rw [Array.getElem?_push,Array.getElem?_push,if_neg hk,if_neg hk]
        ·rw [s1]
         exact (alloc_at w.drew C'').symm
       have:=fin_new hH (cap:=G) hok' r6 r7 (by omega) (by rw [hlen'];exact hg) hG63 (by rw [s2,q2,hRs];exact Nat.le_refl _) (fun k v hk=>by
        have e0:flatE (l.take i++x::l.drop i)=flatE (l.take i)++(flatE [x]++flatE (l.drop i)):=by rw [flatE_append,←flatE_append [x]];rfl
        rw [e0] at hk
        by_cases a1:k<(flatE (l.take i)).length
        ·rw [List.getElem?_append_left a1] at hk
         rw [s5 _ (by omega),q5 _ (by omega)]
         exact hRl k v hk
        ·rw [List.getElem?_append_right (by omega)] at hk
         by_cases a2:k-(flatE (l.take i)).length<(flatE [x]).length
         ·rw [List.getElem?_append_left a2] at hk
          rw [s5 _ (by omega)]
          have:=q6 _ v hk
          rw [show i*3+(k-(flatE (l.take i)).length)=k by omega] at this
          exact this
         ·rw [List.getElem?_append_right (by omega)] at hk
          have:=s6 _ v hk
          rw [show (i+1)*3+(k-(flatE (l.take i)).length-(flatE [x]).length)=k by omega] at this
          exact this) s3.one hbel
       rw [hlen'] at this
       exact this
end Go.Proofs.Ytapfkgenachpgaa.wc
