/-
 slices.Insert of one element of three cells (turned from the worked proof of the shelf, SlicesInsert.lean and SlicesInsertGrow.lean).
 No conditions.
-/
import Derived.Test.YtapfkgenachpgaaWcl
import Derived.Shelf.Spec.SlicesInsertGrow
import Derived.Shelf.RegionOpenPlain
import Derived.Lib.Overlaps
import Derived.Lib.AppendZerosOnto
import Derived.Laws.IdiomCopy
set_option maxRecDepth 100000
namespace Go.Proofs.Ytapfkgenachpgaa.win
open Go.RowKit Go.Lib Go.Proofs Go.Proofs.Ytapfkgenachpgaa.wcl
set_option linter.unusedVariables false
set_option linter.unusedSimpArgs false
theorem mixed:Try.prog.follows .mixedOrders=true:=Checked.mixed Try.checked
theorem size64:(Try.prog.info? 64).map (·.size)=some 3:=by kernel_rfl
theorem under3:Try.prog.underlying 3=some (.int .i64):=by kernel_rfl
theorem run_copy3 {P:Program} (w:World) (dT sT ty elem:TypeId) (b o dLen dCap:Nat) (a:Addr) (sLen sCap:Nat) (cs:List Value)
  (hu:P.underlying dT=some (.slice elem)) (hs:(P.info? elem).map (·.size)=some 3) (hn:cs.length=Nat.min sLen dLen*3)
  (hsrc: ∀j v,cs[j]? =some v→w.cell? (a.add j)=some v) (hc: ∀j,j<cs.length→(w.cell? ⟨b,o+j,none⟩).isSome=true) (hf: ∀j,j<cs.length→w.frozen? ⟨b,o+j,none⟩=false) (h1: ∀v∈cs,v.oneCell'=true):
  (Builtin.copy_ #[dT,sT] ty #[.slice (some ⟨b,o,none⟩) dLen dCap,.slice (some a) sLen sCap]).run P w=.ok (goInt (Nat.min sLen dLen)) (w.setCells b o cs):=by
 have hl:=run_loadCells_list (P:=P) w a cs hsrc
 have hst:=run_storeCells_cells (P:=P) b o cs 0 w (by simpa using hc) (by simpa using hf) h1
 cases hq:P.info? elem with
 |none=>simp [hq] at hs
 |some i=>
  have hi:i.size=3:=by simpa [hq] using hs
  rw [hn] at hl
  simp [Builtin.copy_,run_underlying hu,Builtin.lenOf,Builtin.firstCells,sizeOf,typeInfo,hq,hi,hl,hst]
theorem overlaps_apart {P:Program} (w:World) (tS tR e:TypeId) (ht:P.underlying tS=some (.slice e)) (size:Nat) (hz: ∀w,(Go.sizeOf e).run P w=.ok size w)
  (a b:Addr) (la ca lb cb:Nat) (hne:a.block≠b.block) (tA tB:TypeId) (kA kB:Nat)
  (hsa:w.shape? a.block=some (tA,kA)) (hsb:w.shape? b.block=some (tB,kB)) (hkA:kA≠0) (hkB:kB≠0)
  (hfb:w.frozen? b=false) (hfe:w.frozen? {block:=b.block,off:=kB}=false):
  (Extern.SlicesOverlaps.overlaps #[tS,tS] #[tR] #[.slice (some a) la ca,.slice (some b) lb cb]).run P w=.ok (.bool false) w:=by
 have hnb:(a.block !=b.block)=true:=by simpa using hne
 have hnb':(a.block==b.block)=false:=by simpa using hne
 change Sem.run P (α:=Value) (do
  let some t:=(#[tS,tS]:Array TypeId)[0]?|stuck "slices.overlaps: no parameter types"
  let .slice elem←underlying t|stuck "slices.overlaps: slice type expected"
  let size←sizeOf elem
  match (some a:Option Addr),(some b:Option Addr) with
  |some a,some b=>
   if la=0∨lb=0∨size=0 then pure (Value.bool false)
   else if a.block !=b.block&&(←frozen a)&&(←frozen b) then unsupported .addressObserved
   else do
    if a.block !=b.block then do
     noView a;noView b
     if←mayBeOne a b then return Value.bool ((←choose (.extern "sameAddr.stringBytes" 2))==1)
    pure (Value.bool (a.block==b.block&&a.off<b.off+lb*size&&b.off<a.off+la*size))
  |_,_=>pure (Value.bool false)) w=_
 by_cases h0:la=0∨lb=0∨size=0
 ·simp [run_underlying ht,hz,h0]
 ·cases kB with
  |zero=>exact absurd rfl hkB
  |succ kB=>
   cases kA with
   |zero=>exact absurd rfl hkA
   |succ kA=>
    cases e1:w.frozen? a<;>cases e2:w.frozen? {block:=a.block,off:=kA+1}<;>simp [run_underlying ht,hz,h0,hnb,hnb',frozen,noView,viewAt,mayBeOne,stringish,shape,Sem.run,hsa,hsb,hfb,hfe,e1,e2]
theorem ovl_apart (w:World) {vb b:Nat} (hvb:vb≠b) (voff o m vc lb cb:Nat) (tA tB:TypeId) (kA kB:Nat) (hsa:w.shape? vb=some (tA,kA)) (hsb:w.shape? b=some (tB,kB)) (hkA:kA≠0) (hkB:kB≠0) (hfb:w.frozen? ⟨b,o,none⟩=false) (hfe:w.frozen? ⟨b,kB,none⟩=false):
  (callFunc 92 #[.slice (some ⟨vb,voff,none⟩) m vc,.slice (some ⟨b,o,none⟩) lb cb]).run Try.prog w=.ok (.value (.bool false)) w:=by
 rw [run_callFunc_extern (f:=92) Try.func92 (by kernel_rfl) (by kernel_rfl) (by kernel_rfl) (e:=Extern.SlicesOverlaps.overlaps #[61,61] #[4]) (by kernel_rfl),
  overlaps_apart w 61 4 64 under61 3 (fun w=>by kernel_rfl) ⟨vb,voff,none⟩ ⟨b,o,none⟩ m vc lb cb hvb tA tB kA kB hsa hsb hkA hkB hfb hfe]
 rfl
set_option maxHeartbeats 4000000 in
theorem shift (b off n c i vb voff vc:Nat) (cs vs:List Value) (w:World) (hi:i<n) (hroom:n+1≤c) (hc63:c≤9223372036854775807) (hvb:vb≠b)
  (hcl:cs.length=n*3) (hvl:vs.length=3)
  (hcs: ∀j v,cs[j]? =some v→w.cell? ⟨b,off+j,none⟩=some v) (hsp: ∀j,j<(n+1)*3→(w.cell? ⟨b,off+j,none⟩).isSome=true) (hfz: ∀j,j<(n+1)*3→w.frozen? ⟨b,off+j,none⟩=false)
  (hvs: ∀j v,vs[j]? =some v→w.cell? ⟨vb,voff+j,none⟩=some v) (h1c: ∀v∈cs,v.oneCell'=true) (h1v: ∀v∈vs,v.oneCell'=true)
  (tA tB:TypeId) (kA kB:Nat) (hsa:w.shape? vb=some (tA,kA)) (hsb:w.shape? b=some (tB,kB)) (hkA:kA≠0) (hkB:kB≠0) (hfe:w.frozen? ⟨b,kB,none⟩=false):
  Calls Try.prog 54 #[.slice (some ⟨b,off,none⟩) n c,.int .i64 i,.slice (some ⟨vb,voff,none⟩) 1 vc] w fun e w'=>
   e=.returned (.slice (some ⟨b,off,none⟩) (n+1) c)∧w'=(w.drew.setCells b (off+(i+1)*3) (cs.drop (i*3))).setCells b (off+i*3) vs:=by
 have hz1: ¬((1:Int)=0):=by omega
 have hz2: ¬((i:Int)=(n:Int)):=by omega
 have hov: ∀lb cb,(callFunc 92 #[.slice (some ⟨vb,voff,none⟩) 1 vc,.slice (some ⟨b,off+(i+1)*3,none⟩) lb cb]).run Try.prog w=.ok (.value (.bool false)) w:=fun lb cb=>ovl_apart w hvb _ _ _ _ _ _ tA tB kA kB hsa hsb hkA hkB (hfz ((i+1)*3) (by omega)) hfe
 have hdl:(cs.drop (i*3)).length=(n-i)*3:=by rw [List.length_drop,hcl,Nat.sub_mul]
 have mixed:=mixed
 have hw1:IntKind.i64.wrap ((i:Int)+1)=(i:Int)+1:=by rw [IntKind.wrap_i64];omega
 have hb1:(0:Int)≤(i:Int)+1:=by omega
 have hin:i≤n:=by omega
 have htn:((i:Int)+1).toNat=i+1:=by omega
 have hb2: ¬(c=i+1):=by omega
 have hb3:(i:Int)≤(n:Int)+1:=by omega
 have hb4: ¬(c=i):=by omega
 have hcp1: ∀ty dc sc,(Builtin.copy_ #[61,61] ty #[.slice (some ⟨b,off+(i+1)*3,none⟩) (n-i) dc,.slice (some ⟨b,off+i*3,none⟩) (n+1-i) sc]).run Try.prog w.drew=.ok (goInt ((n-i:Nat):Int)) (w.drew.setCells b (off+(i+1)*3) (cs.drop (i*3))):=fun ty dc sc=>by
  have hm:Nat.min (n+1-i) (n-i)=n-i:=by simp only [Nat.min_def];split<;>omega
  have:=run_copy3 w.drew 61 61 ty 64 b (off+(i+1)*3) (n-i) dc ⟨b,off+i*3,none⟩ (n+1-i) sc (cs.drop (i*3)) under61 size64 (by rw [hdl,hm])
   (fun j v hj=>by rw [Addr.add_lit,Nat.add_assoc];exact hcs (i*3+j) v (by rwa [List.getElem?_drop] at hj))
   (fun j hj=>by rw [Nat.add_assoc];exact hsp _ (by omega)) (fun j hj=>by rw [Nat.add_assoc];exact hfz _ (by omega)) (fun v hv=>h1c v (List.mem_of_mem_drop hv))
  rw [hm] at this
  exact this
 obtain ⟨W1,hW1⟩: ∃W1,W1=w.drew.setCells b (off+(i+1)*3) (cs.drop (i*3)):=⟨_,rfl⟩
 have hsp1: ∀k,k<(n+1)*3→(W1.cell? ⟨b,off+k,none⟩).isSome=true:=fun k hk=>by
  rw [hW1]
  exact isSome_setCells b _ _ _ (fun j hj=>by rw [Nat.add_assoc];exact hsp _ (by omega)) _ (hsp k hk)
 have hcp2: ∀(W:World),(∀x,W.cell? x=W1.cell? x)→(∀x,W.frozen? x=W1.frozen? x)→ ∀ty dc,(Builtin.copy_ #[61,61] ty #[.slice (some ⟨b,off+i*3,none⟩) (n+1-i) dc,.slice (some ⟨vb,voff,none⟩) 1 vc]).run Try.prog W=.ok (goInt 1) (W.setCells b (off+i*3) vs):=fun W hWc hWf ty dc=>by
  have hm:Nat.min 1 (n+1-i)=1:=by simp only [Nat.min_def];split<;>omega
  have:=run_copy3 W 61 61 ty 64 b (off+i*3) (n+1-i) dc ⟨vb,voff,none⟩ 1 vc vs under61 size64 (by rw [hvl,hm])
   (fun j v hj=>by
    rw [Addr.add_lit,hWc,hW1,World.cell?_setCells_out b _ _ _ _ (fun h _=>absurd h hvb)]
    exact hvs j v hj)
   (fun j hj=>by rw [hWc,Nat.add_assoc];exact hsp1 _ (by omega)) (fun j hj=>by rw [hWf,hW1,World.frozen?_setCells,Nat.add_assoc];exact hfz _ (by omega)) h1v
  rw [hm] at this
  exact this
 rw [←hW1] at hcp1
 go_enter Try.func54,Try.ntmps54
 go_wp2_with (simp only [hov])
 go_region_law_o (refine step_copy_runI rfl _ _ 61 61 rfl _ _ (by simp [Act.eval,Act.put]) (by simp [Act.eval,Act.put]) (hcp1 _ _ _) ?_)
 go_wp2_with (at_builtin;refine wpList_copy_runI _ rfl _ _ 61 61 rfl _ _ rfl rfl (hcp2 _ (fun _=>rfl) (fun _=>rfl) _ _) ?_)
 go_ret
 first|exact ⟨rfl,rfl⟩|exact ⟨rfl,by rw [hW1]⟩
theorem info64:(Try.prog.info? 64).map (fun i=>(i.zero,i.size,i.bytes))=some (some (.agg #[.int .i64 0,.int .i64 0,.int .u8 0]),3,24):=by kernel_rfl
abbrev zv:Value:=.agg #[.int .i64 0,.int .i64 0,.int .u8 0]
set_option maxHeartbeats 4000000 in
theorem endRoom (b off n c vb voff vc:Nat) (vs:List Value) (w:World) (hroom:n+1≤c) (hc63:c≤9223372036854775807)
  (hvl:vs.length=3) (hsp: ∀j,j<3→(w.cell? ⟨b,off+n*3+j,none⟩).isSome=true) (hfz: ∀j,j<3→w.frozen? ⟨b,off+n*3+j,none⟩=false)
  (hvs: ∀j v,vs[j]? =some v→w.cell? ⟨vb,voff+j,none⟩=some v) (h1v: ∀v∈vs,v.oneCell'=true):
  Calls Try.prog 54 #[.slice (some ⟨b,off,none⟩) n c,.int .i64 n,.slice (some ⟨vb,voff,none⟩) 1 vc] w fun e w'=>
   e=.returned (.slice (some ⟨b,off,none⟩) (n+1) c)∧w'=w.setCells b (off+n*3) vs:=by
 obtain ⟨i0,hi0,hz0,hzs,hzb⟩:=info_parts info64
 have mixed:=mixed
 have hst:=run_storeCells_cells (P:=Try.prog) b (off+n*3) vs 0 w (fun j hj=>by simpa using hsp j (by omega)) (fun j hj=>by simpa using hfz j (by omega)) h1v
 have hnew:(Builtin.firstCells i0.size 1 (.slice (some ⟨vb,voff,none⟩) 1 vc)).run Try.prog w=.ok vs.toArray w:=run_firstCells_some w _ 1 ⟨vb,voff,none⟩ 1 vc vs (by rw [hvl,hzs]) (fun j v hj=>by rw [Addr.add_lit];exact hvs j v hj)
 have hrun: ∀ty,(Builtin.append_ #[61,61] ty #[.slice (some ⟨b,off,none⟩) n c,.slice (some ⟨vb,voff,none⟩) 1 vc]).run Try.prog w=.ok (.slice (some ⟨b,off,none⟩) (n+1) c) (w.setCells b (off+n*3) vs):=fun ty=>by
  rw [Go.Ev.run_append_room' (P:=Try.prog) (w:=w) 61 61 ty 64 (.slice 64) i0 under61 under61 rfl hi0 ⟨b,off,none⟩ n c 1 (.slice (some ⟨vb,voff,none⟩) 1 vc) vs rfl hnew hroom,hzs,Addr.add_lit,hst]
  rfl
 go_enter Try.func54,Try.ntmps54
 go_wp2_with (at_builtin;refine Lib.wpList_append_run _ rfl _ _ _ _ rfl _ _ rfl rfl _ _ (hrun _) ?_)
 go_ret
 exact ⟨rfl,rfl⟩
set_option maxHeartbeats 4000000 in
theorem endGrow (base:Option Addr) (n c vb voff vc:Nat) (cs vs:List Value) (w:World) (hnc:n≤c) (hroom:c<n+1) (hbig:(n+1)*24≤140737488355328)
  (hcl:cs.length=n*3) (hvl:vs.length=3) (hnil:base=none→n=0)
  (hcs: ∀a,base=some a→ ∀j v,cs[j]? =some v→w.cell? (a.add j)=some v)
  (hvs: ∀j v,vs[j]? =some v→w.cell? ⟨vb,voff+j,none⟩=some v) (h1v: ∀v∈vs,v.oneCell'=true):
  Calls Try.prog 54 #[.slice base n c,.int .i64 n,.slice (some ⟨vb,voff,none⟩) 1 vc] w fun e w'=>
   e=.returned (.slice (some ⟨w.heap.size,0,none⟩) (n+1) (grownCap w (n+1) c 64))∧
   w'=w.drew.alloc (.cells (cs.toArray++vs.toArray++Builtin.zeroCells zv.cells (grownCap w (n+1) c 64-(n+1))) 64):=by
 obtain ⟨i0,hi0,hz0,hzs,hzb⟩:=info_parts info64
 have mixed:=mixed
 have hnew:(Builtin.firstCells i0.size 1 (.slice (some ⟨vb,voff,none⟩) 1 vc)).run Try.prog w.drew=.ok vs.toArray w.drew:=run_firstCells_some w.drew _ 1 ⟨vb,voff,none⟩ 1 vc vs (by rw [hvl,hzs]) (fun j v hj=>by rw [Addr.add_lit];exact hvs j v hj)
 have hold:(Builtin.firstCells i0.size n (.slice base n c)).run Try.prog w.drew=.ok cs.toArray w.drew:=by
  rw [hzs]
  cases base with
  |none=>
   have h0:=hnil rfl
   subst h0
   rw [List.length_eq_zero_iff.1 (by omega:cs.length=0)]
   exact run_firstCells_none w.drew 3 0 0 c
  |some a=>exact run_firstCells_some w.drew 3 n a n c cs (by omega) (fun j v hj=>hcs a rfl j v hj)
 have hrun: ∀ty,(Builtin.append_ #[61,61] ty #[.slice base n c,.slice (some ⟨vb,voff,none⟩) 1 vc]).run Try.prog w=_:=fun ty=>
  Go.Ev.run_append_grow' (P:=Try.prog) (w:=w) 61 61 ty 64 (.slice 64) i0 zv under61 under61 rfl hi0 hz0 base n c 1 (.slice (some ⟨vb,voff,none⟩) 1 vc) cs vs rfl hnew hold hroom (by omega) (by rw [hzb];exact growslice_fits hroom hbig)
 go_enter Try.func54,Try.ntmps54
 cases base with
 |none=>
  have h0:=hnil rfl
  subst h0
  go_wp2_with (at_builtin;refine Lib.wpList_append_run _ rfl _ _ _ _ rfl _ _ rfl rfl _ _ (hrun _) ?_)
  go_ret
  exact ⟨rfl,rfl⟩
 |some a=>
  obtain ⟨ab,ao,asp⟩:=a
  go_wp2_with (at_builtin;refine Lib.wpList_append_run _ rfl _ _ _ _ rfl _ _ rfl rfl _ _ (hrun _) ?_)
  all_goals (go_ret;exact ⟨rfl,rfl⟩)
set_option maxHeartbeats 4000000 in
theorem grow (b off n c i vb voff vc:Nat) (cs vs:List Value) (w:World) (hi:i<n) (hnc:n≤c) (hroom:c<n+1) (hbig:(n+1)*24≤140737488355328)
  (hcl:cs.length=n*3) (hvl:vs.length=3)
  (hcs: ∀j v,cs[j]? =some v→w.cell? ⟨b,off+j,none⟩=some v)
  (hvs: ∀j v,vs[j]? =some v→w.cell? ⟨vb,voff+j,none⟩=some v) (h1c: ∀v∈cs,v.oneCell'=true) (h1v: ∀v∈vs,v.oneCell'=true):
  Calls Try.prog 54 #[.slice (some ⟨b,off,none⟩) n c,.int .i64 i,.slice (some ⟨vb,voff,none⟩) 1 vc] w fun e w'=>
   e=.returned (.slice (some ⟨w.heap.size,0,none⟩) (n+1) (grownCap w (n+1) c 64))∧
   w'=(((w.alloc (.cells ((cs.take (i*3)).toArray++Builtin.zeroCells zv.cells (n+1-i)++Builtin.zeroCells zv.cells (grownCap w (n+1) c 64-(n+1))) 64)).drew.setCells w.heap.size (i*3) vs).drew).setCells w.heap.size ((i+1)*3) (cs.drop (i*3)):=by
 have mixed:=mixed
 obtain ⟨i0,hi0,hz0,hzs,hzb⟩:=info_parts info64
 have hz2: ¬((i:Int)=(n:Int)):=by omega
 have hz3:(c:Int)<(n:Int)+1:=by omega
 have hbw:b<w.heap.size:=block_lt_of_cell (hcs 0 _ (List.getElem?_eq_getElem (by omega)))
 have hvw:vb<w.heap.size:=block_lt_of_cell (hvs 0 _ (List.getElem?_eq_getElem (by omega)))
 have hkk:(n:Int)+1-(i:Int)=((n+1-i:Nat):Int):=by omega
 have hik:i+(n+1-i)=n+1:=by omega
 have hold:(Builtin.firstCells i0.size i (.slice (some ⟨b,off,none⟩) i c)).run Try.prog w.drew=.ok (cs.take (i*3)).toArray w.drew:=by
  rw [hzs]
  exact run_firstCells_some w.drew 3 i ⟨b,off,none⟩ i c (cs.take (i*3)) (by rw [List.length_take];omega) (fun j v hj=>by
   rw [Addr.add_lit]
   rw [List.getElem?_take] at hj
   split at hj
   ·exact hcs j v hj
   ·cases hj)
 have hrz: ∀ty,(Builtin.append_ #[61,3] ty #[.slice (some ⟨b,off,none⟩) i c,.int .i64 ((n:Int)+1-(i:Int))]).run Try.prog w=
   .ok (.slice (some ⟨w.heap.size,0,none⟩) (n+1) (grownCap w (n+1) c 64)) (w.drew.alloc (.cells ((cs.take (i*3)).toArray++Builtin.zeroCells zv.cells (n+1-i)++Builtin.zeroCells zv.cells (grownCap w (n+1) c 64-(n+1))) 64)):=fun ty=>by
  have h:=Lib.run_append_grow_zeros w 61 3 ty 64 i0 _ .i64 .i64 under61 under3 hi0 hz0 (some ⟨b,off,none⟩) i c (cs.take (i*3)) hold (n+1-i) (by omega) (by omega) (by omega) (by omega) (by rw [hzb];omega) (by rw [hzb,hik];exact growslice_fits hroom hbig)
  rw [hik] at h
  rw [hkk]
  exact h
 obtain ⟨G,hG⟩: ∃G,G=grownCap w (n+1) c 64:=⟨_,rfl⟩
 obtain ⟨ROW,hROW⟩: ∃ROW:Array Value,ROW=(cs.take (i*3)).toArray++Builtin.zeroCells zv.cells (n+1-i)++Builtin.zeroCells zv.cells (G-(n+1)):=⟨_,rfl⟩
 rw [←hG] at hrz⊢
 rw [←hROW] at hrz⊢
 have hRl:(n+1)*3≤ROW.size:=by
  rw [hROW]
  have h1: ∀k,(Builtin.zeroCells zv.cells k).size=k*3:=fun k=>by simp [Builtin.zeroCells,Value.cells]
  simp only [Array.size_append,List.size_toArray,List.length_take,h1]
  omega
 obtain ⟨W1,hW1⟩: ∃W1,W1=w.drew.alloc (.cells ROW 64):=⟨_,rfl⟩
 rw [←hW1] at hrz
 have hN: ∀j,j<(n+1)*3→(W1.cell? ⟨w.heap.size,j,none⟩).isSome=true:=fun j hj=>by
  rw [hW1,World.cell?_alloc_at (w:=w.drew) ROW _ w.heap.size j rfl,Array.getElem?_eq_getElem (by omega)];rfl
 have hNf: ∀j,W1.frozen? ⟨w.heap.size,j,none⟩=false:=fun j=>by rw [hW1];exact World.frozen?_alloc_at (w:=w.drew) ROW _ w.heap.size j rfl
 have hOb: ∀j v,w.cell? ⟨b,j,none⟩=some v→W1.cell? ⟨b,j,none⟩=some v:=fun j v h=>by rw [hW1,World.cell?_alloc_past (w:=w.drew) _ b j hbw];exact h
 have hOv: ∀j v,w.cell? ⟨vb,j,none⟩=some v→W1.cell? ⟨vb,j,none⟩=some v:=fun j v h=>by rw [hW1,World.cell?_alloc_past (w:=w.drew) _ vb j hvw];exact h
 have hcpA: ∀(W:World),(∀x,W.cell? x=W1.cell? x)→(∀x,W.frozen? x=W1.frozen? x)→ ∀ty dc,(Builtin.copy_ #[61,61] ty #[.slice (some ⟨w.heap.size,i*3,none⟩) (n+1-i) dc,.slice (some ⟨vb,voff,none⟩) 1 vc]).run Try.prog W=.ok (goInt 1) (W.setCells w.heap.size (i*3) vs):=fun W hWc hWf ty dc=>by
  have hm:Nat.min 1 (n+1-i)=1:=by simp only [Nat.min_def];split<;>omega
  have:=run_copy3 W 61 61 ty 64 w.heap.size (i*3) (n+1-i) dc ⟨vb,voff,none⟩ 1 vc vs under61 size64 (by rw [hvl,hm])
   (fun j v hj=>by rw [Addr.add_lit,hWc];exact hOv _ v (hvs j v hj))
   (fun j hj=>by rw [hWc];exact hN _ (by omega)) (fun j hj=>by rw [hWf];exact hNf _) h1v
  rw [hm] at this
  exact this
 have hGn:n+1≤G:=by rw [hG];exact grownCap_ge w _ _ _
 have hG63:G≤9223372036854775807:=by
  have:=grownCap_le_maxLen w (n+1) c 64 (by unfold maxLen;omega)
  rw [←hG] at this
  unfold maxLen at this
  omega
 have hGi: ¬(G=i):=by omega
 have hGim: ¬(G=i+1):=by omega
 have hci: ¬(c=i):=by omega
 have hbN:b≠w.heap.size:=by omega
 have hdl:(cs.drop (i*3)).length=(n-i)*3:=by rw [List.length_drop,hcl,Nat.sub_mul]
 have hcpB: ∀(W:World),(∀x,W.cell? x=(W1.setCells w.heap.size (i*3) vs).cell? x)→(∀x,W.frozen? x=(W1.setCells w.heap.size (i*3) vs).frozen? x)→ ∀ty dc sc,(Builtin.copy_ #[61,61] ty #[.slice (some ⟨w.heap.size,(i+1)*3,none⟩) (n-i) dc,.slice (some ⟨b,off+i*3,none⟩) (n-i) sc]).run Try.prog W=.ok (goInt ((n-i:Nat):Int)) (W.setCells w.heap.size ((i+1)*3) (cs.drop (i*3))):=fun W hWc hWf ty dc sc=>by
  have hm:Nat.min (n-i) (n-i)=n-i:=Nat.min_self _
  have:=run_copy3 W 61 61 ty 64 w.heap.size ((i+1)*3) (n-i) dc ⟨b,off+i*3,none⟩ (n-i) sc (cs.drop (i*3)) under61 size64 (by rw [hdl,hm])
   (fun j v hj=>by
    rw [Addr.add_lit,hWc,World.cell?_setCells_out _ _ _ _ _ (fun h _=>absurd h hbN),Nat.add_assoc]
    exact hOb _ v (hcs (i*3+j) v (by rwa [List.getElem?_drop] at hj)))
   (fun j hj=>by rw [hWc];exact isSome_setCells _ _ _ _ (fun t ht=>hN _ (by omega)) _ (hN _ (by omega)))
   (fun j hj=>by rw [hWf,World.frozen?_setCells];exact hNf _) (fun v hv=>h1c v (List.mem_of_mem_drop hv))
  rw [hm] at this
  exact this
 subst hW1
 have hE1: ∀x,((w.alloc (.cells ROW 64)).drew).cell? x=(w.drew.alloc (.cells ROW 64)).cell? x:=fun x=>rfl
 have hE2: ∀x,((w.alloc (.cells ROW 64)).drew).frozen? x=(w.drew.alloc (.cells ROW 64)).frozen? x:=fun x=>rfl
 have hF1: ∀x,(((w.alloc (.cells ROW 64)).drew.setCells w.heap.size (i*3) vs).drew).cell? x=((w.drew.alloc (.cells ROW 64)).setCells w.heap.size (i*3) vs).cell? x:=fun x=>rfl
 have hF2: ∀x,(((w.alloc (.cells ROW 64)).drew.setCells w.heap.size (i*3) vs).drew).frozen? x=((w.drew.alloc (.cells ROW 64)).setCells w.heap.size (i*3) vs).frozen? x:=fun x=>rfl
 have hw1:IntKind.i64.wrap ((i:Int)+1)=(i:Int)+1:=by rw [IntKind.wrap_i64];omega
 have hb1:(0:Int)≤(i:Int)+1:=by omega
 have hin:i≤n:=by omega
 have htn:((i:Int)+1).toNat=i+1:=by omega
 have hb3:(i:Int)≤(n:Int):=by omega
 clear hkk hik hold hROW hG hRl
 go_enter Try.func54,Try.ntmps54
 go_wp2_with (first
  |(at_builtin;refine Lib.wpList_append_run _ rfl _ _ _ _ rfl _ _ rfl rfl _ _ (hrz _) ?_)
  |(at_builtin;refine wpList_copy_runI _ rfl _ _ 61 61 rfl _ _ rfl rfl (hcpA _ hE1 hE2 _ _) ?_)
  |(at_builtin;refine wpList_copy_runI _ rfl _ _ 61 61 rfl _ _ rfl rfl (hcpB _ (fun _=>rfl) (fun _=>rfl) _ _ _) ?_))
 go_region_law_o (refine step_copy_runI rfl _ _ 61 61 rfl (.slice (some ⟨w.heap.size,(i+1)*3,none⟩) (n-i) (G-(i+1))) (.slice (some ⟨b,off+i*3,none⟩) (n-i) (c-i)) (by simp [Act.eval,Act.put]) (by simp [Act.eval,Act.put]) (hcpB _ hF1 hF2 3 (G-(i+1)) (c-i)) ?_)
 go_wp2
 go_ret
 exact ⟨rfl,rfl⟩
end Go.Proofs.Ytapfkgenachpgaa.win
