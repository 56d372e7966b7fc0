/-
 A list that came in, as a list that is read alone; how a law of such a list begins and ends.
 No conditions.
-/
import Derived.Test.YtapfkgenachpgaaWu4
import Derived.Test.YtapfkgenachpgaaEv8
namespace Go.Proofs.Ytapfkgenachpgaa.wc
open Go.Ev Go.RowKit Go.Wpl Go.Wt
set_option linter.unusedVariables false
set_option linter.unusedSimpArgs false
def SlcV (W:World) (z:Nat) (v:Value):Prop:=
 ∃(a:Option Addr) (len cap:Nat),v=.slice a len cap∧cap≤9223372036854775807∧(0<len→ ∃(ad:Addr) (C:Array Value) (e:TypeId) (fr:Nat×Nat),a=some ad∧ad.spot=none∧W.heap[ad.block]? =some (.cells C e fr)∧ad.off+cap*z≤C.size)
theorem open_cap {H:Type} {enc:TypeId×Value→H} {P:Program} {W:World} {t e:TypeId} {v:Value} {d:DataW H} {ps:List MemPlace} {r:Reach} {b0 z:Nat} (ht:P.underlying t=some (.slice e)) (hz:P.cellsOf e=z) (hpos:0<z)
  (hv:Value.okWide P W r b0 t v) (hd:DataW.Trod enc P W 0 (fun _=>true) true t v d ps):SlcV W z v:=by
 obtain ⟨a0,len,cap,rfl⟩:=Go.WideShapes.okWide_slice ht hv
 obtain ⟨fuel,hd⟩:=hd
 have hcs:(Value.slice a0 len cap).cells.toList=[.slice a0 len cap]:=rfl
 rw [hcs] at hd
 rcases DataW.trod_slice ht hd with ⟨h1,h2⟩|⟨a,len',cap',elems,rest,m,rfl,h1,h2,_,hlc,hcm,hel,hall,hsp,_⟩
 ·simp only [List.cons.injEq,Value.slice.injEq,and_true] at h1
  obtain ⟨rfl,rfl,rfl⟩:=h1
  exact ⟨none,0,0,rfl,by decide,fun h=>absurd h (Nat.lt_irrefl 0)⟩
 ·simp only [List.cons.injEq,Value.slice.injEq,and_true] at h1
  obtain ⟨rfl,rfl,rfl⟩:=h1
  obtain ⟨hrl,hrest⟩:=hsp rfl
  refine ⟨some a,len,cap,rfl,by unfold maxLen at hcm;omega,fun hl=> ?_⟩
  have: ∃cs,W.cells? 0 (a.add ((cap-1)*P.cellsOf e)) (P.cellsOf e)=some cs:=by
   by_cases hk:cap-1<len
   ·have h3:=hall (cap-1) hk
    rw [List.getElem?_eq_getElem (by omega)] at h3
    obtain ⟨cs,h4,_⟩:=Option.bind_eq_some_iff.1 h3
    exact ⟨cs,h4⟩
   ·have h3:=hrest (cap-1-len) (by omega)
    rw [List.getElem?_eq_getElem (by omega),show len+(cap-1-len)=cap-1 by omega] at h3
    obtain ⟨cs,h4,_⟩:=Option.bind_eq_some_iff.1 h3
    exact ⟨cs,h4⟩
  obtain ⟨cs,h4⟩:=this
  obtain ⟨_,hlen,h5⟩:=World.cells?_some h4
  have h6:=h5 (z-1) (by omega)
  rw [List.getElem?_eq_getElem (by omega),add_add'] at h6
  unfold World.cell? at h6
  split at h6
  ·rename_i C e' fr hheap
   rw [add_block] at hheap
   have hsp0:a.spot=none:=by
    cases hs:a.spot with
    |none=>rfl
    |some x=>
     have hh:(a.add ((cap-1)*P.cellsOf e+(z-1))).spot=some x∨(a.add ((cap-1)*P.cellsOf e+(z-1))).spot=none:=by
      unfold Addr.add;split
      ·exact .inl hs
      ·exact .inr rfl
     have h3:=hall 0 hl
     rw [List.getElem?_eq_getElem (by omega),Nat.zero_mul] at h3
     obtain ⟨cs0,k4,_⟩:=Option.bind_eq_some_iff.1 h3
     obtain ⟨_,klen,k5⟩:=World.cells?_some k4
     have k6:=k5 0 (by omega)
     have hadd:(a.add 0).add 0=a:=by simp [Addr.add]
     rw [hadd,List.getElem?_eq_getElem (by omega)] at k6
     unfold World.cell? at k6
     rw [hheap,hs] at k6
     simp at k6
   refine ⟨a,C,e',fr,rfl,hsp0,hheap,?_⟩
   have hoff:(a.add ((cap-1)*P.cellsOf e+(z-1))).off=a.off+((cap-1)*P.cellsOf e+(z-1)):=by
    unfold Addr.add;split
    ·rename_i h0;rw [h0];rfl
    ·rfl
   have hspot:(a.add ((cap-1)*P.cellsOf e+(z-1))).spot=none:=by unfold Addr.add;split;exact hsp0;rfl
   rw [hspot,hoff] at h6
   simp at h6
   have h7:C[a.off+((cap-1)*P.cellsOf e+(z-1))]?≠none:=by
    intro h8
    simp [h8] at h6
   have h8:a.off+((cap-1)*P.cellsOf e+(z-1))<C.size:=by
    rcases Nat.lt_or_ge (a.off+((cap-1)*P.cellsOf e+(z-1))) C.size with h|h
    ·exact h
    ·exact absurd (Array.getElem?_eq_none h) h7
   have hc1:1≤cap:=by omega
   have hm:cap*z=(cap-1)*z+z:=by
    rw [←Nat.succ_mul];congr 1;omega
   rw [hz] at h8
   omega
  ·cases h6
abbrev e3:List Cl:=[.i .i64,.i .i64,.i .u8]
def conI (X:Fz):Nat→ByteArray
 |0=> .empty
 |n+1=>conI X n++⟨(rowB cl3 [X.val n 0,X.val n 1,X.val n 2]).toArray⟩
theorem elI {W:World} {v:Value} {X:Fz} (hX:RowV W e3 v X) {m:Nat} (hm:m<X.len): ∃a b c:Int,X.val m 0=.int .i64 a∧X.val m 1=.int .i64 b∧X.val m 2=.int .u8 c∧IntKind.i64.wrap a=a∧IntKind.i64.wrap b=b∧IntKind.u8.wrap c=c:=by
 obtain ⟨a,a1,a2⟩:=el_get (hX.els m hm) (j:=0) (z:=.i .i64) rfl
 obtain ⟨b,b1,b2⟩:=el_get (hX.els m hm) (j:=1) (z:=.i .i64) rfl
 obtain ⟨c,c1,c2⟩:=el_get (hX.els m hm) (j:=2) (z:=.i .u8) rfl
 exact ⟨a,b,c,a2,b2,c2,a1,b1,c1⟩
theorem rowI_ok {a b c:Int} (h1:IntKind.i64.wrap a=a) (h2:IntKind.i64.wrap b=b) (h3:IntKind.u8.wrap c=c):okCs (cx0 (fun _ _=>0)) cl3 [.int .i64 a,.int .i64 b,.int .u8 c]=true:=by
 simp [okCs,okC,cl3,h1,h2,h3]
theorem rowI_len {W:World} {v:Value} {X:Fz} (hX:RowV W e3 v X) {m:Nat} (hm:m<X.len):(rowB cl3 [X.val m 0,X.val m 1,X.val m 2]).length=17:=by
 obtain ⟨a,b,c,q1,q2,q3,h1,h2,h3⟩:=elI hX hm
 rw [q1,q2,q3]
 exact rowB_len (σ:=⟨fun _=>0,fun _=>false,fun _=> .empty,fun _ _=>0,fun _=>none⟩) (rowI_ok h1 h2 h3)
theorem conI_len {W:World} {v:Value} {X:Fz} (hX:RowV W e3 v X): ∀n,n≤X.len→(conI X n).data.toList.length=n*17
 |0,_=>rfl
 |n+1,h=>by
  have e:(conI X (n+1)).data.toList=(conI X n).data.toList++rowB cl3 [X.val n 0,X.val n 1,X.val n 2]:=by simp [conI,ByteArray.data_append]
  rw [e,List.length_append,conI_len hX n (by omega),rowI_len hX (by omega)];omega
theorem conI_at {W:World} {v:Value} {X:Fz} (hX:RowV W e3 v X): ∀n,n≤X.len→ ∀m j,m<n→j<3→X.val m j=rowAtD cl3 (conI X n) m j
 |0,_,m,j,hm,_=>absurd hm (Nat.not_lt_zero m)
 |n+1,h,m,j,hm,hj=>by
  rw [conI,rowAtD_append (N:=n) (by rw [rsz3];exact conI_len hX n (by omega))]
  by_cases e:m<n
  ·rw [if_pos e];exact conI_at hX n (by omega) m j e hj
  ·have:m=n:=by omega
   subst this
   rw [if_neg e,Nat.sub_self]
   obtain ⟨a,b,c,q1,q2,q3,h1,h2,h3⟩:=elI hX (show m<X.len by omega)
   have key:=cellD_rowB (ng:=cx0 (fun _ _=>0)) (σ:=⟨fun _=>0,fun _=>false,fun _=> .empty,fun _ _=>0,fun _=>none⟩) (cx0_good rfl) [] (rowI_ok h1 h2 h3)
   rw [List.append_nil] at key
   unfold rowAtD
   rw [Nat.zero_mul,List.drop_zero,q1,q2,q3]
   match j,hj with
   |0,_=>rw [q1];exact (key 0 _ rfl).symm
   |1,_=>rw [q2];exact (key 1 _ rfl).symm
   |2,_=>rw [q3];exact (key 2 _ rfl).symm
def rowO (W:World) (X:Fz):Fz:={X with obj:=W.heap[X.blk]?}
def mkX (W:World) (X:Fz):Fz:=⟨X.blk,X.off,3,0,fun _ _=> .nilptr,W.heap[X.blk]?⟩
def ext7 (W:World) (X Y:Fz):Nat→Option Fz:=fun i=>if i=0 then some Y else if 0<X.len then (if i=1 then some (rowO W X) else if i=1000 then some (mkX W X) else none) else none
def extM (W:World) (X:Fz):Nat→Option Fz:=fun i=>if 0<X.len∧i=1000 then some (mkX W X) else none
def locR (W:World) (X:Fz):Ev.Loc:=⟨X.blk,X.off,match W.heap[X.blk]? with|some (.cells C _ _)=>C.size-X.off|_=>0⟩
def fra7 (W:World) (X:Fz):Fra where
 w:=W
 own:=fun b=>W.heap.size≤b∨(0<X.len∧b=X.blk)
 new:=fun _ h=> .inl h
 pin:=fun i=>if i=0 then some (if 0<X.len then some (locR W X) else none) else none
theorem rowO_ok {W:World} {v:Value} {X:Fz} (hX:RowV W e3 v X) (hl:0<X.len):FzOk (rowO W X) W:=by
 obtain ⟨C,e,fr,h1,h2,h3⟩:=hX.ok hl
 exact ⟨C,e,fr,h1,h2,fun o ho=>ho⟩
theorem ext7_0 {W:World} {X Y Z:Fz} (h:ext7 W X Y 0=some Z):Z=Y:=by
 have h:some Y=some Z:=h
 cases h;rfl
theorem extM_1 {W:World} {X Z:Fz} {i:Nat} (h:extM W X i=some Z):0<X.len∧i=1000∧Z=mkX W X:=by
 unfold extM at h
 split at h
 ·rename_i hc
  cases h
  exact ⟨hc.1,hc.2,rfl⟩
 ·cases h
theorem rel_raw {W:World} {v:Value} {X:Fz} (hX:RowV W e3 v X) (hs:SlcV W 3 v) {g:Inj} {n:Nat} (hg:0<X.len→g 0=some (locR W X)) (hn:g.sig.ival n=X.len):VRel g (.lsl 0 3 false (.int .i64 0) (.symi .i64 n)) v:=by
 have hr:=hX.rel ⟨fun _=>none,⟨fun _=>0,fun _=>false,fun _=> .empty,fun _ _=>0,fun i=>if i=0 then some X else none⟩,fun _=>none⟩ 0 rfl
 obtain ⟨a,len,cap,rfl,hcm,hcap⟩:=hs
 cases hr with
 |row _ Y ao cap' k1 k2 k3=>
  have k1:some X=some Y:=k1
  cases k1
  refine .lsl 0 3 false _ _ 0 X.len cap _ rfl (by simp only [den,hn]) ⟨k2,hcm⟩ (fun h=>by cases h) (fun hp=> ?_)
  obtain ⟨ad,C,e,fr,h1,h2,h3,h4⟩:=hcap hp
  have k3:=k3 hp
  rw [h1] at k3
  have had:ad=⟨X.blk,X.off,none⟩:=by cases k3;rfl
  subst had
  refine ⟨locR W X,hg hp,by rw [h1];simp [locR],?_⟩
  have h3:W.heap[X.blk]? =some (.cells C e fr):=h3
  have e1:(locR W X).n=C.size-X.off:=by simp only [locR,h3]
  rw [e1]
  have h4:X.off+cap*3≤C.size:=h4
  omega
theorem at7 {W:World} {v0 v1:Value} {X Y:Fz} (hX:RowV W e3 v0 X) (hs:SlcV W 3 v0) (hY:RowV W d3 v1 Y) {σ0:Sig} (ht:σ0.tab=wTab) (hx:σ0.ext=ext7 W X Y) (h2:σ0.ival 2=X.len) {u:Value}
  (hu:VRel ⟨fun _=>none,σ0,fun _=>none⟩ (.agg [.symi .i64 3,.symi .i64 4,.symi .u8 5]) u):
  At wTab w7S0 94 σ0 (fra7 W X) {tmps:= #[v0,v1,u]++Array.replicate (94-3) undef,defers:=[]} W:=by
 let g0:Inj:=⟨fun i=>if i=0∧0<X.len then some (locR W X) else none,σ0,fun _=>none⟩
 have hg0: ∀i L,g0 i=some L→i=0∧0<X.len∧L=locR W X:=by
  intro i L h
  have h:(if i=0∧0<X.len then some (locR W X) else none)=some L:=h
  split at h
  ·rename_i hc;cases h;exact ⟨hc.1,hc.2,rfl⟩
  ·cases h
 have hlt:0<X.len→X.blk<W.heap.size:=fun hl=>(hX.ok hl).lt
 have notlive: ∀i,¬Live w7S0.heap i:=by
  rintro i ⟨k,hk,hne⟩
  match i,hk with
  |0,hk=>cases hk;exact hne rfl
  |i+1,hk=>cases hk
 refine ⟨⟨g0,rfl,⟨fun i L hi=> ?_,fun i j L M hi hj _ _ _=> ?_,fun i k hi hk=> ?_,fun i hi=>absurd hi (Nat.not_lt_zero i),cx0_good ht,⟨fun i Z hi hl=>⟨?_,fun j L hj lj=>absurd lj (notlive j)⟩,(fun i Z hi=>by cases hi),fun i Z h0 hi=> ?_⟩⟩,?_,fun i L hi=> ?_,fun i x hi=> ?_⟩,BelowF.refl (fra7 W X),by simp,rfl⟩
 ·obtain ⟨rfl,hl,rfl⟩:=hg0 i L hi
  exact ⟨by decide,hlt hl⟩
 ·rw [(hg0 i L hi).1,(hg0 j M hj).1]
 ·match i,hi with
  |0,hi=>cases hi;exact absurd rfl hk
  |i+1,hi=>cases hi
 ·have hi:σ0.ext i=some Z:=hi
  rw [hx] at hi
  unfold ext7 at hi
  split at hi
  ·cases hi;exact hY.ok hl
  ·split at hi
   ·rename_i hl0
    split at hi
    ·cases hi;exact rowO_ok hX hl0
    ·split at hi
     ·cases hi;exact absurd hl (Nat.lt_irrefl 0)
     ·cases hi
   ·cases hi
 ·have hi:σ0.ext i=some Z:=hi
  rw [hx] at hi
  unfold ext7 at hi
  rw [if_neg (by omega)] at hi
  split at hi
  ·rename_i hl0
   rw [if_neg (by omega)] at hi
   split at hi
   ·cases hi;exact hlt hl0
   ·cases hi
  ·cases hi
 ·intro p hp
  have hu':VRel g0 (.agg [.symi .i64 3,.symi .i64 4,.symi .u8 5]) u:=by
   exact VRel.mono (g:=⟨fun _=>none,σ0,fun _=>none⟩) (g':=g0) ⟨fun i L h=>(by cases h),rfl,fun i X h=>(by cases h)⟩ hu
  have hat: ∀(i:Nat) (v:Value),#[v0,v1,u][i]? =some v→(#[v0,v1,u]++Array.replicate (94-3) undef)[i]? =some v:=fun i v h=>by
   rw [Array.getElem?_append_left (Array.getElem?_eq_some_iff.1 h).1];exact h
  simp only [w7S0,argT,List.mem_cons,List.not_mem_nil,or_false] at hp
  rcases hp with rfl|rfl|rfl
  ·exact ⟨v0,hat 0 v0 rfl,rel_raw hX hs (fun hl=>if_pos ⟨rfl,hl⟩) h2⟩
  ·exact ⟨v1,hat 1 v1 rfl,hY.rel g0 0 (by show σ0.ext 0=_;rw [hx];rfl)⟩
  ·exact ⟨u,hat 2 u rfl,hu'⟩
 ·obtain ⟨rfl,hl,rfl⟩:=hg0 i L hi
  exact .inr ⟨hl,rfl⟩
 ·have hi:(if i=0 then some (if 0<X.len then some (locR W X) else none) else none)=some x:=hi
  split at hi
  ·rename_i h0
   subst h0
   cases hi
   refine ⟨by decide,?_⟩
   show (if 0=0∧0<X.len then some (locR W X) else none)=_
   by_cases hl:0<X.len
   ·rw [if_pos ⟨rfl,hl⟩,if_pos hl]
   ·rw [if_neg (fun h=>hl h.2),if_neg hl]
  ·cases hi
theorem turn7 {W:World} {v0:Value} {X Y:Fz} (hX:RowV W e3 v0 X) {Z:Exit→Act→World→Prop} {c:List Code} {J1 J2:Sig→Prop} {N:Nat} (hN:N≤X.len) (hN0:0<X.len→0<N)
  (h1: ∀σ,J1 σ→σ.ext=ext7 W X Y∧σ.ival 1=N)
  (h2: ∀σ,J1 σ→J2 {σ with sval:=fun i=>if i=0 then conI X N else σ.sval i,ext:=extM W X})
  (hi2: ∀σ,J1 σ→InsOk σ 8 w7K1→InsOk {σ with sval:=fun i=>if i=0 then conI X N else σ.sval i,ext:=extM W X} 8 w7K2)
  (h:Stage Try.prog wTab 94 (fra7 W X) Z c w7S2 8 w7K2 J2):Stage Try.prog wTab 94 (fra7 W X) Z c w7S1 8 w7K1 J1:=by
 intro a w σ hA hi hj ht
 obtain ⟨hxe,hn1⟩:=h1 σ hj
 refine h a w _ ?_ (hi2 σ hj hi) (h2 σ hj) ht
 obtain ⟨⟨g,rfl,hH,hT,hO,hP⟩,hb,hs,hd⟩:=hA
 let σ':Sig:={g.sig with sval:=fun i=>if i=0 then conI X N else g.sig.sval i,ext:=extM W X}
 let g':Inj:=⟨g.loc,σ',fun _=>none⟩
 have hp0:=hP 0 _ rfl
 have hraw:0<X.len→g 0=some (locR W X):=fun hl=>by rw [hp0.2,if_pos hl]
 have hfz:0<X.len→FzOk (rowO W X) w∧ ∀j L,g j=some L→Live w7S1.heap j→L.blk≠X.blk:=fun hl=>hH.frz.row 1 (rowO W X) (by rw [hxe];unfold ext7;rw [if_neg (by decide),if_pos hl,if_pos rfl]) hl
 have hobj:0<X.len→w.heap[X.blk]? =W.heap[X.blk]?:=fun hl=>by
  obtain ⟨C,e,fr,k1,k2,k3⟩:=hX.ok hl
  obtain ⟨C',e',fr',q1,q2,q3⟩:=(hfz hl).1
  exact (q3 _ k1).trans k1.symm
 have e0:N=0→(conI X N).data.toList.length=0:=fun h=>by rw [conI_len hX N hN,h]
 have live1: ∀j,j≠0→Live w7S2.heap j→Live w7S1.heap j:=by
  rintro j hj0 ⟨k,hk,hne⟩
  match j,hk with
  |0,_=>exact absurd rfl hj0
  |j+1,hk=>exact ⟨k,hk,hne⟩
 refine ⟨⟨g',rfl,⟨fun i L hi'=>hH.dom i L hi',fun i j L M hi' hj' hbl li lj=> ?_,fun i k hi' hk=> ?_,fun i hi'=>absurd hi' (Nat.not_lt_zero i),cx0_good ht,⟨fun i Q hq hl=> ?_,(fun i Q hq=>by cases hq),fun i Q h0 hq=> ?_⟩⟩,fun p hp=> ?_,hO,fun i x hi'=>⟨(hP i x hi').1,(hP i x hi').2⟩⟩,hb,hs,hd⟩
 ·by_cases i0:i=0
  ·by_cases j0:j=0
   ·rw [i0,j0]
   ·subst i0
    have hl:0<X.len:=by
     rcases Nat.eq_zero_or_pos X.len with h0|h0
     ·have h9:g 0=none:=by rw [hp0.2,if_neg (by omega)]
      have hi9:g 0=some L:=hi'
      rw [h9] at hi9;cases hi9
     ·exact h0
    have hi9:g 0=some L:=hi'
    rw [hraw hl] at hi9;cases hi9
    exact absurd hbl.symm ((hfz hl).2 j M hj' (live1 j j0 lj))
  ·by_cases j0:j=0
   ·subst j0
    have hl:0<X.len:=by
     rcases Nat.eq_zero_or_pos X.len with h0|h0
     ·have h9:g 0=none:=by rw [hp0.2,if_neg (by omega)]
      have hj9:g 0=some M:=hj'
      rw [h9] at hj9;cases hj9
     ·exact h0
    have hj9:g 0=some M:=hj'
    rw [hraw hl] at hj9;cases hj9
    exact absurd hbl ((hfz hl).2 i L hi' (live1 i i0 li))
   ·exact hH.inj i j L M hi' hj' hbl (live1 i i0 li) (live1 j j0 lj)
 ·match i,hi' with
  |0,hi'=>
   cases hi'
   rcases Nat.eq_zero_or_pos X.len with h0|hl
   ·have hN':N=0:=by omega
    refine .inl ⟨_,_,_,_,rfl,?_,?_⟩
    ·show AVal.str (conI X N)=_
     rw [hN'];rfl
    ·show AVal.int .i64 (g.sig.ival 1)=_
     rw [hn1,hN'];rfl
   ·refine .inr ⟨locR W X,hraw hl,?_⟩
    obtain ⟨C,e,fr,k1,k2,k3⟩:=hX.ok hl
    have hw:w.heap[X.blk]? =some (.cells C e fr):=(hobj hl).trans k1
    have en:(locR W X).n=C.size-X.off:=by simp only [locR,k1]
    have hsz: ∀m,m<X.len→X.off+m*3+2<C.size:=by
     intro m hm
     obtain ⟨v,q1,_⟩:=k2 m 2 hm (by rw [hX.z];decide)
     rw [hX.z] at q1
     exact (Array.getElem?_eq_some_iff.1 q1).1
    have hN1:=hN0 hl
    have hlast:=hsz (N-1) (by omega)
    refine ⟨conI X N,N,C,fr,e,rfl,?_,conI_len hX N hN,hw,?_,⟨fun h=>absurd rfl h,fun i Q h0 hq hbq=> ?_⟩,?_,fun m j hm hj=> ?_⟩
    ·show AVal.int .i64 (g.sig.ival 1)=_
     rw [hn1]
    ·show C.size=X.off+(locR W X).n
     rw [en];omega
    ·obtain ⟨_,_,rfl⟩:=extM_1 hq
     exact hobj hl
    ·show N*3≤(locR W X).n
     rw [en];omega
    ·have hj:j<3:=hj
     obtain ⟨v,q1,q2,q3⟩:=k2 m j (by omega) (by rw [hX.z];exact hj)
     refine ⟨v,by rw [hX.z] at q1;exact q1,?_,q3⟩
     rw [←conI_at hX N hN m j hm hj]
     exact q2 g'
  |1,hi'=>
   cases hi'
   rcases hH.blk0 1 _ rfl (by simp) with hz|⟨L,hL,hB⟩
   ·obtain ⟨_,_,_,_,hz,_⟩:=hz;cases hz
   ·obtain ⟨C,fr,b1,b2,b3,b4,b5⟩:=hB
    refine .inr ⟨L,hL,C,fr,b1,b2,b3,b4,fun j x hx=> ?_⟩
    obtain ⟨v,c1,c2,c3⟩:=b5 j x hx
    refine ⟨v,c1,?_,c3⟩
    match j,hx with
    |0,hx=>cases hx;cases c2;exact VRel.symi (g:=g') .i64 3
    |1,hx=>cases hx;cases c2;exact VRel.symi (g:=g') .i64 4
    |2,hx=>cases hx;cases c2;exact VRel.symi (g:=g') .u8 5
    |j+3,hx=>cases hx
  |2,hi'=>
   cases hi'
   rcases hH.blk0 2 _ rfl (by simp [lstW]) with ⟨s',n',cl',e',hk',d1,d2⟩|⟨L,hL,S,M,C,fr,e9,b1,b2,b3,b4,b5,b6,b7,b8⟩
   ·cases hk'
    exact .inl ⟨_,_,_,_,rfl,d1,d2⟩
   ·refine .inr ⟨L,hL,S,M,C,fr,e9,b1,b2,b3,b4,b5,⟨fun h9=> ?_,fun i Q h0 hq hbq=> ?_⟩,b7,fun m j hm hj=> ?_⟩
    ·obtain ⟨c1,c2,c3⟩:=b6.1 h9
     refine ⟨c1,c2,fun i Q h0 hq=> ?_⟩
     obtain ⟨hl,_,rfl⟩:=extM_1 hq
     exact fun he=>(hfz hl).2 2 L hL ⟨_,rfl,by simp [lstW]⟩ he.symm
    ·obtain ⟨hl,_,rfl⟩:=extM_1 hq
     exact absurd hbq.symm ((hfz hl).2 2 L hL ⟨_,rfl,by simp [lstW]⟩)
    ·obtain ⟨v,c1,c2,c3⟩:=b8 m j hm hj
     refine ⟨v,c1,?_,c3⟩
     obtain ⟨q0,q1,q2⟩:=cell3 S m
     have hj:j<3:=hj
     match j,hj with
     |0,_=>rw [q0] at c2⊢;cases c2;exact .int _ _
     |1,_=>rw [q1] at c2⊢;cases c2;exact .int _ _
     |2,_=>rw [q2] at c2⊢;cases c2;exact .int _ _
  |i+3,hi'=>cases hi'
 ·obtain ⟨_,_,rfl⟩:=extM_1 hq
  exact absurd hl (Nat.lt_irrefl 0)
 ·obtain ⟨hl,_,rfl⟩:=extM_1 hq
  exact hH.frz.top 1000 (mkX W X) (Nat.le_refl _) (by rw [hxe];unfold ext7;rw [if_neg (by decide),if_pos hl,if_neg (by decide),if_pos rfl])
 ·obtain ⟨u,u1,u2⟩:=hT p hp
  refine ⟨u,u1,?_⟩
  simp only [w7S2,w7T,List.mem_cons,List.not_mem_nil,or_false] at hp
  rcases hp with rfl|rfl|rfl|rfl
  ·cases u2 with
   |lsl _ _ _ _ _ o m cap ao d1 d2 d3 d4 d5=>exact .lsl 0 3 false _ _ o m cap ao d1 d2 d3 d4 d5
  ·cases u2 with
   |ptr _ _ L q=>exact .ptr _ _ L q
  ·cases u2;exact .bool _
  ·cases u2 with
   |lsl _ _ _ _ _ o m cap ao d1 d2 d3 d4 d5=>exact .lsl 2 3 true _ _ o m cap ao d1 d2 d3 d4 d5
theorem end7 {W:World} {X:Fz} {σ:Sig} {x:SEx} {N:Nat} (hx:x=.ret∨x=.normal) (he:σ.ext=extM W X) (hn:σ.ival 1=N) (hN0:0<X.len→0<N):
  EndZ wTab 94 (fra7 W X) (bodyPost Try.prog Try.f7 (fun e W'=>e=.returned (encR [.one .b] [1])∧Below W.heap.size W W')) x w7SE σ:=by
 intro e a w hxe hA
 obtain ⟨g,rfl,hH,hT,hO,hP⟩:=hA.ex
 have hT1:TRel g (tmOf w7SE 94) a:=by
  refine ⟨by simp only [tmOf,hA.size];exact Nat.le_refl _,?_⟩
  intro i v hv
  exact hT _ (tmOf_get hv)
 have hm:resA Try.prog (tmOf w7SE 94) w7SE.heap Try.f7.results.toList=some [.bool true]:=by kernel_rfl
 obtain ⟨u,hres,h2⟩:=results_run hH hT1 hm
 have hu:u=encR [.one .b] [1]:=outOk_rel (outs:=[.one .b]) (l:=[1]) (g:=g) ⟨rfl,trivial⟩ h2
 subst hu
 have hbel:Below W.heap.size W w:=by
  refine ⟨hA.below.os,hA.below.tape,hA.below.output,hA.below.size,fun k hk=> ?_⟩
  by_cases hr:0<X.len∧k=X.blk
  ·obtain ⟨hl,rfl⟩:=hr
   have hp0:=hP 0 _ rfl
   have hraw:g 0=some (locR W X):=by rw [hp0.2,if_pos hl]
   rcases hH.blk0 0 _ rfl (by simp [lst0]) with ⟨s',n',cl',e',hk',d1,d2⟩|⟨L,hL,S,M,C,fr,e9,b1,b2,b3,b4,b5,b6,b7,b8⟩
   ·cases hk'
    simp only [den,AVal.int.injEq,true_and] at d2
    have:=hN0 hl
    omega
   ·rw [hraw] at hL;cases hL
    exact b6.2 1000 (mkX W X) (Nat.le_refl _) (by rw [he];unfold extM;rw [if_pos ⟨hl,rfl⟩]) rfl
  ·exact hA.below.frame k hk (fun ho=>by
    rcases ho with h|h
    ·have h:W.heap.size≤k:=h
     omega
    ·exact hr h)
 have:a.defers=[]∧ ∃v,(results Try.f7 a.tmps).run Try.prog w=.ok v w∧(Ending.returned v=.returned (encR [.one .b] [1])∧Below W.heap.size W w):=⟨hA.defers,_,hres,rfl,hbel⟩
 cases e with
 |normal=>exact this
 |ret=>exact this
 |_=>rcases hx with rfl|rfl<;>exact hxe.elim
end Go.Proofs.Ytapfkgenachpgaa.wc
