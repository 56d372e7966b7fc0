/-
 What Set leaves, as a list; the search for the next input.
 No conditions.
-/
import Derived.Test.YtapfkgenachpgaaWs3
import Derived.Test.YtapfkgenachpgaaWi
namespace Go.Proofs.Ytapfkgenachpgaa.wc
open Go.Ev Go.RowKit Go.Wpl Go.Wt
set_option linter.unusedVariables false
set_option linter.unusedSimpArgs false
theorem set_okV {l:List E3} {x:E3} (hl: ∀y,y∈l→okV y) (hx:okV x): ∀y,y∈set l x→okV y:=by
 intro y hy
 have hy:y∈l.filter (fun a=>Wpl.ahead a x)++x::l.filter (fun a=>Wpl.ahead x a):=hy
 rcases List.mem_append.1 hy with h|h
 ·exact hl y (List.mem_filter.1 h).1
 ·rcases List.mem_cons.1 h with rfl|h
  ·exact hx
  ·exact hl y (List.mem_filter.1 h).1
theorem rowE_upd {S:ByteArray} {N p:Nat} {x:E3} (hS:S.data.toList.length=N*17) (hp:p<N) (hx:okV x):
  (⟨(updR cl3 S.data.toList p [.int .i64 x.t,.int .i64 x.k,.int .u8 x.v]).toArray⟩:ByteArray).data.toList.length=N*17∧ ∀k,rowE ⟨(updR cl3 S.data.toList p [.int .i64 x.t,.int .i64 x.k,.int .u8 x.v]).toArray⟩ k=if k=p then x else rowE S k:=by
 have:=updR_at (ng:=cx0 (fun _ _=>0)) (σ:=⟨fun _=>0,fun _=>false,fun _=> .empty,fun _ _=>0,fun _=>none⟩) (cx0_good rfl) (cl:=cl3) (l:=[.int .i64 x.t,.int .i64 x.k,.int .u8 x.v]) (S:=S) (N:=N) (m:=p) hS hp (okX hx)
 obtain ⟨h1,h2⟩:=this
 refine ⟨h1,fun k=> ?_⟩
 have a0:=h2 k 0 (by decide)
 have a1:=h2 k 1 (by decide)
 have a2:=h2 k 2 (by decide)
 have e:([.int .i64 x.t,.int .i64 x.k,.int .u8 x.v]:List AVal).map (den (⟨fun _=>0,fun _=>false,fun _=> .empty,fun _ _=>0,fun _=>none⟩:Sig))=[.int .i64 x.t,.int .i64 x.k,.int .u8 x.v]:=rfl
 rw [e] at a0 a1 a2
 by_cases hk:k=p
 ·rw [if_pos hk] at a0 a1 a2⊢
  simp only [rowE,a0,a1,a2]
  rfl
 ·rw [if_neg hk] at a0 a1 a2⊢
  simp only [rowE,a0,a1,a2]
theorem setS_lst {S:ByteArray} {N:Nat} {l:List E3} {x:E3} (hS:S.data.toList.length=N*17) (hl:lstE S N=l) (hScr:Script l) (hx:okV x):
  (Wt.setS S l x).data.toList.length=(set l x).length*17∧lstE (Wt.setS S l x) (set l x).length=set l x:=by
 have hlok: ∀y,y∈l→okV y:=by rw [←hl];exact lstE_ok
 have hln:l.length=N:=by rw [←hl,lstE_len]
 obtain ⟨sc1,sc2⟩:=set_cases (x:=x) hScr
 cases hany:(l.any fun a=>decide (a.t=x.t∧a.k=x.k)) with
 |true=>
  obtain ⟨q1,q2,q3⟩:=sc1 hany
  rw [Wt.setS,if_pos hany]
  obtain ⟨u1,u2⟩:=rowE_upd (p:=(l.filter fun a=>Wpl.ahead a x).length) hS (by omega) hx
  refine ⟨by rw [u1,q1,hln],?_⟩
  rw [q1,q3]
  apply List.ext_getElem?
  intro k
  by_cases hk:k<l.length
  ·rw [lstE_get hk,u2 k,List.getElem?_set]
   by_cases he:k=(l.filter fun a=>Wpl.ahead a x).length
   ·rw [if_pos he,if_pos he.symm,if_pos (by omega)]
   ·rw [if_neg he,if_neg (fun h=>he h.symm)]
    have:=lstE_get (C:=S) (N:=N) (j:=k) (by omega)
    rw [hl] at this
    exact this.symm
  ·rw [List.getElem?_eq_none (by rw [lstE_len];omega),List.getElem?_eq_none (by rw [List.length_set];omega)]
 |false=>
  rw [Wt.setS,if_neg (by rw [hany];simp)]
  have ho:=set_okV hlok hx
  exact ⟨encL_len ho,lstE_enc ho⟩
end Go.Proofs.Ytapfkgenachpgaa.wc
