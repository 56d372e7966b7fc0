/-
 slices.Insert of one input into a list of inputs: the contract.
 No conditions.
-/
import Derived.Test.YtapfkgenachpgaaWin
import Derived.Test.YtapfkgenachpgaaWf
namespace Go.Proofs.Ytapfkgenachpgaa.wc
open Go.Ev Go.RowKit Go.Wpl Go.Wt
set_option linter.unusedVariables false
set_option linter.unusedSimpArgs false
def flatE:List E3→List Value
 |[]=>[]
 |x::l=> .int .i64 x.t::.int .i64 x.k::.int .u8 x.v::flatE l
theorem flatE_len: ∀l:List E3,(flatE l).length=l.length*3
 |[]=>rfl
 |x::l=>by simp only [flatE,List.length_cons,flatE_len l];omega
theorem flatE_append: ∀l m:List E3,flatE (l++m)=flatE l++flatE m
 |[],m=>rfl
 |x::l,m=>by simp only [List.cons_append,flatE,flatE_append l m]
theorem flatE_take: ∀(l:List E3) (i:Nat),(flatE l).take (i*3)=flatE (l.take i)
 |_,0=>by simp [flatE]
 |[],i+1=>by simp [flatE]
 |x::l,i+1=>by
  rw [show (i+1)*3=i*3+1+1+1 by omega]
  simp only [flatE,List.take_succ_cons,flatE_take l i]
theorem flatE_drop: ∀(l:List E3) (i:Nat),(flatE l).drop (i*3)=flatE (l.drop i)
 |_,0=>by simp
 |[],i+1=>by simp [flatE]
 |x::l,i+1=>by
  rw [show (i+1)*3=i*3+1+1+1 by omega]
  simp only [flatE,List.drop_succ_cons,flatE_drop l i]
theorem flatE_one: ∀(l:List E3) (v:Value),v∈flatE l→v.oneCell'=true
 |[],v,h=>by cases h
 |x::l,v,h=>by
  simp only [flatE,List.mem_cons] at h
  rcases h with rfl|rfl|rfl|h
  ·rfl
  ·rfl
  ·rfl
  ·exact flatE_one l v h
theorem flatE_get: ∀(l:List E3) (m:Nat) (x:E3),l[m]? =some x→(flatE l)[m*3]? =some (.int .i64 x.t)∧(flatE l)[m*3+1]? =some (.int .i64 x.k)∧(flatE l)[m*3+2]? =some (.int .u8 x.v)
 |[],m,x,h=>by simp at h
 |y::l,0,x,h=>by simp at h;subst h;exact ⟨rfl,rfl,rfl⟩
 |y::l,m+1,x,h=>by
  rw [List.getElem?_cons_succ] at h
  obtain ⟨h1,h2,h3⟩:=flatE_get l m x h
  rw [show (m+1)*3=m*3+1+1+1 by omega]
  simp only [flatE]
  exact ⟨by simpa using h1,by simpa using h2,by simpa using h3⟩
theorem cell3 (C:ByteArray) (m:Nat):rowAtD cl3 C m 0=.int .i64 (rowE C m).t∧rowAtD cl3 C m 1=.int .i64 (rowE C m).k∧rowAtD cl3 C m 2=.int .u8 (rowE C m).v:=by
 have key: ∀(i:Nat) (k:IntKind),cl3[i]? =some (some k)→rowAtD cl3 C m i=.int k (iOf (rowAtD cl3 C m i)):=by
  intro i k hk
  rcases cellD_like cl3 i (C.data.toList.drop (m*rsz cl3)) with ⟨k',n,h1,h2⟩|⟨h1,_⟩
  ·rw [hk] at h1;cases h1
   have:rowAtD cl3 C m i=.int k n:=h2
   rw [this];rfl
  ·exact absurd hk (h1 k)
 exact ⟨key 0 .i64 rfl,key 1 .i64 rfl,key 2 .u8 rfl⟩
structure LayE (w:World) (L:Ev.Loc) (e:TypeId) (l:List E3):Prop where
 ex: ∃C fr,w.heap[L.blk]? =some (.cells C e fr)∧C.size=L.dl+L.n∧FrOkL cl3 fr C∧l.length*3≤L.n∧ ∀k v,(flatE l)[k]? =some v→C[L.dl+k]? =some v
theorem mark_no {g:Inj} {w:World} {s n:AVal} {cl:List (Option IntKind)} {e:TypeId} {L:Ev.Loc} (h:BRel g w (.lst s n cl e) L) (he:e≠0): ∀i X,1000≤i→g.sig.ext i=some X→X.blk≠L.blk:=by
 obtain ⟨S,N,C,fr,e',h1,h2,h3,h4,h5,h6,h7,h8⟩:=h
 exact (h6.1 he).2.2
theorem lay_of {g:Inj} {w:World} {s n:AVal} {e:TypeId} {L:Ev.Loc} {S:ByteArray} {N:Nat} (h:BRel g w (.lst s n cl3 e) L) (hs:den g.sig s=.str S) (hn:den g.sig n=.int .i64 (N:Int)) (he:e≠0):LayE w L e (lstE S N):=by
 obtain ⟨S',N',C,fr,e',h1,h2,h3,h4,h5,h6,h7,h8⟩:=h
 obtain ⟨rfl,h6,_⟩:=h6.1 he
 rw [hs] at h1;cases h1
 rw [hn] at h2
 simp only [AVal.int.injEq,true_and] at h2
 have h2:N=N':=by omega
 subst h2
 refine ⟨C,fr,h4,h5,h6,by rw [lstE_len];exact h7,fun k v hk=> ?_⟩
 have hkl:k<N*3:=by
  have:=(List.getElem?_eq_some_iff.1 hk).1
  rw [flatE_len,lstE_len] at this;exact this
 have hm:k/3<N:=by omega
 obtain ⟨f0,f1,f2⟩:=flatE_get (lstE S N) (k/3) _ (lstE_get hm)
 obtain ⟨c0,c1,c2⟩:=cell3 S (k/3)
 have at_: ∀j,j<3→ ∃u,C[L.dl+k/3*3+j]? =some u∧VRel g (rowAtD cl3 S (k/3) j) u:=fun j hj=>by
  obtain ⟨u,u1,u2,_⟩:=h8 (k/3) j hm hj
  exact ⟨u,u1,u2⟩
 have h3:k%3=0∨k%3=1∨k%3=2:=by omega
 rcases h3 with h3|h3|h3
 ·obtain ⟨u,u1,u2⟩:=at_ 0 (by omega)
  rw [c0] at u2
  cases u2
  rw [show k/3*3=k by omega] at f0
  rw [hk] at f0
  rw [f0,←u1];congr 1;omega
 ·obtain ⟨u,u1,u2⟩:=at_ 1 (by omega)
  rw [c1] at u2
  cases u2
  rw [show k/3*3+1=k by omega] at f1
  rw [hk] at f1
  rw [f1,←u1];congr 1;omega
 ·obtain ⟨u,u1,u2⟩:=at_ 2 (by omega)
  rw [c2] at u2
  cases u2
  rw [show k/3*3+2=k by omega] at f2
  rw [hk] at f2
  rw [f2,←u1];congr 1;omega
theorem of_lay {g:Inj} {w:World} {s n:AVal} {e:TypeId} {L:Ev.Loc} {l:List E3} (h:LayE w L e l) (hok: ∀x,x∈l→okV x) (hs:den g.sig s=.str (Wt.encL l)) (hn:den g.sig n=.int .i64 (l.length:Int)) (hm: ∀i X,1000≤i→g.sig.ext i=some X→X.blk≠L.blk):BRel g w (.lst s n cl3 e) L:=by
 obtain ⟨C,fr,h1,h2,h3,h4,h5⟩:=h
 refine ⟨Wt.encL l,l.length,C,fr,e,hs,hn,encL_len hok,h1,h2,⟨fun _=>⟨rfl,h3,hm⟩,fun i X hi hX he=>absurd he (hm i X hi hX)⟩,h4,fun m j hmm hj=> ?_⟩
 have hx:=lstE_get (C:=Wt.encL l) hmm
 rw [lstE_enc hok] at hx
 obtain ⟨f0,f1,f2⟩:=flatE_get l m _ hx
 obtain ⟨c0,c1,c2⟩:=cell3 (Wt.encL l) m
 have hj:j<3:=hj
 show∃v,C[L.dl+m*3+j]? =some v∧_
 match j,hj with
 |0,_=>exact ⟨_,by rw [show L.dl+m*3+0=L.dl+(m*3) by omega];exact h5 _ _ f0,by rw [c0];exact .int _ _,rfl⟩
 |1,_=>exact ⟨_,by rw [show L.dl+m*3+1=L.dl+(m*3+1) by omega];exact h5 _ _ f1,by rw [c1];exact .int _ _,rfl⟩
 |2,_=>exact ⟨_,by rw [show L.dl+m*3+2=L.dl+(m*3+2) by omega];exact h5 _ _ f2,by rw [c2];exact .int _ _,rfl⟩
theorem setCells_at (b:Nat): ∀(vs:List Value) (o:Nat) (w:World) (C:Array Value) (e:TypeId) (fr:Nat×Nat),w.heap[b]? =some (.cells C e fr)→o+vs.length≤C.size→(∀v,v∈vs→v.oneCell'=true)→FrOk fr C→
  ∃C',(w.setCells b o vs).heap[b]? =some (.cells C' e fr)∧C'.size=C.size∧FrOk fr C'∧Wr b w (w.setCells b o vs)∧(∀k,k<o∨o+vs.length≤k→C'[k]? =C[k]?)∧ ∀k v,vs[k]? =some v→C'[o+k]? =some v
 |[],o,w,C,e,fr,hb,_,_,hf=>⟨C,hb,rfl,hf,Wr.refl b w,fun _ _=>rfl,fun k v h=>by simp at h⟩
 |v::r,o,w,C,e,fr,hb,hle,h1,hf=>by
  simp only [List.length_cons] at hle
  have hf2:FrOk fr (C.setIfInBounds o v):=⟨by rw [Array.size_setIfInBounds];exact hf.not,by rw [Array.size_setIfInBounds];exact hf.eq,fun u hu=>by
   rcases List.getElem?_of_mem hu with ⟨k,hk⟩
   rw [Array.getElem?_toList,Array.getElem?_setIfInBounds] at hk
   split at hk
   ·split at hk
    ·cases hk;exact h1 v (by simp)
    ·cases hk
   ·exact hf.one u (by rw [←Array.getElem?_toList] at hk;exact List.mem_of_getElem? hk)⟩
  obtain ⟨C',c1,c2,c3,c4,c5,c6⟩:=setCells_at b r (o+1) (w.setCell ⟨b,o,none⟩ v) _ e fr (setCell_heap w b o v hb) (by rw [Array.size_setIfInBounds];omega) (fun u hu=>h1 u (by simp [hu])) hf2
  refine ⟨C',c1,by rw [c2,Array.size_setIfInBounds],c3,(setCell_other w b o v).trans c4,fun k hk=> ?_,fun k u hk=> ?_⟩
  ·simp only [List.length_cons] at hk
   rw [c5 k (by omega),Array.getElem?_setIfInBounds,if_neg (by omega)]
  ·cases k with
   |zero=>
    simp at hk;subst hk
    rw [c5 (o+0) (by omega),Array.getElem?_setIfInBounds,if_pos (by omega),if_pos (by omega)]
   |succ k=>
    rw [List.getElem?_cons_succ] at hk
    have:=c6 k u hk
    rw [show o+(k+1)=o+1+k by omega];exact this
end Go.Proofs.Ytapfkgenachpgaa.wc
