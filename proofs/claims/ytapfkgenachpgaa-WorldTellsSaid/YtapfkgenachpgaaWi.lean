/-
 A row of three bytes as a string; a player, stepped.
 No conditions.
-/
import Derived.Test.YtapfkgenachpgaaWh
namespace Go.Proofs.Ytapfkgenachpgaa.wc
open Go.Ev Go.RowKit Go.Wpl Go.Wt
set_option linter.unusedVariables false
set_option linter.unusedSimpArgs false
def conR (X:Fz):Nat→ByteArray
 |0=> .empty
 |n+1=>conR X n++⟨(rowB c3 [X.val n 0,X.val n 1,X.val n 2]).toArray⟩
theorem el3 {W:World} {v:Value} {X:Fz} (hX:RowV W d3 v X) {m:Nat} (hm:m<X.len): ∃a b c:Int,X.val m 0=.int .u8 a∧X.val m 1=.int .u8 b∧X.val m 2=.int .u8 c∧IntKind.u8.wrap a=a∧IntKind.u8.wrap b=b∧IntKind.u8.wrap c=c:=by
 obtain ⟨a,a1,a2⟩:=el_get (hX.els m hm) (j:=0) (z:=.i .u8) rfl
 obtain ⟨b,b1,b2⟩:=el_get (hX.els m hm) (j:=1) (z:=.i .u8) rfl
 obtain ⟨c,c1,c2⟩:=el_get (hX.els m hm) (j:=2) (z:=.i .u8) rfl
 exact ⟨a,b,c,a2,b2,c2,a1,b1,c1⟩
theorem row3_ok {a b c:Int} (h1:IntKind.u8.wrap a=a) (h2:IntKind.u8.wrap b=b) (h3:IntKind.u8.wrap c=c):okCs (cx0 (fun _ _=>0)) c3 [.int .u8 a,.int .u8 b,.int .u8 c]=true:=by
 simp [okCs,okC,c3,h1,h2,h3]
theorem row3_len {W:World} {v:Value} {X:Fz} (hX:RowV W d3 v X) {m:Nat} (hm:m<X.len):(rowB c3 [X.val m 0,X.val m 1,X.val m 2]).length=3:=by
 obtain ⟨a,b,c,e1,e2,e3,h1,h2,h3⟩:=el3 hX hm
 rw [e1,e2,e3]
 exact rowB_len (σ:=⟨fun _=>0,fun _=>false,fun _=> .empty,fun _ _=>0,fun _=>none⟩) (row3_ok h1 h2 h3)
theorem conR_len {W:World} {v:Value} {X:Fz} (hX:RowV W d3 v X): ∀n,n≤X.len→(conR X n).data.toList.length=n*3
 |0,_=>rfl
 |n+1,h=>by
  have e:(conR X (n+1)).data.toList=(conR X n).data.toList++rowB c3 [X.val n 0,X.val n 1,X.val n 2]:=by simp [conR,ByteArray.data_append]
  rw [e,List.length_append,conR_len hX n (by omega),row3_len hX (by omega)];omega
theorem rsz_c3:rsz c3=3:=rfl
theorem conR_at {W:World} {v:Value} {X:Fz} (hX:RowV W d3 v X): ∀n,n≤X.len→ ∀m j,m<n→j<3→X.val m j=rowAtD c3 (conR X n) m j
 |0,_,m,j,hm,_=>absurd hm (Nat.not_lt_zero m)
 |n+1,h,m,j,hm,hj=>by
  rw [conR,rowAtD_append (N:=n) (by rw [rsz_c3];exact conR_len hX n (by omega))]
  by_cases e:m<n
  ·rw [if_pos e];exact conR_at hX n (by omega) m j e hj
  ·have:m=n:=by omega
   subst this
   rw [if_neg e,Nat.sub_self]
   obtain ⟨a,b,c,e1,e2,e3,h1,h2,h3⟩:=el3 hX (show m<X.len by omega)
   have key:=cellD_rowB (ng:=cx0 (fun _ _=>0)) (σ:=⟨fun _=>0,fun _=>false,fun _=> .empty,fun _ _=>0,fun _=>none⟩) (cx0_good rfl) [] (row3_ok h1 h2 h3)
   rw [List.append_nil] at key
   unfold rowAtD
   rw [Nat.zero_mul,List.drop_zero,e1,e2,e3]
   match j,hj with
   |0,_=>rw [e1];exact (key 0 _ rfl).symm
   |1,_=>rw [e2];exact (key 1 _ rfl).symm
   |2,_=>rw [e3];exact (key 2 _ rfl).symm
theorem conR_str {W:World} {v:Value} {X:Fz} (hX:RowV W d3 v X) {σ:Sig} {i:Nat} (h:σ.sval i=conR X X.len):StrX σ (.syms i) c3 X:=
 ⟨hX.z.symm,conR X X.len,congrArg AVal.str h,conR_len hX _ (Nat.le_refl _),fun m j hm hj=>conR_at hX _ (Nat.le_refl _) m j hm (by rw [hX.z] at hj;exact hj)⟩
structure LvOk (s:Lv):Prop where
 v0:IntKind.u8.wrap s.v0=s.v0
 v1:IntKind.u8.wrap s.v1=s.v1
 v2:IntKind.u8.wrap s.v2=s.v2
 vc:IntKind.i64.wrap s.came=s.came
theorem LvOk.take {s:Lv} (h:LvOk s) {x:E3} (hx:okV x):LvOk (s.take x):=by
 obtain ⟨h1,h2,h3⟩:=hx
 refine ⟨?_,?_,?_,?_⟩
 ·rw [tk0];cases x.k==0<;>simp [h.v0,h3]
 ·rw [tk1];cases x.k==0<;>cases x.k==1<;>simp [h.v1,h3]
 ·rw [tk2];cases x.k==0<;>cases x.k==1<;>simp [h.v2,h3]
 ·rw [tkc];cases x.k==0<;>cases x.k==1<;>simp [h.vc,h1]
theorem LvOk.fold: ∀{l:List E3} {s:Lv},LvOk s→(∀x,x∈l→okV x)→LvOk (l.foldl Lv.take s)
 |[],_,h,_=>h
 |x::l,s,h,hl=>LvOk.fold (l:=l) (s:=s.take x) (h.take (hl x (by simp))) (fun y hy=>hl y (by simp [hy]))
theorem LvOk.zero:LvOk Lv.zero:=⟨rfl,rfl,rfl,rfl⟩
theorem on_c (s:List E3): ∀i:Nat,(Pl.on s i).c=i
 |0=>rfl
 |i+1=>by
  show (Pl.on s i).c+1=_
  rw [on_c s i];omega
theorem on_s (s:List E3) (i:Nat):(Pl.on s (i+1)).s=(upto (Pl.on s i).rest ((i:Int)+1)).foldl Lv.take (Pl.on s i).s:=by
 show (upto (Pl.on s i).rest ((Pl.on s i).c+1)).foldl Lv.take (Pl.on s i).s=_
 rw [on_c]
theorem on_rest (s:List E3) (i:Nat):(Pl.on s (i+1)).rest=(Pl.on s i).rest.drop (upto (Pl.on s i).rest ((i:Int)+1)).length:=by
 show (Pl.on s i).rest.drop (upto (Pl.on s i).rest ((Pl.on s i).c+1)).length=_
 rw [on_c]
structure PlI (s:List E3) (i:Nat) (a0 a1 a2 a3 off n:Int):Prop where
 v0:a0=(Pl.on s i).s.v0
 v1:a1=(Pl.on s i).s.v1
 v2:a2=(Pl.on s i).s.v2
 vc:a3=(Pl.on s i).s.came
 ok:LvOk (Pl.on s i).s
 o: ∃o:Nat,off=o∧o≤s.length∧n=(s.length:Int)-o∧(Pl.on s i).rest=s.drop o
theorem PlI.zero (s:List E3):PlI s 0 0 0 0 0 0 s.length:=⟨rfl,rfl,rfl,rfl,LvOk.zero,0,rfl,Nat.zero_le _,by omega,rfl⟩
theorem PlI.pc {s:List E3} {i:Nat} {a0 a1 a2 a3 off n:Int} (h:PlI s i a0 a1 a2 a3 off n) (hs: ∀x,x∈s→okV x) (hScr:Script s):(!(wTab 203 [encB (Wt.encL s),off,n]==0))=true:=by
 obtain ⟨o,h1,h2,h3,_⟩:=h.o
 rw [tab203,b01_ne,decL_enc hs]
 simp only [decide_eq_true_eq]
 exact ⟨check_zero.2 hScr,by omega,by omega,by omega⟩
theorem PlI.next {s:List E3} {i:Nat} {a0 a1 a2 a3 off n:Int} (h:PlI s i a0 a1 a2 a3 off n) (hs: ∀x,x∈s→okV x) (hl:s.length≤1000) {c:Int} (hc:c=(i:Int)+1) {b0 b1 b2 b3 cnt off' n':Int}
  (h0:b0=IntKind.u8.wrap (wTab 240 [encB (Wt.encL s),off,n,c,a0,a1,a2,a3])) (h1:b1=IntKind.u8.wrap (wTab 241 [encB (Wt.encL s),off,n,c,a0,a1,a2,a3])) (h2:b2=IntKind.u8.wrap (wTab 242 [encB (Wt.encL s),off,n,c,a0,a1,a2,a3]))
  (h3:b3=IntKind.i64.wrap (wTab 243 [encB (Wt.encL s),off,n,c,a0,a1,a2,a3])) (h4:cnt=IntKind.i64.wrap (wTab 244 [encB (Wt.encL s),off,n,c])) (h5:off'=IntKind.i64.wrap (off+cnt)) (h6:n'=IntKind.i64.wrap (n-cnt)):
  PlI s (i+1) b0 b1 b2 b3 off' n':=by
 obtain ⟨o,o1,o2,o3,o4⟩:=h.o
 have hpc: ∀l:List Int,piece (encB (Wt.encL s)::off::n::l)=s.drop o:=by
  intro l
  have:piece (encB (Wt.encL s)::off::n::l)=((decL (encB (Wt.encL s))).drop off.toNat).take n.toNat:=rfl
  rw [this,decL_enc hs,o1,Int.toNat_natCast]
  exact List.take_of_length_le (by rw [List.length_drop];omega)
 have hnx:nxL [encB (Wt.encL s),off,n,c,a0,a1,a2,a3]=(Pl.on s (i+1)).s:=by
  have:nxL [encB (Wt.encL s),off,n,c,a0,a1,a2,a3]=(upto (piece [encB (Wt.encL s),off,n,c,a0,a1,a2,a3]) c).foldl Lv.take ⟨a0,a1,a2,a3⟩:=rfl
  rw [this,hpc,on_s,o4,hc,h.v0,h.v1,h.v2,h.vc]
 have hok:LvOk (Pl.on s (i+1)).s:=by
  rw [on_s]
  refine h.ok.fold fun x hx=>hs x ?_
  rw [o4] at hx
  exact List.mem_of_mem_drop (List.mem_filter.1 hx).1
 have e0:wTab 240 [encB (Wt.encL s),off,n,c,a0,a1,a2,a3]=(nxL [encB (Wt.encL s),off,n,c,a0,a1,a2,a3]).v0:=rfl
 have e1:wTab 241 [encB (Wt.encL s),off,n,c,a0,a1,a2,a3]=(nxL [encB (Wt.encL s),off,n,c,a0,a1,a2,a3]).v1:=rfl
 have e2:wTab 242 [encB (Wt.encL s),off,n,c,a0,a1,a2,a3]=(nxL [encB (Wt.encL s),off,n,c,a0,a1,a2,a3]).v2:=rfl
 have e3:wTab 243 [encB (Wt.encL s),off,n,c,a0,a1,a2,a3]=(nxL [encB (Wt.encL s),off,n,c,a0,a1,a2,a3]).came:=rfl
 have e4:wTab 244 [encB (Wt.encL s),off,n,c]=((upto (piece [encB (Wt.encL s),off,n,c]) c).length:Int):=rfl
 rw [e0,hnx,hok.v0] at h0
 rw [e1,hnx,hok.v1] at h1
 rw [e2,hnx,hok.v2] at h2
 rw [e3,hnx,hok.vc] at h3
 rw [e4,hpc] at h4
 have hul:=upto_le (s.drop o) c
 rw [List.length_drop] at hul
 rw [wr_i64] at h4 h5 h6
 refine ⟨h0,h1,h2,h3,hok,o+(upto (s.drop o) c).length,by omega,by omega,by omega,?_⟩
 rw [on_rest,o4,List.drop_drop,hc]
theorem PlI.out {s:List E3} {i:Nat} {a0 a1 a2 a3 off n:Int} (h:PlI s (i+1) a0 a1 a2 a3 off n) (hScr:Script s):Now.mk a0 a2 (decide (a3=((i+1:Nat):Int))) (if a3=((i+1:Nat):Int) then a1 else 0)=at_ s ((i+1:Nat):Int):=by
 rw [←Pl.on_out hScr (by omega)]
 show _=(Pl.on s (i+1)).s.now (Pl.on s (i+1)).c
 rw [on_c,h.v0,h.v1,h.v2,h.vc]
 rfl
theorem PlI.byte {s:List E3} {i:Nat} {a0 a1 a2 a3 off n:Int} (h:PlI s (i+1) a0 a1 a2 a3 off n) (hScr:Script s):IntKind.u8.wrap (at_ s ((i+1:Nat):Int)).pins=(at_ s ((i+1:Nat):Int)).pins∧IntKind.u8.wrap (at_ s ((i+1:Nat):Int)).mask=(at_ s ((i+1:Nat):Int)).mask∧IntKind.u8.wrap (at_ s ((i+1:Nat):Int)).byte=(at_ s ((i+1:Nat):Int)).byte:=by
 rw [←h.out hScr]
 have h0:=h.ok.v0
 have h1:=h.ok.v1
 have h2:=h.ok.v2
 rw [←h.v0] at h0
 rw [←h.v1] at h1
 rw [←h.v2] at h2
 refine ⟨h0,h2,?_⟩
 show IntKind.u8.wrap (if a3=((i+1:Nat):Int) then a1 else 0)=if a3=((i+1:Nat):Int) then a1 else 0
 split
 ·exact h1
 ·rfl
end Go.Proofs.Ytapfkgenachpgaa.wc
